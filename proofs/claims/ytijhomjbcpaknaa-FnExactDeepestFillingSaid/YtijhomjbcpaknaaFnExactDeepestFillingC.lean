/- A part of the proof of FnExactDeepestFilling: what the functions of the program compute, walked on the model. No condition. -/
import Derived.Test.YtijhomjbcpaknaaChecked
import Derived.Test.YtijhomjbcpaknaaFnExactDeepestFillingB
set_option linter.unusedSimpArgs false
namespace Go.Proofs
open Go Go.Ga Go.Ga.Rp Go.Ga.Flat
theorem mixedT : Try.prog.follows .mixedOrders = true := by kernel_rfl
theorem eg116 : Try.prog.eqGuardType Try.prog.depth 116 = false := by kernel_rfl
theorem ok100 : CallOk Try.prog 100 := .of Try.func100 rfl (by decide)
theorem ok101 : CallOk Try.prog 101 := .of Try.func101 rfl (by decide)
theorem ok102 : CallOk Try.prog 102 := .of Try.func102 rfl (by decide)
theorem ok103 : CallOk Try.prog 103 := .of Try.func103 rfl (by decide)
theorem ok104 : CallOk Try.prog 104 := .of Try.func104 rfl (by decide)
theorem ok105 : CallOk Try.prog 105 := .of Try.func105 rfl (by decide)
theorem ok106 : CallOk Try.prog 106 := .of Try.func106 rfl (by decide)
theorem ok107 : CallOk Try.prog 107 := .of Try.func107 rfl (by decide)
theorem ok108 : CallOk Try.prog 108 := .of Try.func108 rfl (by decide)
theorem ok109 : CallOk Try.prog 109 := .of Try.func109 rfl (by decide)
theorem ok110 : CallOk Try.prog 110 := .of Try.func110 rfl (by decide)
theorem ok111 : CallOk Try.prog 111 := .of Try.func111 rfl (by decide)
theorem ok112 : CallOk Try.prog 112 := .of Try.func112 rfl (by decide)
theorem ok113 : CallOk Try.prog 113 := .of Try.func113 rfl (by decide)
theorem ok114 : CallOk Try.prog 114 := .of Try.func114 rfl (by decide)
theorem ok115 : CallOk Try.prog 115 := .of Try.func115 rfl (by decide)
theorem ok116 : CallOk Try.prog 116 := .of Try.func116 rfl (by decide)
theorem ok117 : CallOk Try.prog 117 := .of Try.func117 rfl (by decide)
theorem ok118 : CallOk Try.prog 118 := .of Try.func118 rfl (by decide)
theorem ok119 : CallOk Try.prog 119 := .of Try.func119 rfl (by decide)
theorem ok12 : CallOk Try.prog 12 := .of Try.func12 rfl (by decide)
theorem ok120 : CallOk Try.prog 120 := .of Try.func120 rfl (by decide)
theorem ok121 : CallOk Try.prog 121 := .of Try.func121 rfl (by decide)
theorem ok122 : CallOk Try.prog 122 := .of Try.func122 rfl (by decide)
theorem ok123 : CallOk Try.prog 123 := .of Try.func123 rfl (by decide)
theorem ok124 : CallOk Try.prog 124 := .of Try.func124 rfl (by decide)
theorem ok125 : CallOk Try.prog 125 := .of Try.func125 rfl (by decide)
theorem ok126 : CallOk Try.prog 126 := .of Try.func126 rfl (by decide)
theorem ok127 : CallOk Try.prog 127 := .of Try.func127 rfl (by decide)
theorem ok128 : CallOk Try.prog 128 := .of Try.func128 rfl (by decide)
theorem ok129 : CallOk Try.prog 129 := .of Try.func129 rfl (by decide)
theorem ok13 : CallOk Try.prog 13 := .of Try.func13 rfl (by decide)
theorem ok130 : CallOk Try.prog 130 := .of Try.func130 rfl (by decide)
theorem ok131 : CallOk Try.prog 131 := .of Try.func131 rfl (by decide)
theorem ok132 : CallOk Try.prog 132 := .of Try.func132 rfl (by decide)
theorem ok133 : CallOk Try.prog 133 := .of Try.func133 rfl (by decide)
theorem ok134 : CallOk Try.prog 134 := .of Try.func134 rfl (by decide)
theorem ok135 : CallOk Try.prog 135 := .of Try.func135 rfl (by decide)
theorem ok136 : CallOk Try.prog 136 := .of Try.func136 rfl (by decide)
theorem ok137 : CallOk Try.prog 137 := .of Try.func137 rfl (by decide)
theorem ok138 : CallOk Try.prog 138 := .of Try.func138 rfl (by decide)
theorem ok139 : CallOk Try.prog 139 := .of Try.func139 rfl (by decide)
theorem ok14 : CallOk Try.prog 14 := .of Try.func14 rfl (by decide)
theorem ok140 : CallOk Try.prog 140 := .of Try.func140 rfl (by decide)
theorem ok141 : CallOk Try.prog 141 := .of Try.func141 rfl (by decide)
theorem ok142 : CallOk Try.prog 142 := .of Try.func142 rfl (by decide)
theorem ok143 : CallOk Try.prog 143 := .of Try.func143 rfl (by decide)
theorem ok144 : CallOk Try.prog 144 := .of Try.func144 rfl (by decide)
theorem ok145 : CallOk Try.prog 145 := .of Try.func145 rfl (by decide)
theorem ok146 : CallOk Try.prog 146 := .of Try.func146 rfl (by decide)
theorem ok148 : CallOk Try.prog 148 := .of Try.func148 rfl (by decide)
theorem ok149 : CallOk Try.prog 149 := .of Try.func149 rfl (by decide)
theorem ok15 : CallOk Try.prog 15 := .of Try.func15 rfl (by decide)
theorem ok150 : CallOk Try.prog 150 := .of Try.func150 rfl (by decide)
theorem ok151 : CallOk Try.prog 151 := .of Try.func151 rfl (by decide)
theorem ok152 : CallOk Try.prog 152 := .of Try.func152 rfl (by decide)
theorem ok153 : CallOk Try.prog 153 := .of Try.func153 rfl (by decide)
theorem ok154 : CallOk Try.prog 154 := .of Try.func154 rfl (by decide)
theorem ok155 : CallOk Try.prog 155 := .of Try.func155 rfl (by decide)
theorem ok156 : CallOk Try.prog 156 := .of Try.func156 rfl (by decide)
theorem ok157 : CallOk Try.prog 157 := .of Try.func157 rfl (by decide)
theorem ok158 : CallOk Try.prog 158 := .of Try.func158 rfl (by decide)
theorem ok159 : CallOk Try.prog 159 := .of Try.func159 rfl (by decide)
theorem ok16 : CallOk Try.prog 16 := .of Try.func16 rfl (by decide)
theorem ok160 : CallOk Try.prog 160 := .of Try.func160 rfl (by decide)
theorem ok161 : CallOk Try.prog 161 := .of Try.func161 rfl (by decide)
theorem ok162 : CallOk Try.prog 162 := .of Try.func162 rfl (by decide)
theorem ok163 : CallOk Try.prog 163 := .of Try.func163 rfl (by decide)
theorem ok164 : CallOk Try.prog 164 := .of Try.func164 rfl (by decide)
theorem ok165 : CallOk Try.prog 165 := .of Try.func165 rfl (by decide)
theorem ok166 : CallOk Try.prog 166 := .of Try.func166 rfl (by decide)
theorem ok167 : CallOk Try.prog 167 := .of Try.func167 rfl (by decide)
theorem ok17 : CallOk Try.prog 17 := .of Try.func17 rfl (by decide)
theorem ok174 : CallOk Try.prog 174 := .of Try.func174 rfl (by decide)
theorem ok178 : CallOk Try.prog 178 := .of Try.func178 rfl (by decide)
theorem ok179 : CallOk Try.prog 179 := .of Try.func179 rfl (by decide)
theorem ok18 : CallOk Try.prog 18 := .of Try.func18 rfl (by decide)
theorem ok180 : CallOk Try.prog 180 := .of Try.func180 rfl (by decide)
theorem ok181 : CallOk Try.prog 181 := .of Try.func181 rfl (by decide)
theorem ok182 : CallOk Try.prog 182 := .of Try.func182 rfl (by decide)
theorem ok183 : CallOk Try.prog 183 := .of Try.func183 rfl (by decide)
theorem ok184 : CallOk Try.prog 184 := .of Try.func184 rfl (by decide)
theorem ok185 : CallOk Try.prog 185 := .of Try.func185 rfl (by decide)
theorem ok186 : CallOk Try.prog 186 := .of Try.func186 rfl (by decide)
theorem ok187 : CallOk Try.prog 187 := .of Try.func187 rfl (by decide)
theorem ok188 : CallOk Try.prog 188 := .of Try.func188 rfl (by decide)
theorem ok19 : CallOk Try.prog 19 := .of Try.func19 rfl (by decide)
theorem ok193 : CallOk Try.prog 193 := .of Try.func193 rfl (by decide)
theorem ok20 : CallOk Try.prog 20 := .of Try.func20 rfl (by decide)
theorem ok21 : CallOk Try.prog 21 := .of Try.func21 rfl (by decide)
theorem ok22 : CallOk Try.prog 22 := .of Try.func22 rfl (by decide)
theorem ok23 : CallOk Try.prog 23 := .of Try.func23 rfl (by decide)
theorem ok24 : CallOk Try.prog 24 := .of Try.func24 rfl (by decide)
theorem ok25 : CallOk Try.prog 25 := .of Try.func25 rfl (by decide)
theorem ok26 : CallOk Try.prog 26 := .of Try.func26 rfl (by decide)
theorem ok27 : CallOk Try.prog 27 := .of Try.func27 rfl (by decide)
theorem ok28 : CallOk Try.prog 28 := .of Try.func28 rfl (by decide)
theorem ok29 : CallOk Try.prog 29 := .of Try.func29 rfl (by decide)
theorem ok30 : CallOk Try.prog 30 := .of Try.func30 rfl (by decide)
theorem ok31 : CallOk Try.prog 31 := .of Try.func31 rfl (by decide)
theorem ok32 : CallOk Try.prog 32 := .of Try.func32 rfl (by decide)
theorem ok33 : CallOk Try.prog 33 := .of Try.func33 rfl (by decide)
theorem ok34 : CallOk Try.prog 34 := .of Try.func34 rfl (by decide)
theorem ok35 : CallOk Try.prog 35 := .of Try.func35 rfl (by decide)
theorem ok36 : CallOk Try.prog 36 := .of Try.func36 rfl (by decide)
theorem ok37 : CallOk Try.prog 37 := .of Try.func37 rfl (by decide)
theorem ok38 : CallOk Try.prog 38 := .of Try.func38 rfl (by decide)
theorem ok39 : CallOk Try.prog 39 := .of Try.func39 rfl (by decide)
theorem ok40 : CallOk Try.prog 40 := .of Try.func40 rfl (by decide)
theorem ok41 : CallOk Try.prog 41 := .of Try.func41 rfl (by decide)
theorem ok42 : CallOk Try.prog 42 := .of Try.func42 rfl (by decide)
theorem ok43 : CallOk Try.prog 43 := .of Try.func43 rfl (by decide)
theorem ok44 : CallOk Try.prog 44 := .of Try.func44 rfl (by decide)
theorem ok45 : CallOk Try.prog 45 := .of Try.func45 rfl (by decide)
theorem ok46 : CallOk Try.prog 46 := .of Try.func46 rfl (by decide)
theorem ok47 : CallOk Try.prog 47 := .of Try.func47 rfl (by decide)
theorem ok48 : CallOk Try.prog 48 := .of Try.func48 rfl (by decide)
theorem ok49 : CallOk Try.prog 49 := .of Try.func49 rfl (by decide)
theorem ok50 : CallOk Try.prog 50 := .of Try.func50 rfl (by decide)
theorem ok51 : CallOk Try.prog 51 := .of Try.func51 rfl (by decide)
theorem ok52 : CallOk Try.prog 52 := .of Try.func52 rfl (by decide)
theorem ok53 : CallOk Try.prog 53 := .of Try.func53 rfl (by decide)
theorem ok54 : CallOk Try.prog 54 := .of Try.func54 rfl (by decide)
theorem ok55 : CallOk Try.prog 55 := .of Try.func55 rfl (by decide)
theorem ok56 : CallOk Try.prog 56 := .of Try.func56 rfl (by decide)
theorem ok57 : CallOk Try.prog 57 := .of Try.func57 rfl (by decide)
theorem ok58 : CallOk Try.prog 58 := .of Try.func58 rfl (by decide)
theorem ok59 : CallOk Try.prog 59 := .of Try.func59 rfl (by decide)
theorem ok60 : CallOk Try.prog 60 := .of Try.func60 rfl (by decide)
theorem ok61 : CallOk Try.prog 61 := .of Try.func61 rfl (by decide)
theorem ok62 : CallOk Try.prog 62 := .of Try.func62 rfl (by decide)
theorem ok63 : CallOk Try.prog 63 := .of Try.func63 rfl (by decide)
theorem ok64 : CallOk Try.prog 64 := .of Try.func64 rfl (by decide)
theorem ok65 : CallOk Try.prog 65 := .of Try.func65 rfl (by decide)
theorem ok66 : CallOk Try.prog 66 := .of Try.func66 rfl (by decide)
theorem ok67 : CallOk Try.prog 67 := .of Try.func67 rfl (by decide)
theorem ok68 : CallOk Try.prog 68 := .of Try.func68 rfl (by decide)
theorem ok69 : CallOk Try.prog 69 := .of Try.func69 rfl (by decide)
theorem ok70 : CallOk Try.prog 70 := .of Try.func70 rfl (by decide)
theorem ok71 : CallOk Try.prog 71 := .of Try.func71 rfl (by decide)
theorem ok72 : CallOk Try.prog 72 := .of Try.func72 rfl (by decide)
theorem ok73 : CallOk Try.prog 73 := .of Try.func73 rfl (by decide)
theorem ok74 : CallOk Try.prog 74 := .of Try.func74 rfl (by decide)
theorem ok75 : CallOk Try.prog 75 := .of Try.func75 rfl (by decide)
theorem ok76 : CallOk Try.prog 76 := .of Try.func76 rfl (by decide)
theorem ok77 : CallOk Try.prog 77 := .of Try.func77 rfl (by decide)
theorem ok78 : CallOk Try.prog 78 := .of Try.func78 rfl (by decide)
theorem ok79 : CallOk Try.prog 79 := .of Try.func79 rfl (by decide)
theorem ok80 : CallOk Try.prog 80 := .of Try.func80 rfl (by decide)
theorem ok81 : CallOk Try.prog 81 := .of Try.func81 rfl (by decide)
theorem ok82 : CallOk Try.prog 82 := .of Try.func82 rfl (by decide)
theorem ok83 : CallOk Try.prog 83 := .of Try.func83 rfl (by decide)
theorem ok84 : CallOk Try.prog 84 := .of Try.func84 rfl (by decide)
theorem ok85 : CallOk Try.prog 85 := .of Try.func85 rfl (by decide)
theorem ok86 : CallOk Try.prog 86 := .of Try.func86 rfl (by decide)
theorem ok87 : CallOk Try.prog 87 := .of Try.func87 rfl (by decide)
theorem ok88 : CallOk Try.prog 88 := .of Try.func88 rfl (by decide)
theorem ok89 : CallOk Try.prog 89 := .of Try.func89 rfl (by decide)
theorem ok90 : CallOk Try.prog 90 := .of Try.func90 rfl (by decide)
theorem ok91 : CallOk Try.prog 91 := .of Try.func91 rfl (by decide)
theorem ok92 : CallOk Try.prog 92 := .of Try.func92 rfl (by decide)
theorem ok93 : CallOk Try.prog 93 := .of Try.func93 rfl (by decide)
theorem ok94 : CallOk Try.prog 94 := .of Try.func94 rfl (by decide)
theorem ok95 : CallOk Try.prog 95 := .of Try.func95 rfl (by decide)
theorem ok96 : CallOk Try.prog 96 := .of Try.func96 rfl (by decide)
theorem ok97 : CallOk Try.prog 97 := .of Try.func97 rfl (by decide)
theorem ok98 : CallOk Try.prog 98 := .of Try.func98 rfl (by decide)
theorem ok99 : CallOk Try.prog 99 := .of Try.func99 rfl (by decide)
theorem on23 {w0 : World} {M : Nat → Prop} {rs rest : List Res} {S : Nat → Prop} {v : Value} {l : List (List Int)} {i : Nat} {x : List Int} (is js : List Nat) (hp : Ga.pick rs (is ++ js) = some (R.sl S v l :: rest)) (hn : noDup (is ++ js) = true) (hx : l[i]? = some x) :
    ∀ w, Sep w0 M rs w → ∃ C', C' w ∧ ∃ (v0 : Value) (S0 : Nat → Prop) (Sr : Nat → Prop), SlLen v0 (x).length ∧ (∀ b, S b ↔ (S0 b) ∨ Sr b) ∧ C' = Sep w0 M (R.sl S0 v0 x :: R.hole Sr v l i [v0] :: rest) := by
  intro w hw
  obtain ⟨cs, Se, Sr, ho, hh, h1, h2, h3⟩ := SlOwn.open (show SlOwn w S v l from (hw.pick hp hn).ok _ (List.mem_cons_self ..)) hx
  obtain ⟨v0, rfl, f0⟩ := ho
  have hs0 : ∀ b, Se b → Se b := fun b hb => hb
  have hw1 : Sep w0 M ([R.sl S v l] ++ rest) w := hw.pick hp hn
  refine ⟨_, Sep.repl (ns := [R.sl Se v0 x, R.hole (fun b => S b ∧ ¬ (Se b)) v l i [v0]]) hw1 ?_ ?_ ?_, v0, Se, (fun b => S b ∧ ¬ (Se b)), (SlOwn.rd f0).len, fun b => ⟨fun hb => ?_, fun hb => ?_⟩, rfl⟩
  · intro r hr; simp only [List.mem_cons, List.not_mem_nil, or_false] at hr; rcases hr with rfl | rfl
    · exact f0
    · exact hh.mono (fun b hb => ⟨h2 b hb, fun h => h3 b (hs0 b h) hb⟩)
  · refine .cons (fun s hs b hb hb2 => ?_) (.cons (fun s hs => by cases hs) .nil)
    rw [List.mem_singleton.1 hs] at hb2; exact hb2.2 hb
  · intro r hr b hb; simp only [List.mem_cons, List.not_mem_nil, or_false] at hr; refine ⟨_, List.mem_cons_self .., ?_⟩; rcases hr with rfl | rfl
    · exact h1 b (hs0 b hb)
    · exact hb.1
  · by_cases hc : Se b
    · exact .inl hc
    · exact .inr ⟨hb, hc⟩
  · rcases hb with hb | hb
    · exact h1 b (hs0 b hb)
    · exact hb.1
theorem op23 {w : World} {cs : List Value} {t : List Int} (h : rep w (fun _ => True) cs t) : ∃ v0 : Value, cs = [v0] ∧ Rd w v0 t := by
  obtain ⟨v0, rfl, h0⟩ := h
  exact ⟨v0, rfl, h0⟩
theorem ta111 : TAgg Try.prog 111 true := .of (by kernel_rfl)
theorem ta116 : TAgg Try.prog 116 true := .of (by kernel_rfl)
theorem ta130 : TAgg Try.prog 130 true := .of (by kernel_rfl)
theorem ta22 : TAgg Try.prog 22 false := .of (by kernel_rfl)
theorem ta23 : TAgg Try.prog 23 false := .of (by kernel_rfl)
theorem ta25 : TAgg Try.prog 25 true := .of (by kernel_rfl)
theorem ta27 : TAgg Try.prog 27 true := .of (by kernel_rfl)
theorem ta3 : TAgg Try.prog 3 false := .of (by kernel_rfl)
theorem ta31 : TAgg Try.prog 31 true := .of (by kernel_rfl)
theorem ta33 : TAgg Try.prog 33 true := .of (by kernel_rfl)
theorem ta4 : TAgg Try.prog 4 false := .of (by kernel_rfl)
theorem ta62 : TAgg Try.prog 62 true := .of (by kernel_rfl)
theorem ta64 : TAgg Try.prog 64 true := .of (by kernel_rfl)
theorem ta67 : TAgg Try.prog 67 true := .of (by kernel_rfl)
theorem ta71 : TAgg Try.prog 71 true := .of (by kernel_rfl)
theorem ta89 : TAgg Try.prog 89 true := .of (by kernel_rfl)
theorem tf130_1 : TField Try.prog 130 1 1 := .of (k := 0) (by kernel_rfl)
theorem tf25_0 : TField Try.prog 25 0 0 := .of (k := 0) (by kernel_rfl)
theorem tf25_1 : TField Try.prog 25 1 1 := .of (k := 0) (by kernel_rfl)
theorem tf25_2 : TField Try.prog 25 2 2 := .of (k := 0) (by kernel_rfl)
theorem tf27_0 : TField Try.prog 27 0 0 := .of (k := 2) (by kernel_rfl)
theorem tf27_1 : TField Try.prog 27 1 3 := .of (k := 0) (by kernel_rfl)
theorem tf31_0 : TField Try.prog 31 0 0 := .of (k := 0) (by kernel_rfl)
theorem tf31_1 : TField Try.prog 31 1 1 := .of (k := 0) (by kernel_rfl)
theorem tf31_2 : TField Try.prog 31 2 2 := .of (k := 0) (by kernel_rfl)
theorem tf33_0 : TField Try.prog 33 0 0 := .of (k := 2) (by kernel_rfl)
theorem tf33_1 : TField Try.prog 33 1 3 := .of (k := 0) (by kernel_rfl)
theorem tf62_0 : TField Try.prog 62 0 0 := .of (k := 2) (by kernel_rfl)
theorem tf62_1 : TField Try.prog 62 1 3 := .of (k := 0) (by kernel_rfl)
theorem tf62_2 : TField Try.prog 62 2 4 := .of (k := 0) (by kernel_rfl)
theorem tf64_0 : TField Try.prog 64 0 0 := .of (k := 0) (by kernel_rfl)
theorem tf64_1 : TField Try.prog 64 1 1 := .of (k := 0) (by kernel_rfl)
theorem tf64_2 : TField Try.prog 64 2 2 := .of (k := 0) (by kernel_rfl)
theorem tf64_3 : TField Try.prog 64 3 3 := .of (k := 0) (by kernel_rfl)
theorem tf67_0 : TField Try.prog 67 0 0 := .of (k := 2) (by kernel_rfl)
theorem tf67_1 : TField Try.prog 67 1 3 := .of (k := 0) (by kernel_rfl)
theorem tf67_2 : TField Try.prog 67 2 4 := .of (k := 0) (by kernel_rfl)
theorem tf71_0 : TField Try.prog 71 0 0 := .of (k := 0) (by kernel_rfl)
theorem tf71_1 : TField Try.prog 71 1 1 := .of (k := 0) (by kernel_rfl)
theorem tf71_2 : TField Try.prog 71 2 2 := .of (k := 0) (by kernel_rfl)
theorem tf71_3 : TField Try.prog 71 3 3 := .of (k := 0) (by kernel_rfl)
theorem ti109 : TInfo Try.prog 109 64 512 (.agg (encA (Arr.rep 64 0)).toArray) := .of (by kernel_rfl)
theorem ti111 : TInfo Try.prog 111 768 6144 (.agg (encA (Arr.rep 768 0)).toArray) := .of (by kernel_rfl)
theorem ti116 : TInfo Try.prog 116 3 24 (.agg #[.int .i64 0, .int .i64 0, .int .i64 0]) := .of (by kernel_rfl)
theorem ti130 : TInfo Try.prog 130 2 16 (.agg #[.int .i64 0, .int .i64 0]) := .of (by kernel_rfl)
theorem ti176 : TInfo Try.prog 176 1 8 (.int .u64 0) := .of (by kernel_rfl)
theorem ti22 : TInfo Try.prog 22 1 24 (.slice none 0 0) := .of (by kernel_rfl)
theorem ti23 : TInfo Try.prog 23 1 24 (.slice none 0 0) := .of (by kernel_rfl)
theorem ti25 : TInfo Try.prog 25 3 56 (.agg #[.int .i64 0, .slice none 0 0, .slice none 0 0]) := .of (by kernel_rfl)
theorem ti27 : TInfo Try.prog 27 4 80 (.agg #[.int .i64 0, .slice none 0 0, .slice none 0 0, .slice none 0 0]) := .of (by kernel_rfl)
theorem ti3 : TInfo Try.prog 3 1 8 (.int .i64 0) := .of (by kernel_rfl)
theorem ti31 : TInfo Try.prog 31 3 56 (.agg #[.int .i64 0, .slice none 0 0, .slice none 0 0]) := .of (by kernel_rfl)
theorem ti33 : TInfo Try.prog 33 4 80 (.agg #[.int .i64 0, .slice none 0 0, .slice none 0 0, .slice none 0 0]) := .of (by kernel_rfl)
theorem ti4 : TInfo Try.prog 4 1 1 (.bool false) := .of (by kernel_rfl)
theorem ti62 : TInfo Try.prog 62 5 88 (.agg #[.int .i64 0, .slice none 0 0, .slice none 0 0, .slice none 0 0, .int .i64 0]) := .of (by kernel_rfl)
theorem ti64 : TInfo Try.prog 64 4 32 (.agg #[.int .i64 0, .int .i64 0, .int .i64 0, .int .i64 0]) := .of (by kernel_rfl)
theorem ti67 : TInfo Try.prog 67 5 88 (.agg #[.int .i64 0, .slice none 0 0, .slice none 0 0, .slice none 0 0, .int .i64 0]) := .of (by kernel_rfl)
theorem ti71 : TInfo Try.prog 71 4 32 (.agg #[.int .i64 0, .int .i64 0, .int .i64 0, .int .i64 0]) := .of (by kernel_rfl)
theorem ti89 : TInfo Try.prog 89 2 16 (.agg #[.int .i64 0, .int .i64 0]) := .of (by kernel_rfl)
theorem sq71 {a0 b0 : Int} {a1 b1 : Int} {a2 b2 : Int} {a3 b3 : Int} : ∀ w, (Op.eqFields 9999 ([.int .i64 a0, .int .i64 a1, .int .i64 a2, .int .i64 a3].toArray) ([.int .i64 b0, .int .i64 b1, .int .i64 b2, .int .i64 b3].toArray) (Try.prog.fieldsOf 71).toList).run Try.prog w = .ok (a0 == b0 && (a1 == b1 && (a2 == b2 && (a3 == b3 && true)))) w := fun w => by
  simp only [Program.fieldsOf, Try.underlying71]
  exact (eqF_one (k := 9998) (by decide) ta3 rfl rfl (eqI Try.underlying3) (eqF_one (k := 9998) (by decide) ta3 rfl rfl (eqI Try.underlying3) (eqF_one (k := 9998) (by decide) ta3 rfl rfl (eqI Try.underlying3) (eqF_one (k := 9998) (by decide) ta3 rfl rfl (eqI Try.underlying3) eqF_nil))))
end Go.Proofs

/- loop.example/g01158/laws.eqIntS -/

namespace Go.Proofs
open Go Go.Ga
set_option linter.unusedVariables false
set_option maxRecDepth 100000
set_option maxHeartbeats 4000000
def laws_eqIntS.l0 (k : Nat) (a0 : List Int) (a1 : List Int) : Nat → Int → Option ((Unit) ⊕ (Bool))
  | 0, _ => none
  | n + 1, x5 => (if (decide (x5 < (a0.length : Int))) = true then (rdl a0 x5).bind fun t19 => (rdl a1 x5).bind fun t23 => (if (t19 != t23) = true then some (Sum.inr false) else laws_eqIntS.l0 k a0 a1 n (w64 (x5 + 1))) else some (Sum.inl ()))

def laws_eqIntS.f (k : Nat) (a0 : List Int) (a1 : List Int) : Option (Bool) := (if ((a0.length : Int) != (a1.length : Int)) = true then some false else (laws_eqIntS.l0 k a0 a1 k 0).bind fun s => Lr s some fun _ => some true)

theorem laws_eqIntS.ok {k : Nat}  {a0 : List Int} {a1 : List Int} {r0 : Bool} (h : laws_eqIntS.f k a0 a1 = some r0) (w : World) {va0 : Value} {va1 : Value} (hr_a0 : Rd w va0 a0) (hr_a1 : Rd w va1 a1) :
    Calls Try.prog 16 ([va0, va1] : List Value).toArray w (fun e w' => e = .returned (.bool r0) ∧ Ext w w') := by
  unfold laws_eqIntS.f at h
  have hl_va0 := hr_a0.len
  have hl_va1 := hr_a1.len
  refine Calls.of_tri (N := 26) Try.func16 rfl rfl rfl (Sep.nil (M := noM)) ?_
  refine Tri.seq ?_
  refine Tri.reg (l := [0]) rfl ?_
  refine F.q rfl rfl rfl (wanted_none rfl) (r_assign rfl) ?_
  refine F.nil ?_
  refine Nrm.seq ?_
  refine Tri.seq ?_
  refine Tri.seq ?_
  refine Tri.reg (l := [0, 1, 2, 3, 4]) rfl ?_
  refine F.q rfl rfl rfl (wanted_none rfl) (r_move rfl) ?_
  refine F.q rfl rfl rfl (wanted_none rfl) (r_len Try.underlying23 rfl hl_va0) ?_
  refine F.q rfl rfl rfl (wanted_none rfl) (r_move rfl) ?_
  refine F.q rfl rfl rfl (wanted_none rfl) (r_len Try.underlying23 rfl hl_va1) ?_
  refine F.q rfl rfl rfl (wanted_none rfl) (r_neq rfl rfl) ?_
  refine F.nil ?_
  refine Nrm.seq ?_
  refine Tri.cond (b := (a0.length : Int) != (a1.length : Int)) rfl (fun g_1 => ?_) (fun g_1 => ?_)
  · replace h := if_tt g_1 h
    refine Tri.seq ?_
    refine Tri.reg (l := [0]) rfl ?_
    refine F.q rfl rfl rfl (wanted_none rfl) (r_assign rfl) ?_
    refine F.nil ?_
    refine Nrm.seq ?_
    refine Tri.ret ?_
    refine Rtn.then ?_
    cases h
    exact Rtn.body (.tmp rfl .nil) (fun w hw => ⟨rfl, hw.ext⟩)
  · replace h := if_ff g_1 h
    refine Tri.skip ?_
    refine Nrm.seq ?_
    refine Tri.seq ?_
    refine Tri.seq ?_
    refine Tri.reg (l := [0]) rfl ?_
    refine F.q rfl rfl rfl (wanted_none rfl) (r_assign rfl) ?_
    refine F.nil ?_
    refine Nrm.seq ?_
    obtain ⟨s0, hE_1, h⟩ := bind_some h
    refine Tri.block ?_
    refine Tri.only [0, 1, 5] rfl ?_
    refine Tri.pick [] rfl rfl ?_
    refine Tri.rounds (fun n e' C' => ∃ (x5' : Int), laws_eqIntS.l0 k a0 a1 n x5' = some s0 ∧ e' = [(0, va0), (1, va1), (5, .int .i64 x5')] ∧ C' = Sep w noM []) k ?_ ?_ ?_
    · exact ⟨0, hE_1, rfl, rfl⟩
    · rintro _ _ ⟨_, hE_1, _⟩
      rw [laws_eqIntS.l0.eq_1] at hE_1; cases hE_1
    · rintro n_1 _ _ ⟨x5, hE_1, rfl, rfl⟩ ih_1
      rw [laws_eqIntS.l0.eq_2] at hE_1
      refine Tri.seq ?_
      refine Tri.seq ?_
      refine Tri.reg (l := [0, 1, 2, 3]) rfl ?_
      refine F.q rfl rfl rfl (wanted_none rfl) (r_move rfl) ?_
      refine F.q rfl rfl rfl (wanted_none rfl) (r_move rfl) ?_
      refine F.q rfl rfl rfl (wanted_none rfl) (r_len Try.underlying23 rfl hl_va0) ?_
      refine F.q rfl rfl rfl (wanted_none rfl) (r_lss rfl rfl) ?_
      refine F.nil ?_
      refine Nrm.seq ?_
      refine Tri.cond (b := decide (x5 < (a0.length : Int))) rfl (fun g_2 => ?_) (fun g_2 => ?_)
      · replace hE_1 := if_tt g_2 hE_1
        refine Tri.skip ?_
        refine Nrm.seq ?_
        refine Tri.seq ?_
        refine Tri.block ?_
        refine Tri.seq ?_
        obtain ⟨t19, h19, hE_1⟩ := bind_some hE_1
        obtain ⟨t23, h23, hE_1⟩ := bind_some hE_1
        refine Tri.drawA mixedT Sep.up [(0, true), (1, true), (2, true), (3, true), (4, true), (5, true), (6, true), (7, true), (8, true)] [] (by kernel_rfl) ?_
        refine S.q rfl rfl rfl (wanted_none rfl) (r_move rfl) ?_
        refine S.q rfl rfl rfl (wanted_none rfl) (r_move rfl) ?_
        refine S.q rfl rfl rfl (wanted_none rfl) (r_indexAddrS Try.underlying23 ti3 rfl hl_va0 rfl (rdl_some h19).1 (rdl_some h19).2.1) ?_
        refine S.q rfl rfl rfl (wanted_none rfl) (r_load ta3 rfl (fun w hw => cell_0 (Rd.flat ((fun _ hw => hr_a0.sep hw) w hw) (rdl_some h19).2.2) rfl)) ?_
        refine S.q rfl rfl rfl (wanted_none rfl) (r_move rfl) ?_
        refine S.q rfl rfl rfl (wanted_none rfl) (r_move rfl) ?_
        refine S.q rfl rfl rfl (wanted_none rfl) (r_indexAddrS Try.underlying23 ti3 rfl hl_va1 rfl (rdl_some h23).1 (rdl_some h23).2.1) ?_
        refine S.q rfl rfl rfl (wanted_none rfl) (r_load ta3 rfl (fun w hw => cell_0 (Rd.flat ((fun _ hw => hr_a1.sep hw) w hw) (rdl_some h23).2.2) rfl)) ?_
        refine S.q rfl rfl rfl (wanted_none rfl) (r_neq rfl rfl) ?_
        refine S.nil ?_
        refine F.nil ?_
        refine Nrm.seq ?_
        refine Tri.cond (b := t19 != t23) rfl (fun g_3 => ?_) (fun g_3 => ?_)
        · replace hE_1 := if_tt g_3 hE_1
          refine Tri.seq ?_
          refine Tri.reg (l := [0]) rfl ?_
          refine F.q rfl rfl rfl (wanted_none rfl) (r_assign rfl) ?_
          refine F.nil ?_
          refine Nrm.seq ?_
          refine Tri.ret ?_
          refine Rtn.block ?_
          refine Rtn.then ?_
          refine Rtn.then ?_
          refine Rtn.block ?_
          refine Rtn.then ?_
          cases hE_1
          replace h := Lr_inr h
          cases h
          exact Rtn.body (.tmp rfl .nil) (fun w hw => ⟨rfl, hw.ext⟩)
        · replace hE_1 := if_ff g_3 hE_1
          refine Tri.skip ?_
          refine Nrm.block ?_
          refine Nrm.seq ?_
          refine Tri.reg (l := [0, 1, 2]) rfl ?_
          refine F.q rfl rfl rfl (wanted_none rfl) (r_move rfl) ?_
          refine F.q rfl rfl rfl (wanted_none rfl) (r_add rfl rfl) ?_
          refine F.q rfl rfl rfl (wanted_none rfl) (r_assign rfl) ?_
          refine F.nil ?_
          refine Nrm.round ?_
          refine Rnd.only [0, 1, 5] rfl ?_
          refine Rnd.pick [] rfl rfl ?_
          exact ih_1 _ _ ⟨w64 (x5 + 1), hE_1, rfl, rfl⟩
      · replace hE_1 := if_ff g_2 hE_1
        refine Tri.exit ?_
        refine Exi.then ?_
        refine Exi.then ?_
        refine Exi.same ?_
        cases hE_1
        replace h := Lr_inl h
        refine Nrm.seq ?_
        refine Tri.seq ?_
        refine Tri.reg (l := [0]) rfl ?_
        refine F.q rfl rfl rfl (wanted_none rfl) (r_assign rfl) ?_
        refine F.nil ?_
        refine Nrm.seq ?_
        refine Tri.ret ?_
        cases h
        exact Rtn.body (.tmp rfl .nil) (fun w hw => ⟨rfl, hw.ext⟩)

end Go.Proofs

/- loop.example/g01158/laws.markIntS -/

namespace Go.Proofs
open Go Go.Ga
set_option linter.unusedVariables false
set_option maxRecDepth 100000
set_option maxHeartbeats 4000000
def laws_markIntS.l0 (k : Nat) : Nat → (List (Int)) → Int → Int → Option (Int × (List (Int)))
  | 0, _, _, _ => none
  | n + 1, x0, x1, x5 => (if (decide (x5 < (x0.length : Int))) = true then (rdl x0 x5).bind fun t15 => laws_markIntS.l0 k n (x0.set x5.toNat x1) (w64 (x1 + 1)) (w64 (x5 + 1)) else some (x1, x0))

def laws_markIntS.f (k : Nat) (a0 : List Int) (a1 : Int) : Option (Int × (List Int)) := (laws_markIntS.l0 k k a0 a1 0).bind fun (x1, x0) => some (x1, x0)

theorem laws_markIntS.ok {k : Nat}  {a0 : List Int} {a1 : Int} {r0 : Int} {r1 : List Int} (h : laws_markIntS.f k a0 a1 = some (r0, r1)) (w : World) {va0 : Value} {Sa0 : Nat → Prop} (hl_va0 : SlLen va0 a0.length) (hw0 : Sep w (footM [R.sl Sa0 va0 a0]) [R.sl Sa0 va0 a0] w) :
    Calls Try.prog 19 ([va0, .int .i64 a1] : List Value).toArray w (PostM (footM [R.sl Sa0 va0 a0]) (fun u ns => u = .int .i64 r0 ∧ SlLen va0 r1.length ∧ ns = [R.sl Sa0 va0 r1]) w) := by
  unfold laws_markIntS.f at h
  refine Calls.of_tri (N := 19) Try.func19 rfl rfl rfl hw0 ?_
  refine Tri.seq ?_
  refine Tri.reg (l := [0]) rfl ?_
  refine F.q rfl rfl rfl (wanted_none rfl) (r_assign rfl) ?_
  refine F.nil ?_
  refine Nrm.seq ?_
  refine Tri.seq ?_
  refine Tri.seq ?_
  refine Tri.reg (l := [0]) rfl ?_
  refine F.q rfl rfl rfl (wanted_none rfl) (r_assign rfl) ?_
  refine F.nil ?_
  refine Nrm.seq ?_
  obtain ⟨⟨x1, x0⟩, hE_1, h⟩ := bind_some h
  refine Tri.block ?_
  refine Tri.only [0, 1, 5] rfl ?_
  refine Tri.pick [0] rfl rfl ?_
  refine Tri.rounds (fun n e' C' => ∃ (x0' : List (Int)) (x1' : Int) (x5' : Int), laws_markIntS.l0 k n x0' x1' x5' = some (x1, x0) ∧ SlLen va0 (x0').length ∧ e' = [(0, va0), (1, .int .i64 x1'), (5, .int .i64 x5')] ∧ C' = Sep w (footM [R.sl Sa0 va0 a0]) [R.sl Sa0 va0 (x0' : List (Int))]) k ?_ ?_ ?_
  · exact ⟨a0, a1, 0, hE_1, hl_va0, rfl, rfl⟩
  · rintro _ _ ⟨_, _, _, hE_1, _⟩
    rw [laws_markIntS.l0.eq_1] at hE_1; cases hE_1
  · rintro n_1 _ _ ⟨x0, x1, x5, hE_1, hl_x0, rfl, rfl⟩ ih_1
    rw [laws_markIntS.l0.eq_2] at hE_1
    refine Tri.seq ?_
    refine Tri.seq ?_
    refine Tri.reg (l := [0, 1, 2, 3]) rfl ?_
    refine F.q rfl rfl rfl (wanted_none rfl) (r_move rfl) ?_
    refine F.q rfl rfl rfl (wanted_none rfl) (r_move rfl) ?_
    refine F.q rfl rfl rfl (wanted_none rfl) (r_len Try.underlying23 rfl hl_x0) ?_
    refine F.q rfl rfl rfl (wanted_none rfl) (r_lss rfl rfl) ?_
    refine F.nil ?_
    refine Nrm.seq ?_
    refine Tri.cond (b := decide (x5 < (x0.length : Int))) rfl (fun g_1 => ?_) (fun g_1 => ?_)
    · replace hE_1 := if_tt g_1 hE_1
      refine Tri.skip ?_
      refine Nrm.seq ?_
      refine Tri.seq ?_
      refine Tri.block ?_
      refine Tri.seq ?_
      obtain ⟨t15, h15, hE_1⟩ := bind_some hE_1
      refine Tri.reg (l := [0, 1, 2, 3, 4]) rfl ?_
      refine F.q rfl rfl rfl (wanted_none rfl) (r_move rfl) ?_
      refine F.q rfl rfl rfl (wanted_none rfl) (r_move rfl) ?_
      refine F.q rfl rfl rfl (wanted_none rfl) (r_move rfl) ?_
      refine F.q rfl rfl rfl (wanted_none rfl) (r_indexAddrS Try.underlying23 ti3 rfl hl_x0 rfl (rdl_some h15).1 (rdl_some h15).2.1) ?_
      refine F.ef0 rfl rfl (wanted_none rfl) (d_storeE (i := 0) (x1 := x1) ti3 rfl rfl rfl (rdl_some h15) rfl) ?_
      rintro _ _ ⟨rfl, rfl⟩
      refine F.nil ?_
      refine Nrm.seq ?_
      refine Tri.reg (l := [0, 1, 2]) rfl ?_
      refine F.q rfl rfl rfl (wanted_none rfl) (r_move rfl) ?_
      refine F.q rfl rfl rfl (wanted_none rfl) (r_add rfl rfl) ?_
      refine F.q rfl rfl rfl (wanted_none rfl) (r_assign rfl) ?_
      refine F.nil ?_
      refine Nrm.block ?_
      refine Nrm.seq ?_
      refine Tri.reg (l := [0, 1, 2]) rfl ?_
      refine F.q rfl rfl rfl (wanted_none rfl) (r_move rfl) ?_
      refine F.q rfl rfl rfl (wanted_none rfl) (r_add rfl rfl) ?_
      refine F.q rfl rfl rfl (wanted_none rfl) (r_assign rfl) ?_
      refine F.nil ?_
      refine Nrm.round ?_
      refine Rnd.only [0, 1, 5] rfl ?_
      refine Rnd.pick [0] rfl rfl ?_
      exact ih_1 _ _ ⟨x0.set x5.toNat x1, w64 (x1 + 1), w64 (x5 + 1), hE_1, (len_set hl_x0), rfl, rfl⟩
    · replace hE_1 := if_ff g_1 hE_1
      refine Tri.exit ?_
      refine Exi.then ?_
      refine Exi.then ?_
      refine Exi.same ?_
      cases hE_1
      refine Nrm.seq ?_
      refine Tri.seq ?_
      refine Tri.reg (l := [0, 1]) rfl ?_
      refine F.q rfl rfl rfl (wanted_none rfl) (r_move rfl) ?_
      refine F.q rfl rfl rfl (wanted_none rfl) (r_assign rfl) ?_
      refine F.nil ?_
      refine Nrm.seq ?_
      refine Tri.ret ?_
      cases h
      exact Rtn.body (.tmp rfl .nil) (fun w hw => ⟨_, _, rfl, ⟨rfl, hl_x0, rfl⟩, Sep.pick (is := [0]) rfl rfl hw⟩)

end Go.Proofs

/- loop.example/g01158/laws.heldIntS -/

namespace Go.Proofs
open Go Go.Ga
set_option linter.unusedVariables false
set_option maxRecDepth 100000
set_option maxHeartbeats 4000000
def laws_heldIntS.l0 (k : Nat) (a0 : List Int) : Nat → Int → Int → Option ((Int) ⊕ (Int))
  | 0, _, _ => none
  | n + 1, x1, x5 => (if (decide (x5 < (a0.length : Int))) = true then (rdl a0 x5).bind fun t14 => (if (t14 != x1) = true then some (Sum.inr (-1)) else laws_heldIntS.l0 k a0 n (w64 (x1 + 1)) (w64 (x5 + 1))) else some (Sum.inl x1))

def laws_heldIntS.f (k : Nat) (a0 : List Int) (a1 : Int) : Option (Int) := (laws_heldIntS.l0 k a0 k a1 0).bind fun s => Lr s some fun x1 => some x1

theorem laws_heldIntS.ok {k : Nat}  {a0 : List Int} {a1 : Int} {r0 : Int} (h : laws_heldIntS.f k a0 a1 = some r0) (w : World) {va0 : Value} (hr_a0 : Rd w va0 a0) :
    Calls Try.prog 20 ([va0, .int .i64 a1] : List Value).toArray w (fun e w' => e = .returned (.int .i64 r0) ∧ Ext w w') := by
  unfold laws_heldIntS.f at h
  have hl_va0 := hr_a0.len
  refine Calls.of_tri (N := 21) Try.func20 rfl rfl rfl (Sep.nil (M := noM)) ?_
  refine Tri.seq ?_
  refine Tri.reg (l := [0]) rfl ?_
  refine F.q rfl rfl rfl (wanted_none rfl) (r_assign rfl) ?_
  refine F.nil ?_
  refine Nrm.seq ?_
  refine Tri.seq ?_
  refine Tri.seq ?_
  refine Tri.reg (l := [0]) rfl ?_
  refine F.q rfl rfl rfl (wanted_none rfl) (r_assign rfl) ?_
  refine F.nil ?_
  refine Nrm.seq ?_
  obtain ⟨s0, hE_1, h⟩ := bind_some h
  refine Tri.block ?_
  refine Tri.only [0, 1, 5] rfl ?_
  refine Tri.pick [] rfl rfl ?_
  refine Tri.rounds (fun n e' C' => ∃ (x1' : Int) (x5' : Int), laws_heldIntS.l0 k a0 n x1' x5' = some s0 ∧ e' = [(0, va0), (1, .int .i64 x1'), (5, .int .i64 x5')] ∧ C' = Sep w noM []) k ?_ ?_ ?_
  · exact ⟨a1, 0, hE_1, rfl, rfl⟩
  · rintro _ _ ⟨_, _, hE_1, _⟩
    rw [laws_heldIntS.l0.eq_1] at hE_1; cases hE_1
  · rintro n_1 _ _ ⟨x1, x5, hE_1, rfl, rfl⟩ ih_1
    rw [laws_heldIntS.l0.eq_2] at hE_1
    refine Tri.seq ?_
    refine Tri.seq ?_
    refine Tri.reg (l := [0, 1, 2, 3]) rfl ?_
    refine F.q rfl rfl rfl (wanted_none rfl) (r_move rfl) ?_
    refine F.q rfl rfl rfl (wanted_none rfl) (r_move rfl) ?_
    refine F.q rfl rfl rfl (wanted_none rfl) (r_len Try.underlying23 rfl hl_va0) ?_
    refine F.q rfl rfl rfl (wanted_none rfl) (r_lss rfl rfl) ?_
    refine F.nil ?_
    refine Nrm.seq ?_
    refine Tri.cond (b := decide (x5 < (a0.length : Int))) rfl (fun g_1 => ?_) (fun g_1 => ?_)
    · replace hE_1 := if_tt g_1 hE_1
      refine Tri.skip ?_
      refine Nrm.seq ?_
      refine Tri.seq ?_
      refine Tri.block ?_
      refine Tri.seq ?_
      refine Tri.seq ?_
      obtain ⟨t14, h14, hE_1⟩ := bind_some hE_1
      refine Tri.reg (l := [0, 1, 2, 3, 4, 5]) rfl ?_
      refine F.q rfl rfl rfl (wanted_none rfl) (r_move rfl) ?_
      refine F.q rfl rfl rfl (wanted_none rfl) (r_move rfl) ?_
      refine F.q rfl rfl rfl (wanted_none rfl) (r_indexAddrS Try.underlying23 ti3 rfl hl_va0 rfl (rdl_some h14).1 (rdl_some h14).2.1) ?_
      refine F.q rfl rfl rfl (wanted_none rfl) (r_load ta3 rfl (fun w hw => cell_0 (Rd.flat ((fun _ hw => hr_a0.sep hw) w hw) (rdl_some h14).2.2) rfl)) ?_
      refine F.q rfl rfl rfl (wanted_none rfl) (r_move rfl) ?_
      refine F.q rfl rfl rfl (wanted_none rfl) (r_neq rfl rfl) ?_
      refine F.nil ?_
      refine Nrm.seq ?_
      refine Tri.cond (b := t14 != x1) rfl (fun g_2 => ?_) (fun g_2 => ?_)
      · replace hE_1 := if_tt g_2 hE_1
        refine Tri.seq ?_
        refine Tri.reg (l := [0]) rfl ?_
        refine F.q rfl rfl rfl (wanted_none rfl) (r_assign rfl) ?_
        refine F.nil ?_
        refine Nrm.seq ?_
        refine Tri.ret ?_
        refine Rtn.then ?_
        refine Rtn.block ?_
        refine Rtn.then ?_
        refine Rtn.then ?_
        refine Rtn.block ?_
        refine Rtn.then ?_
        cases hE_1
        replace h := Lr_inr h
        cases h
        exact Rtn.body (.tmp rfl .nil) (fun w hw => ⟨rfl, hw.ext⟩)
      · replace hE_1 := if_ff g_2 hE_1
        refine Tri.skip ?_
        refine Nrm.seq ?_
        refine Tri.reg (l := [0, 1, 2]) rfl ?_
        refine F.q rfl rfl rfl (wanted_none rfl) (r_move rfl) ?_
        refine F.q rfl rfl rfl (wanted_none rfl) (r_add rfl rfl) ?_
        refine F.q rfl rfl rfl (wanted_none rfl) (r_assign rfl) ?_
        refine F.nil ?_
        refine Nrm.block ?_
        refine Nrm.seq ?_
        refine Tri.reg (l := [0, 1, 2]) rfl ?_
        refine F.q rfl rfl rfl (wanted_none rfl) (r_move rfl) ?_
        refine F.q rfl rfl rfl (wanted_none rfl) (r_add rfl rfl) ?_
        refine F.q rfl rfl rfl (wanted_none rfl) (r_assign rfl) ?_
        refine F.nil ?_
        refine Nrm.round ?_
        refine Rnd.only [0, 1, 5] rfl ?_
        refine Rnd.pick [] rfl rfl ?_
        exact ih_1 _ _ ⟨w64 (x1 + 1), w64 (x5 + 1), hE_1, rfl, rfl⟩
    · replace hE_1 := if_ff g_1 hE_1
      refine Tri.exit ?_
      refine Exi.then ?_
      refine Exi.then ?_
      refine Exi.same ?_
      cases hE_1
      replace h := Lr_inl h
      refine Nrm.seq ?_
      refine Tri.seq ?_
      refine Tri.reg (l := [0, 1]) rfl ?_
      refine F.q rfl rfl rfl (wanted_none rfl) (r_move rfl) ?_
      refine F.q rfl rfl rfl (wanted_none rfl) (r_assign rfl) ?_
      refine F.nil ?_
      refine Nrm.seq ?_
      refine Tri.ret ?_
      cases h
      exact Rtn.body (.tmp rfl .nil) (fun w hw => ⟨rfl, hw.ext⟩)

end Go.Proofs

/- loop.example/g01158/laws.szIntS -/

namespace Go.Proofs
open Go Go.Ga
set_option linter.unusedVariables false
set_option maxRecDepth 100000
set_option maxHeartbeats 4000000
def laws_szIntS.f (k : Nat) (a0 : List Int) (a1 : Int) : Option (Int) := (if (decide ((w64 (a1 - (a0.length : Int))) < 0)) = true then some (-1) else some (w64 (a1 - (a0.length : Int))))

theorem laws_szIntS.ok {k : Nat}  {a0 : List Int} {a1 : Int} {r0 : Int} (h : laws_szIntS.f k a0 a1 = some r0) (w : World) {va0 : Value} (hr_a0 : Rd w va0 a0) :
    Calls Try.prog 51 ([va0, .int .i64 a1] : List Value).toArray w (fun e w' => e = .returned (.int .i64 r0) ∧ Ext w w') := by
  unfold laws_szIntS.f at h
  have hl_va0 := hr_a0.len
  refine Calls.of_tri (N := 12) Try.func51 rfl rfl rfl (Sep.nil (M := noM)) ?_
  refine Tri.seq ?_
  refine Tri.reg (l := [0]) rfl ?_
  refine F.q rfl rfl rfl (wanted_none rfl) (r_assign rfl) ?_
  refine F.nil ?_
  refine Nrm.seq ?_
  refine Tri.seq ?_
  refine Tri.reg (l := [0, 1, 2, 3, 4]) rfl ?_
  refine F.q rfl rfl rfl (wanted_none rfl) (r_move rfl) ?_
  refine F.q rfl rfl rfl (wanted_none rfl) (r_move rfl) ?_
  refine F.q rfl rfl rfl (wanted_none rfl) (r_len Try.underlying23 rfl hl_va0) ?_
  refine F.q rfl rfl rfl (wanted_none rfl) (r_sub rfl rfl) ?_
  refine F.q rfl rfl rfl (wanted_none rfl) (r_assign rfl) ?_
  refine F.nil ?_
  refine Nrm.seq ?_
  refine Tri.seq ?_
  refine Tri.seq ?_
  refine Tri.reg (l := [0, 1]) rfl ?_
  refine F.q rfl rfl rfl (wanted_none rfl) (r_move rfl) ?_
  refine F.q rfl rfl rfl (wanted_none rfl) (r_lss rfl rfl) ?_
  refine F.nil ?_
  refine Nrm.seq ?_
  refine Tri.cond (b := decide ((w64 (a1 - (a0.length : Int))) < 0)) rfl (fun g_1 => ?_) (fun g_1 => ?_)
  · replace h := if_tt g_1 h
    refine Tri.seq ?_
    refine Tri.reg (l := [0]) rfl ?_
    refine F.q rfl rfl rfl (wanted_none rfl) (r_assign rfl) ?_
    refine F.nil ?_
    refine Nrm.seq ?_
    refine Tri.ret ?_
    refine Rtn.then ?_
    cases h
    exact Rtn.body (.tmp rfl .nil) (fun w hw => ⟨rfl, hw.ext⟩)
  · replace h := if_ff g_1 h
    refine Tri.skip ?_
    refine Nrm.seq ?_
    refine Tri.seq ?_
    refine Tri.reg (l := [0, 1]) rfl ?_
    refine F.q rfl rfl rfl (wanted_none rfl) (r_move rfl) ?_
    refine F.q rfl rfl rfl (wanted_none rfl) (r_assign rfl) ?_
    refine F.nil ?_
    refine Nrm.seq ?_
    refine Tri.ret ?_
    cases h
    exact Rtn.body (.tmp rfl .nil) (fun w hw => ⟨rfl, hw.ext⟩)

end Go.Proofs

/- loop.example/g01158/laws.szIntA3S -/

namespace Go.Proofs
open Go Go.Ga
set_option linter.unusedVariables false
set_option maxRecDepth 100000
set_option maxHeartbeats 4000000
def laws_szIntA3S.f (k : Nat) (a0 : List (Int × Int × Int)) (a1 : Int) : Option (Int) := (if (decide ((w64 (a1 - (a0.length : Int))) < 0)) = true then some (-1) else some (w64 (a1 - (a0.length : Int))))

theorem laws_szIntA3S.ok {k : Nat}  {a0 : List (Int × Int × Int)} {a1 : Int} {r0 : Int} (h : laws_szIntA3S.f k a0 a1 = some r0) (w : World) {va0 : Value} (hr_a0 : Rd w va0 a0) :
    Calls Try.prog 59 ([va0, .int .i64 a1] : List Value).toArray w (fun e w' => e = .returned (.int .i64 r0) ∧ Ext w w') := by
  unfold laws_szIntA3S.f at h
  have hl_va0 := hr_a0.len
  refine Calls.of_tri (N := 12) Try.func59 rfl rfl rfl (Sep.nil (M := noM)) ?_
  refine Tri.seq ?_
  refine Tri.reg (l := [0]) rfl ?_
  refine F.q rfl rfl rfl (wanted_none rfl) (r_assign rfl) ?_
  refine F.nil ?_
  refine Nrm.seq ?_
  refine Tri.seq ?_
  refine Tri.reg (l := [0, 1, 2, 3, 4]) rfl ?_
  refine F.q rfl rfl rfl (wanted_none rfl) (r_move rfl) ?_
  refine F.q rfl rfl rfl (wanted_none rfl) (r_move rfl) ?_
  refine F.q rfl rfl rfl (wanted_none rfl) (r_len Try.underlying22 rfl hl_va0) ?_
  refine F.q rfl rfl rfl (wanted_none rfl) (r_sub rfl rfl) ?_
  refine F.q rfl rfl rfl (wanted_none rfl) (r_assign rfl) ?_
  refine F.nil ?_
  refine Nrm.seq ?_
  refine Tri.seq ?_
  refine Tri.seq ?_
  refine Tri.reg (l := [0, 1]) rfl ?_
  refine F.q rfl rfl rfl (wanted_none rfl) (r_move rfl) ?_
  refine F.q rfl rfl rfl (wanted_none rfl) (r_lss rfl rfl) ?_
  refine F.nil ?_
  refine Nrm.seq ?_
  refine Tri.cond (b := decide ((w64 (a1 - (a0.length : Int))) < 0)) rfl (fun g_1 => ?_) (fun g_1 => ?_)
  · replace h := if_tt g_1 h
    refine Tri.seq ?_
    refine Tri.reg (l := [0]) rfl ?_
    refine F.q rfl rfl rfl (wanted_none rfl) (r_assign rfl) ?_
    refine F.nil ?_
    refine Nrm.seq ?_
    refine Tri.ret ?_
    refine Rtn.then ?_
    cases h
    exact Rtn.body (.tmp rfl .nil) (fun w hw => ⟨rfl, hw.ext⟩)
  · replace h := if_ff g_1 h
    refine Tri.skip ?_
    refine Nrm.seq ?_
    refine Tri.seq ?_
    refine Tri.reg (l := [0, 1]) rfl ?_
    refine F.q rfl rfl rfl (wanted_none rfl) (r_move rfl) ?_
    refine F.q rfl rfl rfl (wanted_none rfl) (r_assign rfl) ?_
    refine F.nil ?_
    refine Nrm.seq ?_
    refine Tri.ret ?_
    cases h
    exact Rtn.body (.tmp rfl .nil) (fun w hw => ⟨rfl, hw.ext⟩)

end Go.Proofs

/- loop.example/g01158/laws.szMaze -/
namespace Go.Proofs
open Go Go.Ga
set_option linter.unusedVariables false
set_option maxRecDepth 100000
set_option maxHeartbeats 4000000
def laws_szMaze.f (k : Nat) (a0_0 : Int) (a0_1 : List (Int × Int × Int)) (a0_2 : List Int) (a1 : Int) : Option (Int) := (laws_szIntA3S.f k a0_1 a1).bind fun t8 => (if (decide (t8 < 0)) = true then some (-1) else (laws_szIntS.f k a0_2 t8).bind fun t14 => (if (decide (t14 < 0)) = true then some (-1) else some t14))

theorem laws_szMaze.ok {k : Nat}  {a0_0 : Int} {a0_1 : List (Int × Int × Int)} {a0_2 : List Int} {a1 : Int} {r0 : Int} (h : laws_szMaze.f k a0_0 a0_1 a0_2 a1 = some r0) (w : World) {va0_1 : Value} {va0_2 : Value} (hr_a0_1 : Rd w va0_1 a0_1) (hr_a0_2 : Rd w va0_2 a0_2) :
    Calls Try.prog 21 ([.agg ([.int .i64 a0_0, va0_1, va0_2].toArray), .int .i64 a1] : List Value).toArray w (fun e w' => e = .returned (.int .i64 r0) ∧ Ext w w') := by
  unfold laws_szMaze.f at h
  have hl_va0_1 := hr_a0_1.len
  have hl_va0_2 := hr_a0_2.len
  refine Calls.of_tri (N := 18) Try.func21 rfl rfl rfl (Sep.nil (M := noM)) ?_
  refine Tri.seq ?_
  refine Tri.reg (l := [0, 1]) rfl ?_
  refine F.m rfl rfl rfl (wanted_none rfl) (m_boxG rfl rfl) ?_
  rintro _ _ ⟨b2_1, rfl, rfl⟩
  refine F.q rfl rfl rfl (wanted_none rfl) (r_assign rfl) ?_
  refine F.nil ?_
  refine Nrm.seq ?_
  refine Tri.seq ?_
  obtain ⟨t8, h8, h⟩ := bind_some h
  refine Tri.reg (l := [0, 1, 2, 3, 4]) rfl ?_
  refine F.q rfl rfl rfl (wanted_none rfl) (r_fieldAddr tf25_1 rfl) ?_
  refine F.q rfl rfl rfl (wanted_none rfl) (r_load ta22 rfl (fun w hw => cell_1 (box_cells (i := 0) rfl w hw) rfl)) ?_
  refine F.q rfl rfl rfl (wanted_none rfl) (r_move rfl) ?_
  refine F.qc rfl rfl rfl (wanted_none rfl) (q_callF (xs := _) rfl ok59 rfl rfl (fun w hw => laws_szIntA3S.ok h8 w ((fun _ hw => hr_a0_1.sep hw) w hw))) ?_
  refine F.q rfl rfl rfl (wanted_none rfl) (r_assign rfl) ?_
  refine F.nil ?_
  refine Nrm.seq ?_
  refine Tri.seq ?_
  refine Tri.seq ?_
  refine Tri.reg (l := [0, 1]) rfl ?_
  refine F.q rfl rfl rfl (wanted_none rfl) (r_move rfl) ?_
  refine F.q rfl rfl rfl (wanted_none rfl) (r_lss rfl rfl) ?_
  refine F.nil ?_
  refine Nrm.seq ?_
  refine Tri.cond (b := decide (t8 < 0)) rfl (fun g_1 => ?_) (fun g_1 => ?_)
  · replace h := if_tt g_1 h
    refine Tri.seq ?_
    refine Tri.reg (l := [0]) rfl ?_
    refine F.q rfl rfl rfl (wanted_none rfl) (r_assign rfl) ?_
    refine F.nil ?_
    refine Nrm.seq ?_
    refine Tri.ret ?_
    refine Rtn.then ?_
    cases h
    exact Rtn.body (.tmp rfl .nil) (fun w hw => ⟨rfl, hw.ext⟩)
  · replace h := if_ff g_1 h
    refine Tri.skip ?_
    refine Nrm.seq ?_
    refine Tri.seq ?_
    obtain ⟨t14, h14, h⟩ := bind_some h
    refine Tri.reg (l := [0, 1, 2, 3, 4]) rfl ?_
    refine F.q rfl rfl rfl (wanted_none rfl) (r_fieldAddr tf25_2 rfl) ?_
    refine F.q rfl rfl rfl (wanted_none rfl) (r_load ta23 rfl (fun w hw => cell_1 (box_cells (i := 0) rfl w hw) rfl)) ?_
    refine F.q rfl rfl rfl (wanted_none rfl) (r_move rfl) ?_
    refine F.qc rfl rfl rfl (wanted_none rfl) (q_callF (xs := _) rfl ok51 rfl rfl (fun w hw => laws_szIntS.ok h14 w ((fun _ hw => hr_a0_2.sep hw) w hw))) ?_
    refine F.q rfl rfl rfl (wanted_none rfl) (r_assign rfl) ?_
    refine F.nil ?_
    refine Nrm.seq ?_
    refine Tri.seq ?_
    refine Tri.seq ?_
    refine Tri.reg (l := [0, 1]) rfl ?_
    refine F.q rfl rfl rfl (wanted_none rfl) (r_move rfl) ?_
    refine F.q rfl rfl rfl (wanted_none rfl) (r_lss rfl rfl) ?_
    refine F.nil ?_
    refine Nrm.seq ?_
    refine Tri.cond (b := decide (t14 < 0)) rfl (fun g_2 => ?_) (fun g_2 => ?_)
    · replace h := if_tt g_2 h
      refine Tri.seq ?_
      refine Tri.reg (l := [0]) rfl ?_
      refine F.q rfl rfl rfl (wanted_none rfl) (r_assign rfl) ?_
      refine F.nil ?_
      refine Nrm.seq ?_
      refine Tri.ret ?_
      refine Rtn.then ?_
      cases h
      exact Rtn.body (.tmp rfl .nil) (fun w hw => ⟨rfl, hw.ext⟩)
    · replace h := if_ff g_2 h
      refine Tri.skip ?_
      refine Nrm.seq ?_
      refine Tri.seq ?_
      refine Tri.reg (l := [0, 1]) rfl ?_
      refine F.q rfl rfl rfl (wanted_none rfl) (r_move rfl) ?_
      refine F.q rfl rfl rfl (wanted_none rfl) (r_assign rfl) ?_
      refine F.nil ?_
      refine Nrm.seq ?_
      refine Tri.ret ?_
      cases h
      exact Rtn.body (.tmp rfl .nil) (fun w hw => ⟨rfl, hw.ext⟩)

end Go.Proofs

/- loop.example/g01158/laws.toIntS -/

namespace Go.Proofs
open Go Go.Ga
set_option linter.unusedVariables false
set_option maxRecDepth 100000
set_option maxHeartbeats 4000000
def laws_toIntS.l0 (k : Nat) (a0 : List Int) : Nat → (List (Int)) → Int → Option ((List (Int)))
  | 0, _, _ => none
  | n + 1, x3, x4 => (if (decide (x4 < (a0.length : Int))) = true then (rdl a0 x4).bind fun t18 => (rdl x3 x4).bind fun t20 => laws_toIntS.l0 k a0 n (x3.set x4.toNat t18) (w64 (x4 + 1)) else some x3)

def laws_toIntS.f (k : Nat) (a0 : List Int) : Option ((List Int)) := if 0 ≤ (a0.length : Int) ∧ (a0.length : Int) < 1099511627776 then (laws_toIntS.l0 k a0 k (List.replicate ((a0.length : Int)).toNat (0 : Int)) 0).bind fun x3 => some x3 else none

theorem laws_toIntS.ok {k : Nat}  {a0 : List Int} {r0 : List Int} (h : laws_toIntS.f k a0 = some r0) (w : World) {va0 : Value} (hr_a0 : Rd w va0 a0) :
    Calls Try.prog 24 ([va0] : List Value).toArray w (Post (fun u ns => ∃ (Sr0 : Nat → Prop), SlLen u r0.length ∧ ns = [R.sl Sr0 u r0]) w) := by
  unfold laws_toIntS.f at h
  have hl_va0 := hr_a0.len
  refine Calls.of_tri (N := 22) Try.func24 rfl rfl rfl (Sep.nil (M := noM)) ?_
  refine Tri.seq ?_
  refine Tri.reg (l := [0]) rfl ?_
  refine F.q rfl rfl rfl (wanted_none rfl) (r_assign rfl) ?_
  refine F.nil ?_
  refine Nrm.seq ?_
  refine Tri.seq ?_
  obtain ⟨hm7, h⟩ := ck h
  refine Tri.reg (l := [0, 1, 2, 3]) rfl ?_
  refine F.q rfl rfl rfl (wanted_none rfl) (r_move rfl) ?_
  refine F.q rfl rfl rfl (wanted_none rfl) (r_len Try.underlying23 rfl hl_va0) ?_
  refine F.m rfl rfl rfl (wanted_none rfl) (m_make (x0 := (0 : Int)) Try.underlying23 ti3 rfl rfl rfl hm7.1 hm7.2 (by decide)) ?_
  rintro v7_1 _ ⟨S7_1, hl_v7_1, rfl⟩
  refine F.q rfl rfl rfl (wanted_none rfl) (r_assign rfl) ?_
  refine F.nil ?_
  refine Nrm.seq ?_
  refine Tri.seq ?_
  refine Tri.seq ?_
  refine Tri.reg (l := [0]) rfl ?_
  refine F.q rfl rfl rfl (wanted_none rfl) (r_assign rfl) ?_
  refine F.nil ?_
  refine Nrm.seq ?_
  obtain ⟨x3, hE_1, h⟩ := bind_some h
  refine Tri.block ?_
  refine Tri.only [0, 3, 4] rfl ?_
  refine Tri.pick [0] rfl rfl ?_
  refine Tri.rounds (fun n e' C' => ∃ (x3' : List (Int)) (x4' : Int), laws_toIntS.l0 k a0 n x3' x4' = some x3 ∧ SlLen v7_1 (x3').length ∧ e' = [(0, va0), (3, v7_1), (4, .int .i64 x4')] ∧ C' = Sep w noM [R.sl S7_1 v7_1 (x3' : List (Int))]) k ?_ ?_ ?_
  · exact ⟨List.replicate ((a0.length : Int)).toNat (0 : Int), 0, hE_1, hl_v7_1, rfl, rfl⟩
  · rintro _ _ ⟨_, _, hE_1, _⟩
    rw [laws_toIntS.l0.eq_1] at hE_1; cases hE_1
  · rintro n_1 _ _ ⟨x3, x4, hE_1, hl_x3, rfl, rfl⟩ ih_1
    rw [laws_toIntS.l0.eq_2] at hE_1
    refine Tri.seq ?_
    refine Tri.seq ?_
    refine Tri.reg (l := [0, 1, 2, 3]) rfl ?_
    refine F.q rfl rfl rfl (wanted_none rfl) (r_move rfl) ?_
    refine F.q rfl rfl rfl (wanted_none rfl) (r_move rfl) ?_
    refine F.q rfl rfl rfl (wanted_none rfl) (r_len Try.underlying23 rfl hl_va0) ?_
    refine F.q rfl rfl rfl (wanted_none rfl) (r_lss rfl rfl) ?_
    refine F.nil ?_
    refine Nrm.seq ?_
    refine Tri.cond (b := decide (x4 < (a0.length : Int))) rfl (fun g_1 => ?_) (fun g_1 => ?_)
    · replace hE_1 := if_tt g_1 hE_1
      refine Tri.skip ?_
      refine Nrm.seq ?_
      refine Tri.seq ?_
      refine Tri.block ?_
      obtain ⟨t18, h18, hE_1⟩ := bind_some hE_1
      obtain ⟨t20, h20, hE_1⟩ := bind_some hE_1
      refine Tri.reg (l := [0, 1, 2, 3, 4, 5, 6, 7]) rfl ?_
      refine F.q rfl rfl rfl (wanted_none rfl) (r_move rfl) ?_
      refine F.q rfl rfl rfl (wanted_none rfl) (r_move rfl) ?_
      refine F.q rfl rfl rfl (wanted_none rfl) (r_move rfl) ?_
      refine F.q rfl rfl rfl (wanted_none rfl) (r_move rfl) ?_
      refine F.q rfl rfl rfl (wanted_none rfl) (r_indexAddrS Try.underlying23 ti3 rfl hl_va0 rfl (rdl_some h18).1 (rdl_some h18).2.1) ?_
      refine F.q rfl rfl rfl (wanted_none rfl) (r_load ta3 rfl (fun w hw => cell_0 (Rd.flat ((fun _ hw => hr_a0.sep hw) w hw) (rdl_some h18).2.2) rfl)) ?_
      refine F.q rfl rfl rfl (wanted_none rfl) (r_indexAddrS Try.underlying23 ti3 rfl hl_x3 rfl (rdl_some h20).1 (rdl_some h20).2.1) ?_
      refine F.ef0 rfl rfl (wanted_none rfl) (d_storeE (i := 0) (x1 := t18) ti3 rfl rfl rfl (rdl_some h20) rfl) ?_
      rintro _ _ ⟨rfl, rfl⟩
      refine F.nil ?_
      refine Nrm.block ?_
      refine Nrm.seq ?_
      refine Tri.reg (l := [0, 1, 2]) rfl ?_
      refine F.q rfl rfl rfl (wanted_none rfl) (r_move rfl) ?_
      refine F.q rfl rfl rfl (wanted_none rfl) (r_add rfl rfl) ?_
      refine F.q rfl rfl rfl (wanted_none rfl) (r_assign rfl) ?_
      refine F.nil ?_
      refine Nrm.round ?_
      refine Rnd.only [0, 3, 4] rfl ?_
      refine Rnd.pick [0] rfl rfl ?_
      exact ih_1 _ _ ⟨x3.set x4.toNat t18, w64 (x4 + 1), hE_1, (len_set hl_x3), rfl, rfl⟩
    · replace hE_1 := if_ff g_1 hE_1
      refine Tri.exit ?_
      refine Exi.then ?_
      refine Exi.then ?_
      refine Exi.same ?_
      cases hE_1
      refine Nrm.seq ?_
      refine Tri.seq ?_
      refine Tri.reg (l := [0, 1]) rfl ?_
      refine F.q rfl rfl rfl (wanted_none rfl) (r_move rfl) ?_
      refine F.q rfl rfl rfl (wanted_none rfl) (r_assign rfl) ?_
      refine F.nil ?_
      refine Nrm.seq ?_
      refine Tri.ret ?_
      cases h
      exact Rtn.body (.tmp rfl .nil) (fun w hw => ⟨_, _, rfl, ⟨S7_1, hl_x3, rfl⟩, Sep.pick (is := [0]) rfl rfl hw⟩)

end Go.Proofs

/- loop.example/g01158/laws.toIntA3 -/

namespace Go.Proofs
open Go Go.Ga
set_option linter.unusedVariables false
set_option maxRecDepth 100000
set_option maxHeartbeats 4000000
def laws_toIntA3.l0 (k : Nat) (a0_0 : Int) (a0_1 : Int) (a0_2 : Int) : Nat → Int → Int → Int → Int → Option (Int × Int × Int)
  | 0, _, _, _, _ => none
  | n + 1, x4, xb3_1_0, xb3_1_1, xb3_1_2 => (if (decide (x4 < 3)) = true then (rdl [a0_0, a0_1, a0_2] x4).bind fun t11 => (rdl [xb3_1_0, xb3_1_1, xb3_1_2] x4).bind fun t13 => laws_toIntA3.l0 k a0_0 a0_1 a0_2 n (w64 (x4 + 1)) (if x4 = 0 then t11 else xb3_1_0) (if x4 = 1 then t11 else xb3_1_1) (if x4 = 2 then t11 else xb3_1_2) else some (xb3_1_0, xb3_1_1, xb3_1_2))

def laws_toIntA3.f (k : Nat) (a0_0 : Int) (a0_1 : Int) (a0_2 : Int) : Option (Int × Int × Int) := (laws_toIntA3.l0 k a0_0 a0_1 a0_2 k 0 0 0 0).bind fun (xb3_1_0, xb3_1_1, xb3_1_2) => some (xb3_1_0, xb3_1_1, xb3_1_2)

theorem laws_toIntA3.ok {k : Nat}  {a0_0 : Int} {a0_1 : Int} {a0_2 : Int} {r0 : Int} {r1 : Int} {r2 : Int} (h : laws_toIntA3.f k a0_0 a0_1 a0_2 = some (r0, r1, r2)) (w : World) :
    Calls Try.prog 100 ([.agg ([.int .i64 a0_0, .int .i64 a0_1, .int .i64 a0_2].toArray)] : List Value).toArray w (fun e w' => e = .returned (.agg [.int .i64 r0, .int .i64 r1, .int .i64 r2].toArray) ∧ Ext w w') := by
  unfold laws_toIntA3.f at h
  refine Calls.of_tri (N := 15) Try.func100 rfl rfl rfl (Sep.nil (M := noM)) ?_
  refine Tri.seq ?_
  refine Tri.reg (l := [0, 1]) rfl ?_
  refine F.m rfl rfl rfl (wanted_none rfl) (m_boxG rfl rfl) ?_
  rintro _ _ ⟨b1_1, rfl, rfl⟩
  refine F.m rfl rfl rfl (wanted_none rfl) (m_alloc ti116) ?_
  rintro _ _ ⟨b2_1, rfl, rfl⟩
  refine F.nil ?_
  refine Nrm.seq ?_
  refine Tri.seq ?_
  refine Tri.reg (l := [0]) rfl ?_
  refine F.m rfl rfl rfl (wanted_none rfl) (m_alloc ti116) ?_
  rintro _ _ ⟨b3_1, rfl, rfl⟩
  refine F.nil ?_
  refine Nrm.seq ?_
  refine Tri.seq ?_
  refine Tri.seq ?_
  refine Tri.reg (l := [0]) rfl ?_
  refine F.q rfl rfl rfl (wanted_none rfl) (r_assign rfl) ?_
  refine F.nil ?_
  refine Nrm.seq ?_
  obtain ⟨⟨xb3_1_0, xb3_1_1, xb3_1_2⟩, hE_1, h⟩ := bind_some h
  refine Tri.block ?_
  refine Tri.only [1, 2, 3, 4] rfl ?_
  refine Tri.pick [0, 1, 2] rfl rfl ?_
  refine Tri.rounds (fun n e' C' => ∃ (x4' : Int) (xb3_1_0' : Int) (xb3_1_1' : Int) (xb3_1_2' : Int), laws_toIntA3.l0 k a0_0 a0_1 a0_2 n x4' xb3_1_0' xb3_1_1' xb3_1_2' = some (xb3_1_0, xb3_1_1, xb3_1_2) ∧ e' = [(1, .pointer (some ⟨b1_1, 0, none⟩)), (2, .pointer (some ⟨b2_1, 0, none⟩)), (3, .pointer (some ⟨b3_1, 0, none⟩)), (4, .int .i64 x4')] ∧ C' = Sep w noM [R.box b3_1 116 [.int .i64 xb3_1_0', .int .i64 xb3_1_1', .int .i64 xb3_1_2'], R.box b2_1 116 [.int .i64 0, .int .i64 0, .int .i64 0], R.box b1_1 116 [.int .i64 a0_0, .int .i64 a0_1, .int .i64 a0_2]]) k ?_ ?_ ?_
  · exact ⟨0, 0, 0, 0, hE_1, rfl, rfl⟩
  · rintro _ _ ⟨_, _, _, _, hE_1, _⟩
    rw [laws_toIntA3.l0.eq_1] at hE_1; cases hE_1
  · rintro n_1 _ _ ⟨x4, xb3_1_0, xb3_1_1, xb3_1_2, hE_1, rfl, rfl⟩ ih_1
    rw [laws_toIntA3.l0.eq_2] at hE_1
    refine Tri.seq ?_
    refine Tri.seq ?_
    refine Tri.reg (l := [0, 1]) rfl ?_
    refine F.q rfl rfl rfl (wanted_none rfl) (r_move rfl) ?_
    refine F.q rfl rfl rfl (wanted_none rfl) (r_lss rfl rfl) ?_
    refine F.nil ?_
    refine Nrm.seq ?_
    refine Tri.cond (b := decide (x4 < 3)) rfl (fun g_1 => ?_) (fun g_1 => ?_)
    · replace hE_1 := if_tt g_1 hE_1
      refine Tri.skip ?_
      refine Nrm.seq ?_
      refine Tri.seq ?_
      refine Tri.block ?_
      obtain ⟨t11, h11, hE_1⟩ := bind_some hE_1
      obtain ⟨t13, h13, hE_1⟩ := bind_some hE_1
      refine Tri.reg (l := [0, 1, 2, 3, 4, 5]) rfl ?_
      refine F.q rfl rfl rfl (wanted_none rfl) (r_move rfl) ?_
      refine F.q rfl rfl rfl (wanted_none rfl) (r_move rfl) ?_
      refine F.q rfl rfl rfl (wanted_none rfl) (r_indexAddrA Try.underlying116 ti3 rfl rfl (rdl_some h11).1 (rdl_some h11).2.1) ?_
      refine F.q rfl rfl rfl (wanted_none rfl) (r_load ta3 rfl (fun w hw => cell_dynB (box_cells (i := 2) rfl w hw) rfl h11)) ?_
      refine F.q rfl rfl rfl (wanted_none rfl) (r_indexAddrA Try.underlying116 ti3 rfl rfl (rdl_some h13).1 (rdl_some h13).2.1) ?_
      refine F.ef0 rfl rfl (wanted_none rfl) (d_storeDyn (i := 0) (l := [xb3_1_0, xb3_1_1, xb3_1_2]) ti3 rfl rfl rfl h13 (set3 (rdl_some h13).1 (rdl_some h13).2.1)) ?_
      rintro _ _ ⟨rfl, rfl⟩
      refine F.nil ?_
      refine Nrm.block ?_
      refine Nrm.seq ?_
      refine Tri.reg (l := [0, 1, 2]) rfl ?_
      refine F.q rfl rfl rfl (wanted_none rfl) (r_move rfl) ?_
      refine F.q rfl rfl rfl (wanted_none rfl) (r_add rfl rfl) ?_
      refine F.q rfl rfl rfl (wanted_none rfl) (r_assign rfl) ?_
      refine F.nil ?_
      refine Nrm.round ?_
      refine Rnd.only [1, 2, 3, 4] rfl ?_
      refine Rnd.pick [0, 1, 2] rfl rfl ?_
      exact ih_1 _ _ ⟨w64 (x4 + 1), if x4 = 0 then t11 else xb3_1_0, if x4 = 1 then t11 else xb3_1_1, if x4 = 2 then t11 else xb3_1_2, hE_1, rfl, rfl⟩
    · replace hE_1 := if_ff g_1 hE_1
      refine Tri.exit ?_
      refine Exi.then ?_
      refine Exi.then ?_
      refine Exi.same ?_
      cases hE_1
      refine Nrm.seq ?_
      refine Tri.seq ?_
      refine Tri.reg (l := [0, 1]) rfl ?_
      refine F.q rfl rfl rfl (wanted_none rfl) (r_loadA ta116 ti116 rfl rfl (fun w hw => (box_cells (i := 0) rfl w hw))) ?_
      refine F.ef0 rfl rfl (wanted_none rfl) (d_storeG0 (i := 1) (cs2 := [.int .i64 xb3_1_0, .int .i64 xb3_1_1, .int .i64 xb3_1_2]) ti116 rfl rfl rfl rfl rfl (Nat.le_of_ble_eq_true rfl) (lf_cons rfl (lf_cons rfl (lf_cons rfl lf_nil)))) ?_
      rintro _ _ ⟨rfl, rfl⟩
      refine F.nil ?_
      refine Nrm.seq ?_
      refine Tri.ret ?_
      cases h
      exact Rtn.body (.cell rfl ta116 ti116 rfl (fun _ hw => box_cells (i := 1) rfl _ hw) .nil) (fun w hw => ⟨rfl, hw.ext⟩)

end Go.Proofs

/- loop.example/g01158/laws.toIntA3S -/
namespace Go.Proofs
open Go Go.Ga
set_option linter.unusedVariables false
set_option maxRecDepth 100000
set_option maxHeartbeats 4000000
def laws_toIntA3S.l0 (k : Nat) (a0 : List (Int × Int × Int)) : Nat → (List (Int × Int × Int)) → Int → Option ((List (Int × Int × Int)))
  | 0, _, _ => none
  | n + 1, x3, x4 => (if (decide (x4 < (a0.length : Int))) = true then (rdl a0 x4).bind fun t18 => (laws_toIntA3.f k t18.1 t18.2.1 t18.2.2).bind fun (t20_1, t20_2, t20_3) => (rdl x3 x4).bind fun t21 => laws_toIntA3S.l0 k a0 n (x3.set x4.toNat (t20_1, t20_2, t20_3)) (w64 (x4 + 1)) else some x3)

def laws_toIntA3S.f (k : Nat) (a0 : List (Int × Int × Int)) : Option ((List (Int × Int × Int))) := if 0 ≤ (a0.length : Int) ∧ (a0.length : Int) < 1099511627776 then (laws_toIntA3S.l0 k a0 k (List.replicate ((a0.length : Int)).toNat ((0, 0, 0) : Int × Int × Int)) 0).bind fun x3 => some x3 else none

theorem laws_toIntA3S.ok {k : Nat}  {a0 : List (Int × Int × Int)} {r0 : List (Int × Int × Int)} (h : laws_toIntA3S.f k a0 = some r0) (w : World) {va0 : Value} (hr_a0 : Rd w va0 a0) :
    Calls Try.prog 64 ([va0] : List Value).toArray w (Post (fun u ns => ∃ (Sr0 : Nat → Prop), SlLen u r0.length ∧ ns = [R.sl Sr0 u r0]) w) := by
  unfold laws_toIntA3S.f at h
  have hl_va0 := hr_a0.len
  refine Calls.of_tri (N := 23) Try.func64 rfl rfl rfl (Sep.nil (M := noM)) ?_
  refine Tri.seq ?_
  refine Tri.reg (l := [0]) rfl ?_
  refine F.q rfl rfl rfl (wanted_none rfl) (r_assign rfl) ?_
  refine F.nil ?_
  refine Nrm.seq ?_
  refine Tri.seq ?_
  obtain ⟨hm7, h⟩ := ck h
  refine Tri.reg (l := [0, 1, 2, 3]) rfl ?_
  refine F.q rfl rfl rfl (wanted_none rfl) (r_move rfl) ?_
  refine F.q rfl rfl rfl (wanted_none rfl) (r_len Try.underlying22 rfl hl_va0) ?_
  refine F.m rfl rfl rfl (wanted_none rfl) (m_make (x0 := ((0, 0, 0) : Int × Int × Int)) Try.underlying22 ti116 rfl rfl rfl hm7.1 hm7.2 (by decide)) ?_
  rintro v7_1 _ ⟨S7_1, hl_v7_1, rfl⟩
  refine F.q rfl rfl rfl (wanted_none rfl) (r_assign rfl) ?_
  refine F.nil ?_
  refine Nrm.seq ?_
  refine Tri.seq ?_
  refine Tri.seq ?_
  refine Tri.reg (l := [0]) rfl ?_
  refine F.q rfl rfl rfl (wanted_none rfl) (r_assign rfl) ?_
  refine F.nil ?_
  refine Nrm.seq ?_
  obtain ⟨x3, hE_1, h⟩ := bind_some h
  refine Tri.block ?_
  refine Tri.only [0, 3, 4] rfl ?_
  refine Tri.pick [0] rfl rfl ?_
  refine Tri.rounds (fun n e' C' => ∃ (x3' : List (Int × Int × Int)) (x4' : Int), laws_toIntA3S.l0 k a0 n x3' x4' = some x3 ∧ SlLen v7_1 (x3').length ∧ e' = [(0, va0), (3, v7_1), (4, .int .i64 x4')] ∧ C' = Sep w noM [R.sl S7_1 v7_1 (x3' : List (Int × Int × Int))]) k ?_ ?_ ?_
  · exact ⟨List.replicate ((a0.length : Int)).toNat ((0, 0, 0) : Int × Int × Int), 0, hE_1, hl_v7_1, rfl, rfl⟩
  · rintro _ _ ⟨_, _, hE_1, _⟩
    rw [laws_toIntA3S.l0.eq_1] at hE_1; cases hE_1
  · rintro n_1 _ _ ⟨x3, x4, hE_1, hl_x3, rfl, rfl⟩ ih_1
    rw [laws_toIntA3S.l0.eq_2] at hE_1
    refine Tri.seq ?_
    refine Tri.seq ?_
    refine Tri.reg (l := [0, 1, 2, 3]) rfl ?_
    refine F.q rfl rfl rfl (wanted_none rfl) (r_move rfl) ?_
    refine F.q rfl rfl rfl (wanted_none rfl) (r_move rfl) ?_
    refine F.q rfl rfl rfl (wanted_none rfl) (r_len Try.underlying22 rfl hl_va0) ?_
    refine F.q rfl rfl rfl (wanted_none rfl) (r_lss rfl rfl) ?_
    refine F.nil ?_
    refine Nrm.seq ?_
    refine Tri.cond (b := decide (x4 < (a0.length : Int))) rfl (fun g_1 => ?_) (fun g_1 => ?_)
    · replace hE_1 := if_tt g_1 hE_1
      refine Tri.skip ?_
      refine Nrm.seq ?_
      refine Tri.seq ?_
      refine Tri.block ?_
      obtain ⟨t18, h18, hE_1⟩ := bind_some hE_1
      obtain ⟨⟨t20_1, t20_2, t20_3⟩, h20, hE_1⟩ := bind_some hE_1
      obtain ⟨t21, h21, hE_1⟩ := bind_some hE_1
      refine Tri.reg (l := [0, 1, 2, 3, 4, 5, 6, 7, 8]) rfl ?_
      refine F.q rfl rfl rfl (wanted_none rfl) (r_move rfl) ?_
      refine F.q rfl rfl rfl (wanted_none rfl) (r_move rfl) ?_
      refine F.q rfl rfl rfl (wanted_none rfl) (r_move rfl) ?_
      refine F.q rfl rfl rfl (wanted_none rfl) (r_move rfl) ?_
      refine F.q rfl rfl rfl (wanted_none rfl) (r_indexAddrS Try.underlying22 ti116 rfl hl_va0 rfl (rdl_some h18).1 (rdl_some h18).2.1) ?_
      refine F.q rfl rfl rfl (wanted_none rfl) (r_loadA ta116 ti116 rfl rfl (fun w hw => (Rd.flat ((fun _ hw => hr_a0.sep hw) w hw) (rdl_some h18).2.2))) ?_
      refine F.qc rfl rfl rfl (wanted_none rfl) (q_callF (xs := _) rfl ok100 rfl rfl (fun w hw => laws_toIntA3.ok h20 w )) ?_
      refine F.q rfl rfl rfl (wanted_none rfl) (r_indexAddrS Try.underlying22 ti116 rfl hl_x3 rfl (rdl_some h21).1 (rdl_some h21).2.1) ?_
      refine F.ef0 rfl rfl (wanted_none rfl) (d_storeE (i := 0) (x1 := (t20_1, t20_2, t20_3)) ti116 rfl rfl rfl (rdl_some h21) rfl) ?_
      rintro _ _ ⟨rfl, rfl⟩
      refine F.nil ?_
      refine Nrm.block ?_
      refine Nrm.seq ?_
      refine Tri.reg (l := [0, 1, 2]) rfl ?_
      refine F.q rfl rfl rfl (wanted_none rfl) (r_move rfl) ?_
      refine F.q rfl rfl rfl (wanted_none rfl) (r_add rfl rfl) ?_
      refine F.q rfl rfl rfl (wanted_none rfl) (r_assign rfl) ?_
      refine F.nil ?_
      refine Nrm.round ?_
      refine Rnd.only [0, 3, 4] rfl ?_
      refine Rnd.pick [0] rfl rfl ?_
      exact ih_1 _ _ ⟨x3.set x4.toNat (t20_1, t20_2, t20_3), w64 (x4 + 1), hE_1, (len_set hl_x3), rfl, rfl⟩
    · replace hE_1 := if_ff g_1 hE_1
      refine Tri.exit ?_
      refine Exi.then ?_
      refine Exi.then ?_
      refine Exi.same ?_
      cases hE_1
      refine Nrm.seq ?_
      refine Tri.seq ?_
      refine Tri.reg (l := [0, 1]) rfl ?_
      refine F.q rfl rfl rfl (wanted_none rfl) (r_move rfl) ?_
      refine F.q rfl rfl rfl (wanted_none rfl) (r_assign rfl) ?_
      refine F.nil ?_
      refine Nrm.seq ?_
      refine Tri.ret ?_
      cases h
      exact Rtn.body (.tmp rfl .nil) (fun w hw => ⟨_, _, rfl, ⟨S7_1, hl_x3, rfl⟩, Sep.pick (is := [0]) rfl rfl hw⟩)

end Go.Proofs

/- loop.example/g01158/laws.toMaze -/
namespace Go.Proofs
open Go Go.Ga
set_option linter.unusedVariables false
set_option maxRecDepth 100000
set_option maxHeartbeats 4000000
def laws_toMaze.f (k : Nat) (a0_0 : Int) (a0_1 : List (Int × Int × Int)) (a0_2 : List Int) : Option (Int × (List (Int × Int × Int)) × (List Int)) := (laws_toIntA3S.f k a0_1).bind fun t9 => (laws_toIntS.f k a0_2).bind fun t13 => some (a0_0, t9, t13)

theorem laws_toMaze.ok {k : Nat}  {a0_0 : Int} {a0_1 : List (Int × Int × Int)} {a0_2 : List Int} {r0 : Int} {r1 : List (Int × Int × Int)} {r2 : List Int} (h : laws_toMaze.f k a0_0 a0_1 a0_2 = some (r0, r1, r2)) (w : World) {va0_1 : Value} {va0_2 : Value} (hr_a0_1 : Rd w va0_1 a0_1) (hr_a0_2 : Rd w va0_2 a0_2) :
    Calls Try.prog 23 ([.agg ([.int .i64 a0_0, va0_1, va0_2].toArray)] : List Value).toArray w (Post (fun u ns => ∃ (ur1 : Value) (Sr1 : Nat → Prop) (ur2 : Value) (Sr2 : Nat → Prop), u = .agg [.int .i64 r0, ur1, ur2].toArray ∧ SlLen ur1 r1.length ∧ SlLen ur2 r2.length ∧ ns = [R.sl Sr1 ur1 r1, R.sl Sr2 ur2 r2]) w) := by
  unfold laws_toMaze.f at h
  have hl_va0_1 := hr_a0_1.len
  have hl_va0_2 := hr_a0_2.len
  refine Calls.of_tri (N := 16) Try.func23 rfl rfl rfl (Sep.nil (M := noM)) ?_
  refine Tri.seq ?_
  refine Tri.reg (l := [0, 1]) rfl ?_
  refine F.m rfl rfl rfl (wanted_none rfl) (m_boxG rfl rfl) ?_
  rintro _ _ ⟨b1_1, rfl, rfl⟩
  refine F.m rfl rfl rfl (wanted_none rfl) (m_alloc ti31) ?_
  rintro _ _ ⟨b2_1, rfl, rfl⟩
  refine F.nil ?_
  refine Nrm.seq ?_
  refine Tri.seq ?_
  refine Tri.reg (l := [0]) rfl ?_
  refine F.m rfl rfl rfl (wanted_none rfl) (m_alloc ti31) ?_
  rintro _ _ ⟨b3_1, rfl, rfl⟩
  refine F.nil ?_
  refine Nrm.seq ?_
  refine Tri.seq ?_
  refine Tri.reg (l := [0, 1, 2, 3]) rfl ?_
  refine F.q rfl rfl rfl (wanted_none rfl) (r_fieldAddr tf25_0 rfl) ?_
  refine F.q rfl rfl rfl (wanted_none rfl) (r_load ta3 rfl (fun w hw => cell_1 (box_cells (i := 2) rfl w hw) rfl)) ?_
  refine F.q rfl rfl rfl (wanted_none rfl) (r_fieldAddr tf31_0 rfl) ?_
  refine F.ef0 rfl rfl (wanted_none rfl) (d_storeG1 (i := 0) (cs2 := [.int .i64 a0_0]) ti3 rfl rfl rfl rfl rfl (Nat.le_of_ble_eq_true rfl) (lf_cons rfl lf_nil)) ?_
  rintro _ _ ⟨rfl, rfl⟩
  refine F.nil ?_
  refine Nrm.seq ?_
  refine Tri.seq ?_
  obtain ⟨t9, h9, h⟩ := bind_some h
  refine Tri.reg (l := [0, 1, 2, 3, 4]) rfl ?_
  refine F.q rfl rfl rfl (wanted_none rfl) (r_fieldAddr tf25_1 rfl) ?_
  refine F.q rfl rfl rfl (wanted_none rfl) (r_load ta22 rfl (fun w hw => cell_1 (box_cells (i := 2) rfl w hw) rfl)) ?_
  refine F.m rfl rfl rfl (wanted_none rfl) (m_callF (xs := _) rfl ok64 rfl rfl (fun w hw => laws_toIntA3S.ok h9 w ((fun _ hw => hr_a0_1.sep hw) w hw))) ?_
  rintro v9_1 _ ⟨_, ⟨S9_1, hl_v9_1, rfl⟩, rfl⟩
  refine F.q rfl rfl rfl (wanted_none rfl) (r_fieldAddr tf31_1 rfl) ?_
  refine F.ef0 rfl rfl (wanted_none rfl) (d_storeG1 (i := 1) (cs2 := [v9_1]) ti22 rfl rfl rfl (sl_cells hl_v9_1) rfl (Nat.le_of_ble_eq_true rfl) (lf_cons (sl_leaf hl_v9_1) lf_nil)) ?_
  rintro _ _ ⟨rfl, rfl⟩
  refine F.nil ?_
  refine Nrm.seq ?_
  refine Tri.seq ?_
  obtain ⟨t13, h13, h⟩ := bind_some h
  refine Tri.reg (l := [0, 1, 2, 3, 4]) rfl ?_
  refine F.q rfl rfl rfl (wanted_none rfl) (r_fieldAddr tf25_2 rfl) ?_
  refine F.q rfl rfl rfl (wanted_none rfl) (r_load ta23 rfl (fun w hw => cell_1 (box_cells (i := 3) rfl w hw) rfl)) ?_
  refine F.m rfl rfl rfl (wanted_none rfl) (m_callF (xs := _) rfl ok24 rfl rfl (fun w hw => laws_toIntS.ok h13 w ((fun _ hw => hr_a0_2.sep hw) w hw))) ?_
  rintro v13_1 _ ⟨_, ⟨S13_1, hl_v13_1, rfl⟩, rfl⟩
  refine F.q rfl rfl rfl (wanted_none rfl) (r_fieldAddr tf31_2 rfl) ?_
  refine F.ef0 rfl rfl (wanted_none rfl) (d_storeG1 (i := 2) (cs2 := [v13_1]) ti23 rfl rfl rfl (sl_cells hl_v13_1) rfl (Nat.le_of_ble_eq_true rfl) (lf_cons (sl_leaf hl_v13_1) lf_nil)) ?_
  rintro _ _ ⟨rfl, rfl⟩
  refine F.nil ?_
  refine Nrm.seq ?_
  refine Tri.seq ?_
  refine Tri.reg (l := [0, 1]) rfl ?_
  refine F.q rfl rfl rfl (wanted_none rfl) (r_loadA ta31 ti31 rfl rfl (fun w hw => (box_cells (i := 2) rfl w hw))) ?_
  refine F.ef0 rfl rfl (wanted_none rfl) (d_storeG0 (i := 3) (cs2 := [.int .i64 a0_0, v9_1, v13_1]) ti31 rfl rfl rfl rfl rfl (Nat.le_of_ble_eq_true rfl) (lf_cons rfl (lf_cons (sl_leaf hl_v9_1) (lf_cons (sl_leaf hl_v13_1) lf_nil)))) ?_
  rintro _ _ ⟨rfl, rfl⟩
  refine F.nil ?_
  refine Nrm.seq ?_
  refine Tri.ret ?_
  cases h
  exact Rtn.body (.cell rfl ta31 ti31 rfl (fun _ hw => box_cells (i := 3) rfl _ hw) .nil) (fun w hw => ⟨_, _, rfl, ⟨v9_1, S9_1, v13_1, S13_1, rfl, hl_v9_1, hl_v13_1, rfl⟩, Sep.pick (is := [1, 0]) rfl rfl hw⟩)

end Go.Proofs

/- loop.example/g01158/laws.eqIntA3 -/

namespace Go.Proofs
open Go Go.Ga
set_option linter.unusedVariables false
set_option maxRecDepth 100000
set_option maxHeartbeats 4000000
def laws_eqIntA3.l0 (k : Nat) (a0_0 : Int) (a0_1 : Int) (a0_2 : Int) (a1_0 : Int) (a1_1 : Int) (a1_2 : Int) : Nat → Int → Option ((Unit) ⊕ (Bool))
  | 0, _ => none
  | n + 1, x5 => (if (decide (x5 < 3)) = true then (rdl [a0_0, a0_1, a0_2] x5).bind fun t11 => (rdl [a1_0, a1_1, a1_2] x5).bind fun t14 => (if (t11 != t14) = true then some (Sum.inr false) else laws_eqIntA3.l0 k a0_0 a0_1 a0_2 a1_0 a1_1 a1_2 n (w64 (x5 + 1))) else some (Sum.inl ()))

def laws_eqIntA3.f (k : Nat) (a0_0 : Int) (a0_1 : Int) (a0_2 : Int) (a1_0 : Int) (a1_1 : Int) (a1_2 : Int) : Option (Bool) := (laws_eqIntA3.l0 k a0_0 a0_1 a0_2 a1_0 a1_1 a1_2 k 0).bind fun s => Lr s some fun _ => some true

theorem laws_eqIntA3.ok {k : Nat}  {a0_0 : Int} {a0_1 : Int} {a0_2 : Int} {a1_0 : Int} {a1_1 : Int} {a1_2 : Int} {r0 : Bool} (h : laws_eqIntA3.f k a0_0 a0_1 a0_2 a1_0 a1_1 a1_2 = some r0) (w : World) :
    Calls Try.prog 106 ([.agg ([.int .i64 a0_0, .int .i64 a0_1, .int .i64 a0_2].toArray), .agg ([.int .i64 a1_0, .int .i64 a1_1, .int .i64 a1_2].toArray)] : List Value).toArray w (fun e w' => e = .returned (.bool r0) ∧ Ext w w') := by
  unfold laws_eqIntA3.f at h
  refine Calls.of_tri (N := 17) Try.func106 rfl rfl rfl (Sep.nil (M := noM)) ?_
  refine Tri.seq ?_
  refine Tri.reg (l := [0, 1, 2]) rfl ?_
  refine F.m rfl rfl rfl (wanted_none rfl) (m_boxG rfl rfl) ?_
  rintro _ _ ⟨b2_1, rfl, rfl⟩
  refine F.m rfl rfl rfl (wanted_none rfl) (m_boxG rfl rfl) ?_
  rintro _ _ ⟨b3_1, rfl, rfl⟩
  refine F.q rfl rfl rfl (wanted_none rfl) (r_assign rfl) ?_
  refine F.nil ?_
  refine Nrm.seq ?_
  refine Tri.seq ?_
  refine Tri.seq ?_
  refine Tri.reg (l := [0]) rfl ?_
  refine F.q rfl rfl rfl (wanted_none rfl) (r_assign rfl) ?_
  refine F.nil ?_
  refine Nrm.seq ?_
  obtain ⟨s0, hE_1, h⟩ := bind_some h
  refine Tri.block ?_
  refine Tri.only [2, 3, 5] rfl ?_
  refine Tri.pick [0, 1] rfl rfl ?_
  refine Tri.rounds (fun n e' C' => ∃ (x5' : Int), laws_eqIntA3.l0 k a0_0 a0_1 a0_2 a1_0 a1_1 a1_2 n x5' = some s0 ∧ e' = [(2, .pointer (some ⟨b2_1, 0, none⟩)), (3, .pointer (some ⟨b3_1, 0, none⟩)), (5, .int .i64 x5')] ∧ C' = Sep w noM [R.box b3_1 116 [.int .i64 a1_0, .int .i64 a1_1, .int .i64 a1_2], R.box b2_1 116 [.int .i64 a0_0, .int .i64 a0_1, .int .i64 a0_2]]) k ?_ ?_ ?_
  · exact ⟨0, hE_1, rfl, rfl⟩
  · rintro _ _ ⟨_, hE_1, _⟩
    rw [laws_eqIntA3.l0.eq_1] at hE_1; cases hE_1
  · rintro n_1 _ _ ⟨x5, hE_1, rfl, rfl⟩ ih_1
    rw [laws_eqIntA3.l0.eq_2] at hE_1
    refine Tri.seq ?_
    refine Tri.seq ?_
    refine Tri.reg (l := [0, 1]) rfl ?_
    refine F.q rfl rfl rfl (wanted_none rfl) (r_move rfl) ?_
    refine F.q rfl rfl rfl (wanted_none rfl) (r_lss rfl rfl) ?_
    refine F.nil ?_
    refine Nrm.seq ?_
    refine Tri.cond (b := decide (x5 < 3)) rfl (fun g_1 => ?_) (fun g_1 => ?_)
    · replace hE_1 := if_tt g_1 hE_1
      refine Tri.skip ?_
      refine Nrm.seq ?_
      refine Tri.seq ?_
      refine Tri.block ?_
      refine Tri.seq ?_
      obtain ⟨t11, h11, hE_1⟩ := bind_some hE_1
      obtain ⟨t14, h14, hE_1⟩ := bind_some hE_1
      refine Tri.drawA mixedT Sep.up [(0, true), (1, true), (2, true), (3, true), (4, true), (5, true), (6, true)] [] (by kernel_rfl) ?_
      refine S.q rfl rfl rfl (wanted_none rfl) (r_move rfl) ?_
      refine S.q rfl rfl rfl (wanted_none rfl) (r_indexAddrA Try.underlying116 ti3 rfl rfl (rdl_some h11).1 (rdl_some h11).2.1) ?_
      refine S.q rfl rfl rfl (wanted_none rfl) (r_load ta3 rfl (fun w hw => cell_dynB (box_cells (i := 1) rfl w hw) rfl h11)) ?_
      refine S.q rfl rfl rfl (wanted_none rfl) (r_move rfl) ?_
      refine S.q rfl rfl rfl (wanted_none rfl) (r_indexAddrA Try.underlying116 ti3 rfl rfl (rdl_some h14).1 (rdl_some h14).2.1) ?_
      refine S.q rfl rfl rfl (wanted_none rfl) (r_load ta3 rfl (fun w hw => cell_dynB (box_cells (i := 0) rfl w hw) rfl h14)) ?_
      refine S.q rfl rfl rfl (wanted_none rfl) (r_neq rfl rfl) ?_
      refine S.nil ?_
      refine F.nil ?_
      refine Nrm.seq ?_
      refine Tri.cond (b := t11 != t14) rfl (fun g_2 => ?_) (fun g_2 => ?_)
      · replace hE_1 := if_tt g_2 hE_1
        refine Tri.seq ?_
        refine Tri.reg (l := [0]) rfl ?_
        refine F.q rfl rfl rfl (wanted_none rfl) (r_assign rfl) ?_
        refine F.nil ?_
        refine Nrm.seq ?_
        refine Tri.ret ?_
        refine Rtn.block ?_
        refine Rtn.then ?_
        refine Rtn.then ?_
        refine Rtn.block ?_
        refine Rtn.then ?_
        cases hE_1
        replace h := Lr_inr h
        cases h
        exact Rtn.body (.tmp rfl .nil) (fun w hw => ⟨rfl, hw.ext⟩)
      · replace hE_1 := if_ff g_2 hE_1
        refine Tri.skip ?_
        refine Nrm.block ?_
        refine Nrm.seq ?_
        refine Tri.reg (l := [0, 1, 2]) rfl ?_
        refine F.q rfl rfl rfl (wanted_none rfl) (r_move rfl) ?_
        refine F.q rfl rfl rfl (wanted_none rfl) (r_add rfl rfl) ?_
        refine F.q rfl rfl rfl (wanted_none rfl) (r_assign rfl) ?_
        refine F.nil ?_
        refine Nrm.round ?_
        refine Rnd.only [2, 3, 5] rfl ?_
        refine Rnd.pick [0, 1] rfl rfl ?_
        exact ih_1 _ _ ⟨w64 (x5 + 1), hE_1, rfl, rfl⟩
    · replace hE_1 := if_ff g_1 hE_1
      refine Tri.exit ?_
      refine Exi.then ?_
      refine Exi.then ?_
      refine Exi.same ?_
      cases hE_1
      replace h := Lr_inl h
      refine Nrm.seq ?_
      refine Tri.seq ?_
      refine Tri.reg (l := [0]) rfl ?_
      refine F.q rfl rfl rfl (wanted_none rfl) (r_assign rfl) ?_
      refine F.nil ?_
      refine Nrm.seq ?_
      refine Tri.ret ?_
      cases h
      exact Rtn.body (.tmp rfl .nil) (fun w hw => ⟨rfl, hw.ext⟩)

end Go.Proofs

/- loop.example/g01158/laws.eqIntA3S -/
namespace Go.Proofs
open Go Go.Ga
set_option linter.unusedVariables false
set_option maxRecDepth 100000
set_option maxHeartbeats 4000000
def laws_eqIntA3S.l0 (k : Nat) (a0 : List (Int × Int × Int)) (a1 : List (Int × Int × Int)) : Nat → Int → Option ((Unit) ⊕ (Bool))
  | 0, _ => none
  | n + 1, x5 => (if (decide (x5 < (a0.length : Int))) = true then (rdl a0 x5).bind fun t19 => (rdl a1 x5).bind fun t23 => (laws_eqIntA3.f k t19.1 t19.2.1 t19.2.2 t23.1 t23.2.1 t23.2.2).bind fun t25 => (if (!t25) = true then some (Sum.inr false) else laws_eqIntA3S.l0 k a0 a1 n (w64 (x5 + 1))) else some (Sum.inl ()))

def laws_eqIntA3S.f (k : Nat) (a0 : List (Int × Int × Int)) (a1 : List (Int × Int × Int)) : Option (Bool) := (if ((a0.length : Int) != (a1.length : Int)) = true then some false else (laws_eqIntA3S.l0 k a0 a1 k 0).bind fun s => Lr s some fun _ => some true)

theorem laws_eqIntA3S.ok {k : Nat}  {a0 : List (Int × Int × Int)} {a1 : List (Int × Int × Int)} {r0 : Bool} (h : laws_eqIntA3S.f k a0 a1 = some r0) (w : World) {va0 : Value} {va1 : Value} (hr_a0 : Rd w va0 a0) (hr_a1 : Rd w va1 a1) :
    Calls Try.prog 71 ([va0, va1] : List Value).toArray w (fun e w' => e = .returned (.bool r0) ∧ Ext w w') := by
  unfold laws_eqIntA3S.f at h
  have hl_va0 := hr_a0.len
  have hl_va1 := hr_a1.len
  refine Calls.of_tri (N := 27) Try.func71 rfl rfl rfl (Sep.nil (M := noM)) ?_
  refine Tri.seq ?_
  refine Tri.reg (l := [0]) rfl ?_
  refine F.q rfl rfl rfl (wanted_none rfl) (r_assign rfl) ?_
  refine F.nil ?_
  refine Nrm.seq ?_
  refine Tri.seq ?_
  refine Tri.seq ?_
  refine Tri.reg (l := [0, 1, 2, 3, 4]) rfl ?_
  refine F.q rfl rfl rfl (wanted_none rfl) (r_move rfl) ?_
  refine F.q rfl rfl rfl (wanted_none rfl) (r_len Try.underlying22 rfl hl_va0) ?_
  refine F.q rfl rfl rfl (wanted_none rfl) (r_move rfl) ?_
  refine F.q rfl rfl rfl (wanted_none rfl) (r_len Try.underlying22 rfl hl_va1) ?_
  refine F.q rfl rfl rfl (wanted_none rfl) (r_neq rfl rfl) ?_
  refine F.nil ?_
  refine Nrm.seq ?_
  refine Tri.cond (b := (a0.length : Int) != (a1.length : Int)) rfl (fun g_1 => ?_) (fun g_1 => ?_)
  · replace h := if_tt g_1 h
    refine Tri.seq ?_
    refine Tri.reg (l := [0]) rfl ?_
    refine F.q rfl rfl rfl (wanted_none rfl) (r_assign rfl) ?_
    refine F.nil ?_
    refine Nrm.seq ?_
    refine Tri.ret ?_
    refine Rtn.then ?_
    cases h
    exact Rtn.body (.tmp rfl .nil) (fun w hw => ⟨rfl, hw.ext⟩)
  · replace h := if_ff g_1 h
    refine Tri.skip ?_
    refine Nrm.seq ?_
    refine Tri.seq ?_
    refine Tri.seq ?_
    refine Tri.reg (l := [0]) rfl ?_
    refine F.q rfl rfl rfl (wanted_none rfl) (r_assign rfl) ?_
    refine F.nil ?_
    refine Nrm.seq ?_
    obtain ⟨s0, hE_1, h⟩ := bind_some h
    refine Tri.block ?_
    refine Tri.only [0, 1, 5] rfl ?_
    refine Tri.pick [] rfl rfl ?_
    refine Tri.rounds (fun n e' C' => ∃ (x5' : Int), laws_eqIntA3S.l0 k a0 a1 n x5' = some s0 ∧ e' = [(0, va0), (1, va1), (5, .int .i64 x5')] ∧ C' = Sep w noM []) k ?_ ?_ ?_
    · exact ⟨0, hE_1, rfl, rfl⟩
    · rintro _ _ ⟨_, hE_1, _⟩
      rw [laws_eqIntA3S.l0.eq_1] at hE_1; cases hE_1
    · rintro n_1 _ _ ⟨x5, hE_1, rfl, rfl⟩ ih_1
      rw [laws_eqIntA3S.l0.eq_2] at hE_1
      refine Tri.seq ?_
      refine Tri.seq ?_
      refine Tri.reg (l := [0, 1, 2, 3]) rfl ?_
      refine F.q rfl rfl rfl (wanted_none rfl) (r_move rfl) ?_
      refine F.q rfl rfl rfl (wanted_none rfl) (r_move rfl) ?_
      refine F.q rfl rfl rfl (wanted_none rfl) (r_len Try.underlying22 rfl hl_va0) ?_
      refine F.q rfl rfl rfl (wanted_none rfl) (r_lss rfl rfl) ?_
      refine F.nil ?_
      refine Nrm.seq ?_
      refine Tri.cond (b := decide (x5 < (a0.length : Int))) rfl (fun g_2 => ?_) (fun g_2 => ?_)
      · replace hE_1 := if_tt g_2 hE_1
        refine Tri.skip ?_
        refine Nrm.seq ?_
        refine Tri.seq ?_
        refine Tri.block ?_
        refine Tri.seq ?_
        obtain ⟨t19, h19, hE_1⟩ := bind_some hE_1
        obtain ⟨t23, h23, hE_1⟩ := bind_some hE_1
        obtain ⟨t25, h25, hE_1⟩ := bind_some hE_1
        refine Tri.drawA mixedT Sep.up [(0, true), (1, true), (2, true), (3, true), (4, true), (5, true), (6, true), (7, true), (8, true), (9, true)] [] (by kernel_rfl) ?_
        refine S.q rfl rfl rfl (wanted_none rfl) (r_move rfl) ?_
        refine S.q rfl rfl rfl (wanted_none rfl) (r_move rfl) ?_
        refine S.q rfl rfl rfl (wanted_none rfl) (r_indexAddrS Try.underlying22 ti116 rfl hl_va0 rfl (rdl_some h19).1 (rdl_some h19).2.1) ?_
        refine S.q rfl rfl rfl (wanted_none rfl) (r_loadA ta116 ti116 rfl rfl (fun w hw => (Rd.flat ((fun _ hw => hr_a0.sep hw) w hw) (rdl_some h19).2.2))) ?_
        refine S.q rfl rfl rfl (wanted_none rfl) (r_move rfl) ?_
        refine S.q rfl rfl rfl (wanted_none rfl) (r_move rfl) ?_
        refine S.q rfl rfl rfl (wanted_none rfl) (r_indexAddrS Try.underlying22 ti116 rfl hl_va1 rfl (rdl_some h23).1 (rdl_some h23).2.1) ?_
        refine S.q rfl rfl rfl (wanted_none rfl) (r_loadA ta116 ti116 rfl rfl (fun w hw => (Rd.flat ((fun _ hw => hr_a1.sep hw) w hw) (rdl_some h23).2.2))) ?_
        refine S.qc rfl rfl rfl (wanted_none rfl) (q_callF (xs := _) rfl ok106 rfl rfl (fun w hw => laws_eqIntA3.ok h25 w )) ?_
        refine S.q rfl rfl rfl (wanted_none rfl) (r_not rfl) ?_
        refine S.nil ?_
        refine F.nil ?_
        refine Nrm.seq ?_
        refine Tri.cond (b := !t25) rfl (fun g_3 => ?_) (fun g_3 => ?_)
        · replace hE_1 := if_tt g_3 hE_1
          refine Tri.seq ?_
          refine Tri.reg (l := [0]) rfl ?_
          refine F.q rfl rfl rfl (wanted_none rfl) (r_assign rfl) ?_
          refine F.nil ?_
          refine Nrm.seq ?_
          refine Tri.ret ?_
          refine Rtn.block ?_
          refine Rtn.then ?_
          refine Rtn.then ?_
          refine Rtn.block ?_
          refine Rtn.then ?_
          cases hE_1
          replace h := Lr_inr h
          cases h
          exact Rtn.body (.tmp rfl .nil) (fun w hw => ⟨rfl, hw.ext⟩)
        · replace hE_1 := if_ff g_3 hE_1
          refine Tri.skip ?_
          refine Nrm.block ?_
          refine Nrm.seq ?_
          refine Tri.reg (l := [0, 1, 2]) rfl ?_
          refine F.q rfl rfl rfl (wanted_none rfl) (r_move rfl) ?_
          refine F.q rfl rfl rfl (wanted_none rfl) (r_add rfl rfl) ?_
          refine F.q rfl rfl rfl (wanted_none rfl) (r_assign rfl) ?_
          refine F.nil ?_
          refine Nrm.round ?_
          refine Rnd.only [0, 1, 5] rfl ?_
          refine Rnd.pick [] rfl rfl ?_
          exact ih_1 _ _ ⟨w64 (x5 + 1), hE_1, rfl, rfl⟩
      · replace hE_1 := if_ff g_2 hE_1
        refine Tri.exit ?_
        refine Exi.then ?_
        refine Exi.then ?_
        refine Exi.same ?_
        cases hE_1
        replace h := Lr_inl h
        refine Nrm.seq ?_
        refine Tri.seq ?_
        refine Tri.reg (l := [0]) rfl ?_
        refine F.q rfl rfl rfl (wanted_none rfl) (r_assign rfl) ?_
        refine F.nil ?_
        refine Nrm.seq ?_
        refine Tri.ret ?_
        cases h
        exact Rtn.body (.tmp rfl .nil) (fun w hw => ⟨rfl, hw.ext⟩)

end Go.Proofs

/- loop.example/g01158/laws.eqMaze -/
namespace Go.Proofs
open Go Go.Ga
set_option linter.unusedVariables false
set_option maxRecDepth 100000
set_option maxHeartbeats 4000000
def laws_eqMaze.f (k : Nat) (a0_0 : Int) (a0_1 : List (Int × Int × Int)) (a0_2 : List Int) (a1_0 : Int) (a1_1 : List (Int × Int × Int)) (a1_2 : List Int) : Option (Bool) := (if (a0_0 != a1_0) = true then some false else (laws_eqIntA3S.f k a0_1 a1_1).bind fun t14 => (if (!t14) = true then some false else (laws_eqIntS.f k a0_2 a1_2).bind fun t20 => (if (!t20) = true then some false else some true)))

theorem laws_eqMaze.ok {k : Nat}  {a0_0 : Int} {a0_1 : List (Int × Int × Int)} {a0_2 : List Int} {a1_0 : Int} {a1_1 : List (Int × Int × Int)} {a1_2 : List Int} {r0 : Bool} (h : laws_eqMaze.f k a0_0 a0_1 a0_2 a1_0 a1_1 a1_2 = some r0) (w : World) {va0_1 : Value} {va0_2 : Value} {va1_1 : Value} {va1_2 : Value} (hr_a0_1 : Rd w va0_1 a0_1) (hr_a0_2 : Rd w va0_2 a0_2) (hr_a1_1 : Rd w va1_1 a1_1) (hr_a1_2 : Rd w va1_2 a1_2) :
    Calls Try.prog 27 ([.agg ([.int .i64 a0_0, va0_1, va0_2].toArray), .agg ([.int .i64 a1_0, va1_1, va1_2].toArray)] : List Value).toArray w (fun e w' => e = .returned (.bool r0) ∧ Ext w w') := by
  unfold laws_eqMaze.f at h
  have hl_va0_1 := hr_a0_1.len
  have hl_va0_2 := hr_a0_2.len
  have hl_va1_1 := hr_a1_1.len
  have hl_va1_2 := hr_a1_2.len
  refine Calls.of_tri (N := 22) Try.func27 rfl rfl rfl (Sep.nil (M := noM)) ?_
  refine Tri.seq ?_
  refine Tri.reg (l := [0, 1, 2]) rfl ?_
  refine F.m rfl rfl rfl (wanted_none rfl) (m_boxG rfl rfl) ?_
  rintro _ _ ⟨b2_1, rfl, rfl⟩
  refine F.m rfl rfl rfl (wanted_none rfl) (m_boxG rfl rfl) ?_
  rintro _ _ ⟨b3_1, rfl, rfl⟩
  refine F.q rfl rfl rfl (wanted_none rfl) (r_assign rfl) ?_
  refine F.nil ?_
  refine Nrm.seq ?_
  refine Tri.seq ?_
  refine Tri.seq ?_
  refine Tri.reg (l := [0, 1, 2, 3, 4]) rfl ?_
  refine F.q rfl rfl rfl (wanted_none rfl) (r_fieldAddr tf31_0 rfl) ?_
  refine F.q rfl rfl rfl (wanted_none rfl) (r_load ta3 rfl (fun w hw => cell_1 (box_cells (i := 1) rfl w hw) rfl)) ?_
  refine F.q rfl rfl rfl (wanted_none rfl) (r_fieldAddr tf31_0 rfl) ?_
  refine F.q rfl rfl rfl (wanted_none rfl) (r_load ta3 rfl (fun w hw => cell_1 (box_cells (i := 0) rfl w hw) rfl)) ?_
  refine F.q rfl rfl rfl (wanted_none rfl) (r_neq rfl rfl) ?_
  refine F.nil ?_
  refine Nrm.seq ?_
  refine Tri.cond (b := a0_0 != a1_0) rfl (fun g_1 => ?_) (fun g_1 => ?_)
  · replace h := if_tt g_1 h
    refine Tri.seq ?_
    refine Tri.reg (l := [0]) rfl ?_
    refine F.q rfl rfl rfl (wanted_none rfl) (r_assign rfl) ?_
    refine F.nil ?_
    refine Nrm.seq ?_
    refine Tri.ret ?_
    refine Rtn.then ?_
    cases h
    exact Rtn.body (.tmp rfl .nil) (fun w hw => ⟨rfl, hw.ext⟩)
  · replace h := if_ff g_1 h
    refine Tri.skip ?_
    refine Nrm.seq ?_
    refine Tri.seq ?_
    refine Tri.seq ?_
    obtain ⟨t14, h14, h⟩ := bind_some h
    refine Tri.reg (l := [0, 1, 2, 3, 4, 5]) rfl ?_
    refine F.q rfl rfl rfl (wanted_none rfl) (r_fieldAddr tf31_1 rfl) ?_
    refine F.q rfl rfl rfl (wanted_none rfl) (r_load ta22 rfl (fun w hw => cell_1 (box_cells (i := 1) rfl w hw) rfl)) ?_
    refine F.q rfl rfl rfl (wanted_none rfl) (r_fieldAddr tf31_1 rfl) ?_
    refine F.q rfl rfl rfl (wanted_none rfl) (r_load ta22 rfl (fun w hw => cell_1 (box_cells (i := 0) rfl w hw) rfl)) ?_
    refine F.qc rfl rfl rfl (wanted_none rfl) (q_callF (xs := _) rfl ok71 rfl rfl (fun w hw => laws_eqIntA3S.ok h14 w ((fun _ hw => hr_a0_1.sep hw) w hw) ((fun _ hw => hr_a1_1.sep hw) w hw))) ?_
    refine F.q rfl rfl rfl (wanted_none rfl) (r_not rfl) ?_
    refine F.nil ?_
    refine Nrm.seq ?_
    refine Tri.cond (b := !t14) rfl (fun g_2 => ?_) (fun g_2 => ?_)
    · replace h := if_tt g_2 h
      refine Tri.seq ?_
      refine Tri.reg (l := [0]) rfl ?_
      refine F.q rfl rfl rfl (wanted_none rfl) (r_assign rfl) ?_
      refine F.nil ?_
      refine Nrm.seq ?_
      refine Tri.ret ?_
      refine Rtn.then ?_
      cases h
      exact Rtn.body (.tmp rfl .nil) (fun w hw => ⟨rfl, hw.ext⟩)
    · replace h := if_ff g_2 h
      refine Tri.skip ?_
      refine Nrm.seq ?_
      refine Tri.seq ?_
      refine Tri.seq ?_
      obtain ⟨t20, h20, h⟩ := bind_some h
      refine Tri.reg (l := [0, 1, 2, 3, 4, 5]) rfl ?_
      refine F.q rfl rfl rfl (wanted_none rfl) (r_fieldAddr tf31_2 rfl) ?_
      refine F.q rfl rfl rfl (wanted_none rfl) (r_load ta23 rfl (fun w hw => cell_1 (box_cells (i := 1) rfl w hw) rfl)) ?_
      refine F.q rfl rfl rfl (wanted_none rfl) (r_fieldAddr tf31_2 rfl) ?_
      refine F.q rfl rfl rfl (wanted_none rfl) (r_load ta23 rfl (fun w hw => cell_1 (box_cells (i := 0) rfl w hw) rfl)) ?_
      refine F.qc rfl rfl rfl (wanted_none rfl) (q_callF (xs := _) rfl ok16 rfl rfl (fun w hw => laws_eqIntS.ok h20 w ((fun _ hw => hr_a0_2.sep hw) w hw) ((fun _ hw => hr_a1_2.sep hw) w hw))) ?_
      refine F.q rfl rfl rfl (wanted_none rfl) (r_not rfl) ?_
      refine F.nil ?_
      refine Nrm.seq ?_
      refine Tri.cond (b := !t20) rfl (fun g_3 => ?_) (fun g_3 => ?_)
      · replace h := if_tt g_3 h
        refine Tri.seq ?_
        refine Tri.reg (l := [0]) rfl ?_
        refine F.q rfl rfl rfl (wanted_none rfl) (r_assign rfl) ?_
        refine F.nil ?_
        refine Nrm.seq ?_
        refine Tri.ret ?_
        refine Rtn.then ?_
        cases h
        exact Rtn.body (.tmp rfl .nil) (fun w hw => ⟨rfl, hw.ext⟩)
      · replace h := if_ff g_3 h
        refine Tri.skip ?_
        refine Nrm.seq ?_
        refine Tri.seq ?_
        refine Tri.reg (l := [0]) rfl ?_
        refine F.q rfl rfl rfl (wanted_none rfl) (r_assign rfl) ?_
        refine F.nil ?_
        refine Nrm.seq ?_
        refine Tri.ret ?_
        cases h
        exact Rtn.body (.tmp rfl .nil) (fun w hw => ⟨rfl, hw.ext⟩)

end Go.Proofs

/- loop.example/g01158/laws.markIntA3S -/

namespace Go.Proofs
open Go Go.Ga
set_option linter.unusedVariables false
set_option maxRecDepth 100000
set_option maxHeartbeats 4000000
def laws_markIntA3S.l1 (k : Nat) (x5 : Int) : Nat → (List (Int × Int × Int)) → Int → Int → Option ((List (Int × Int × Int)) × Int)
  | 0, _, _, _ => none
  | n + 1, x0r, x1r, x6 => (if (decide (x6 < 3)) = true then (rdl x0r x5).bind fun t21 => (rdl [t21.1, t21.2.1, t21.2.2] x6).bind fun t22 => laws_markIntA3S.l1 k x5 n (x0r.set x5.toNat (if x6 = 0 then x1r else t21.1, if x6 = 1 then x1r else t21.2.1, if x6 = 2 then x1r else t21.2.2)) (w64 (x1r + 1)) (w64 (x6 + 1)) else some (x0r, x1r))

def laws_markIntA3S.l0 (k : Nat) : Nat → (List (Int × Int × Int)) → Int → Int → Option (Int × (List (Int × Int × Int)))
  | 0, _, _, _ => none
  | n + 1, x0, x1, x5 => (if (decide (x5 < (x0.length : Int))) = true then (laws_markIntA3S.l1 k x5 k x0 x1 0).bind fun (x0r, x1r) => laws_markIntA3S.l0 k n x0r x1r (w64 (x5 + 1)) else some (x1, x0))

def laws_markIntA3S.f (k : Nat) (a0 : List (Int × Int × Int)) (a1 : Int) : Option (Int × (List (Int × Int × Int))) := (laws_markIntA3S.l0 k k a0 a1 0).bind fun (x1, x0) => some (x1, x0)

theorem laws_markIntA3S.ok {k : Nat}  {a0 : List (Int × Int × Int)} {a1 : Int} {r0 : Int} {r1 : List (Int × Int × Int)} (h : laws_markIntA3S.f k a0 a1 = some (r0, r1)) (w : World) {va0 : Value} {Sa0 : Nat → Prop} (hl_va0 : SlLen va0 a0.length) (hw0 : Sep w (footM [R.sl Sa0 va0 a0]) [R.sl Sa0 va0 a0] w) :
    Calls Try.prog 72 ([va0, .int .i64 a1] : List Value).toArray w (PostM (footM [R.sl Sa0 va0 a0]) (fun u ns => u = .int .i64 r0 ∧ SlLen va0 r1.length ∧ ns = [R.sl Sa0 va0 r1]) w) := by
  unfold laws_markIntA3S.f at h
  refine Calls.of_tri (N := 26) Try.func72 rfl rfl rfl hw0 ?_
  refine Tri.seq ?_
  refine Tri.reg (l := [0]) rfl ?_
  refine F.q rfl rfl rfl (wanted_none rfl) (r_assign rfl) ?_
  refine F.nil ?_
  refine Nrm.seq ?_
  refine Tri.seq ?_
  refine Tri.seq ?_
  refine Tri.reg (l := [0]) rfl ?_
  refine F.q rfl rfl rfl (wanted_none rfl) (r_assign rfl) ?_
  refine F.nil ?_
  refine Nrm.seq ?_
  obtain ⟨⟨x1, x0⟩, hE_1, h⟩ := bind_some h
  refine Tri.block ?_
  refine Tri.only [0, 1, 5] rfl ?_
  refine Tri.pick [0] rfl rfl ?_
  refine Tri.rounds (fun n e' C' => ∃ (x0' : List (Int × Int × Int)) (x1' : Int) (x5' : Int), laws_markIntA3S.l0 k n x0' x1' x5' = some (x1, x0) ∧ SlLen va0 (x0').length ∧ e' = [(0, va0), (1, .int .i64 x1'), (5, .int .i64 x5')] ∧ C' = Sep w (footM [R.sl Sa0 va0 a0]) [R.sl Sa0 va0 (x0' : List (Int × Int × Int))]) k ?_ ?_ ?_
  · exact ⟨a0, a1, 0, hE_1, hl_va0, rfl, rfl⟩
  · rintro _ _ ⟨_, _, _, hE_1, _⟩
    rw [laws_markIntA3S.l0.eq_1] at hE_1; cases hE_1
  · rintro n_1 _ _ ⟨x0, x1, x5, hE_1, hl_x0, rfl, rfl⟩ ih_1
    rw [laws_markIntA3S.l0.eq_2] at hE_1
    refine Tri.seq ?_
    refine Tri.seq ?_
    refine Tri.reg (l := [0, 1, 2, 3]) rfl ?_
    refine F.q rfl rfl rfl (wanted_none rfl) (r_move rfl) ?_
    refine F.q rfl rfl rfl (wanted_none rfl) (r_move rfl) ?_
    refine F.q rfl rfl rfl (wanted_none rfl) (r_len Try.underlying22 rfl hl_x0) ?_
    refine F.q rfl rfl rfl (wanted_none rfl) (r_lss rfl rfl) ?_
    refine F.nil ?_
    refine Nrm.seq ?_
    refine Tri.cond (b := decide (x5 < (x0.length : Int))) rfl (fun g_1 => ?_) (fun g_1 => ?_)
    · replace hE_1 := if_tt g_1 hE_1
      refine Tri.skip ?_
      refine Nrm.seq ?_
      refine Tri.seq ?_
      refine Tri.block ?_
      refine Tri.seq ?_
      refine Tri.reg (l := [0]) rfl ?_
      refine F.q rfl rfl rfl (wanted_none rfl) (r_assign rfl) ?_
      refine F.nil ?_
      refine Nrm.seq ?_
      obtain ⟨⟨x0r, x1r⟩, hE_2, hE_1⟩ := bind_some hE_1
      refine Tri.block ?_
      refine Tri.only [0, 1, 5, 6] rfl ?_
      refine Tri.pick [0] rfl rfl ?_
      refine Tri.rounds (fun n e' C' => ∃ (x0r' : List (Int × Int × Int)) (x1r' : Int) (x6' : Int), laws_markIntA3S.l1 k x5 n x0r' x1r' x6' = some (x0r, x1r) ∧ SlLen va0 (x0r').length ∧ e' = [(0, va0), (1, .int .i64 x1r'), (5, .int .i64 x5), (6, .int .i64 x6')] ∧ C' = Sep w (footM [R.sl Sa0 va0 a0]) [R.sl Sa0 va0 (x0r' : List (Int × Int × Int))]) k ?_ ?_ ?_
      · exact ⟨x0, x1, 0, hE_2, hl_x0, rfl, rfl⟩
      · rintro _ _ ⟨_, _, _, hE_2, _⟩
        rw [laws_markIntA3S.l1.eq_1] at hE_2; cases hE_2
      · rintro n_2 _ _ ⟨x0r, x1r, x6, hE_2, hl_x0r, rfl, rfl⟩ ih_2
        rw [laws_markIntA3S.l1.eq_2] at hE_2
        refine Tri.seq ?_
        refine Tri.seq ?_
        refine Tri.reg (l := [0, 1]) rfl ?_
        refine F.q rfl rfl rfl (wanted_none rfl) (r_move rfl) ?_
        refine F.q rfl rfl rfl (wanted_none rfl) (r_lss rfl rfl) ?_
        refine F.nil ?_
        refine Nrm.seq ?_
        refine Tri.cond (b := decide (x6 < 3)) rfl (fun g_2 => ?_) (fun g_2 => ?_)
        · replace hE_2 := if_tt g_2 hE_2
          refine Tri.skip ?_
          refine Nrm.seq ?_
          refine Tri.seq ?_
          refine Tri.block ?_
          refine Tri.seq ?_
          obtain ⟨t21, h21, hE_2⟩ := bind_some hE_2
          obtain ⟨t22, h22, hE_2⟩ := bind_some hE_2
          refine Tri.reg (l := [0, 1, 2, 3, 4, 5, 6]) rfl ?_
          refine F.q rfl rfl rfl (wanted_none rfl) (r_move rfl) ?_
          refine F.q rfl rfl rfl (wanted_none rfl) (r_move rfl) ?_
          refine F.q rfl rfl rfl (wanted_none rfl) (r_move rfl) ?_
          refine F.q rfl rfl rfl (wanted_none rfl) (r_move rfl) ?_
          refine F.q rfl rfl rfl (wanted_none rfl) (r_indexAddrS Try.underlying22 ti116 rfl hl_x0r rfl (rdl_some h21).1 (rdl_some h21).2.1) ?_
          refine F.q rfl rfl rfl (wanted_none rfl) (r_indexAddrA Try.underlying116 ti3 rfl rfl (rdl_some h22).1 (rdl_some h22).2.1) ?_
          refine F.ef0 rfl rfl (wanted_none rfl) (d_storeP (i := 0) (k := (x6.toNat * 1)) (x0 := t21) (x1 := (if x6 = 0 then x1r else t21.1, if x6 = 1 then x1r else t21.2.1, if x6 = 2 then x1r else t21.2.2)) ti3 rfl rfl rfl (rdl_some h21) rfl (dlt (rdl_some h22).1 (rdl_some h22).2.1) (setV3 (rdl_some h22).1 (rdl_some h22).2.1) rfl) ?_
          rintro _ _ ⟨rfl, rfl⟩
          refine F.nil ?_
          refine Nrm.seq ?_
          refine Tri.reg (l := [0, 1, 2]) rfl ?_
          refine F.q rfl rfl rfl (wanted_none rfl) (r_move rfl) ?_
          refine F.q rfl rfl rfl (wanted_none rfl) (r_add rfl rfl) ?_
          refine F.q rfl rfl rfl (wanted_none rfl) (r_assign rfl) ?_
          refine F.nil ?_
          refine Nrm.block ?_
          refine Nrm.seq ?_
          refine Tri.reg (l := [0, 1, 2]) rfl ?_
          refine F.q rfl rfl rfl (wanted_none rfl) (r_move rfl) ?_
          refine F.q rfl rfl rfl (wanted_none rfl) (r_add rfl rfl) ?_
          refine F.q rfl rfl rfl (wanted_none rfl) (r_assign rfl) ?_
          refine F.nil ?_
          refine Nrm.round ?_
          refine Rnd.only [0, 1, 5, 6] rfl ?_
          refine Rnd.pick [0] rfl rfl ?_
          exact ih_2 _ _ ⟨x0r.set x5.toNat (if x6 = 0 then x1r else t21.1, if x6 = 1 then x1r else t21.2.1, if x6 = 2 then x1r else t21.2.2), w64 (x1r + 1), w64 (x6 + 1), hE_2, (len_set hl_x0r), rfl, rfl⟩
        · replace hE_2 := if_ff g_2 hE_2
          refine Tri.exit ?_
          refine Exi.then ?_
          refine Exi.then ?_
          refine Exi.same ?_
          cases hE_2
          refine Nrm.block ?_
          refine Nrm.seq ?_
          refine Tri.reg (l := [0, 1, 2]) rfl ?_
          refine F.q rfl rfl rfl (wanted_none rfl) (r_move rfl) ?_
          refine F.q rfl rfl rfl (wanted_none rfl) (r_add rfl rfl) ?_
          refine F.q rfl rfl rfl (wanted_none rfl) (r_assign rfl) ?_
          refine F.nil ?_
          refine Nrm.round ?_
          refine Rnd.only [0, 1, 5] rfl ?_
          refine Rnd.pick [0] rfl rfl ?_
          exact ih_1 _ _ ⟨x0r, x1r, w64 (x5 + 1), hE_1, hl_x0r, rfl, rfl⟩
    · replace hE_1 := if_ff g_1 hE_1
      refine Tri.exit ?_
      refine Exi.then ?_
      refine Exi.then ?_
      refine Exi.same ?_
      cases hE_1
      refine Nrm.seq ?_
      refine Tri.seq ?_
      refine Tri.reg (l := [0, 1]) rfl ?_
      refine F.q rfl rfl rfl (wanted_none rfl) (r_move rfl) ?_
      refine F.q rfl rfl rfl (wanted_none rfl) (r_assign rfl) ?_
      refine F.nil ?_
      refine Nrm.seq ?_
      refine Tri.ret ?_
      cases h
      exact Rtn.body (.tmp rfl .nil) (fun w hw => ⟨_, _, rfl, ⟨rfl, hl_x0, rfl⟩, Sep.pick (is := [0]) rfl rfl hw⟩)

end Go.Proofs

/- loop.example/g01158/laws.markMaze -/
namespace Go.Proofs
open Go Go.Ga
set_option linter.unusedVariables false
set_option maxRecDepth 100000
set_option maxHeartbeats 4000000
def laws_markMaze.f (k : Nat) (a0_0 : Int) (a0_1 : List (Int × Int × Int)) (a0_2 : List Int) (a1 : Int) : Option (Int × (List (Int × Int × Int)) × (List Int)) := (laws_markIntA3S.f k a0_1 a1).bind fun (t8_1, t8_2) => (laws_markIntS.f k a0_2 t8_1).bind fun (t12_1, t12_2) => some (t12_1, t8_2, t12_2)

theorem laws_markMaze.ok {k : Nat}  {a0_0 : Int} {a0_1 : List (Int × Int × Int)} {a0_2 : List Int} {a1 : Int} {r0 : Int} {r1 : List (Int × Int × Int)} {r2 : List Int} (h : laws_markMaze.f k a0_0 a0_1 a0_2 a1 = some (r0, r1, r2)) (w : World) {va0_1 : Value} {Sa0_1 : Nat → Prop} (hl_va0_1 : SlLen va0_1 a0_1.length) {va0_2 : Value} {Sa0_2 : Nat → Prop} (hl_va0_2 : SlLen va0_2 a0_2.length) (hw0 : Sep w (footM [R.sl Sa0_1 va0_1 a0_1, R.sl Sa0_2 va0_2 a0_2]) [R.sl Sa0_1 va0_1 a0_1, R.sl Sa0_2 va0_2 a0_2] w) :
    Calls Try.prog 28 ([.agg ([.int .i64 a0_0, va0_1, va0_2].toArray), .int .i64 a1] : List Value).toArray w (PostM (footM [R.sl Sa0_1 va0_1 a0_1, R.sl Sa0_2 va0_2 a0_2]) (fun u ns => u = .int .i64 r0 ∧ SlLen va0_1 r1.length ∧ SlLen va0_2 r2.length ∧ ns = [R.sl Sa0_1 va0_1 r1, R.sl Sa0_2 va0_2 r2]) w) := by
  unfold laws_markMaze.f at h
  refine Calls.of_tri (N := 14) Try.func28 rfl rfl rfl hw0 ?_
  refine Tri.seq ?_
  refine Tri.reg (l := [0, 1]) rfl ?_
  refine F.m rfl rfl rfl (wanted_none rfl) (m_boxG rfl rfl) ?_
  rintro _ _ ⟨b2_1, rfl, rfl⟩
  refine F.q rfl rfl rfl (wanted_none rfl) (r_assign rfl) ?_
  refine F.nil ?_
  refine Nrm.seq ?_
  refine Tri.seq ?_
  obtain ⟨⟨t8_1, t8_2⟩, h8, h⟩ := bind_some h
  refine Tri.reg (l := [0, 1, 2, 3, 4]) rfl ?_
  refine F.q rfl rfl rfl (wanted_none rfl) (r_fieldAddr tf31_1 rfl) ?_
  refine F.q rfl rfl rfl (wanted_none rfl) (r_load ta22 rfl (fun w hw => cell_1 (box_cells (i := 0) rfl w hw) rfl)) ?_
  refine F.q rfl rfl rfl (wanted_none rfl) (r_move rfl) ?_
  refine F.ef rfl rfl rfl (wanted_none rfl) (d_callM (xs := _) (cs := [R.sl Sa0_1 va0_1 (a0_1 : List (Int × Int × Int))]) (rest := [R.box b2_1 31 [.int .i64 a0_0, va0_1, va0_2], R.sl Sa0_2 va0_2 (a0_2 : List (Int))]) [1] [0, 2] rfl ok72 rfl rfl rfl rfl (fun w hw => laws_markIntA3S.ok h8 w hl_va0_1 (Sep.sub hw))) ?_
  rintro _ _ ⟨_, ⟨rfl, hl_t8_2, rfl⟩, rfl⟩
  refine F.q rfl rfl rfl (wanted_none rfl) (r_assign rfl) ?_
  refine F.nil ?_
  refine Nrm.seq ?_
  refine Tri.seq ?_
  obtain ⟨⟨t12_1, t12_2⟩, h12, h⟩ := bind_some h
  refine Tri.reg (l := [0, 1, 2, 3, 4]) rfl ?_
  refine F.q rfl rfl rfl (wanted_none rfl) (r_fieldAddr tf31_2 rfl) ?_
  refine F.q rfl rfl rfl (wanted_none rfl) (r_load ta23 rfl (fun w hw => cell_1 (box_cells (i := 1) rfl w hw) rfl)) ?_
  refine F.q rfl rfl rfl (wanted_none rfl) (r_move rfl) ?_
  refine F.ef rfl rfl rfl (wanted_none rfl) (d_callM (xs := _) (cs := [R.sl Sa0_2 va0_2 (a0_2 : List (Int))]) (rest := [R.sl Sa0_1 va0_1 (t8_2 : List (Int × Int × Int)), R.box b2_1 31 [.int .i64 a0_0, va0_1, va0_2]]) [2] [0, 1] rfl ok19 rfl rfl rfl rfl (fun w hw => laws_markIntS.ok h12 w hl_va0_2 (Sep.sub hw))) ?_
  rintro _ _ ⟨_, ⟨rfl, hl_t12_2, rfl⟩, rfl⟩
  refine F.q rfl rfl rfl (wanted_none rfl) (r_assign rfl) ?_
  refine F.nil ?_
  refine Nrm.seq ?_
  refine Tri.seq ?_
  refine Tri.reg (l := [0, 1]) rfl ?_
  refine F.q rfl rfl rfl (wanted_none rfl) (r_move rfl) ?_
  refine F.q rfl rfl rfl (wanted_none rfl) (r_assign rfl) ?_
  refine F.nil ?_
  refine Nrm.seq ?_
  refine Tri.ret ?_
  cases h
  exact Rtn.body (.tmp rfl .nil) (fun w hw => ⟨_, _, rfl, ⟨rfl, hl_t8_2, hl_t12_2, rfl⟩, Sep.pick (is := [1, 0]) rfl rfl hw⟩)

end Go.Proofs

/- loop.example/g01158/spec.l2Colours -/

namespace Go.Proofs
open Go Go.Ga
set_option linter.unusedVariables false
set_option maxRecDepth 100000
set_option maxHeartbeats 4000000
def spec_l2Colours.l0 (k : Nat) (a0 : Int) : Nat → (List (Int)) → Int → Option ((List (Int)))
  | 0, _, _ => none
  | n + 1, x3, x4 => (if (decide (x4 < 6)) = true then if ¬ x4 < 0 then ((if ((band (shr a0 x4) 1) == 1) = true then if (x3 ++ ([x4] : List (Int))).length < 1099511627776 then some (x3 ++ ([x4] : List (Int))) else none else some x3)).bind fun y3 => spec_l2Colours.l0 k a0 n y3 (w64 (x4 + 1)) else none else some x3)

def spec_l2Colours.f (k : Nat) (a0 : Int) : Option ((List Int)) := (spec_l2Colours.l0 k a0 k ([] : List (Int)) 0).bind fun x3 => some x3

theorem spec_l2Colours.ok {k : Nat}  {a0 : Int} {r0 : List Int} (h : spec_l2Colours.f k a0 = some r0) (w : World) :
    Calls Try.prog 62 ([.int .i64 a0] : List Value).toArray w (Post (fun u ns => ∃ (Sr0 : Nat → Prop), SlLen u r0.length ∧ ns = [R.sl Sr0 u r0]) w) := by
  unfold spec_l2Colours.f at h
  refine Calls.of_tri (N := 20) Try.func62 rfl rfl rfl (Sep.nil (M := noM)) ?_
  refine Tri.seq ?_
  refine Tri.reg (l := [0]) rfl ?_
  refine F.q rfl rfl rfl (wanted_none rfl) (r_assign rfl) ?_
  refine F.nil ?_
  refine Nrm.seq ?_
  refine Tri.seq ?_
  refine Tri.reg (l := [0, 1]) rfl ?_
  refine F.m rfl rfl rfl (wanted_none rfl) (m_build0 (α := Int) Try.underlying23 ti3) ?_
  rintro v5_1 _ ⟨S5_1, hl_v5_1, rfl⟩
  refine F.q rfl rfl rfl (wanted_none rfl) (r_assign rfl) ?_
  refine F.nil ?_
  refine Nrm.seq ?_
  refine Tri.seq ?_
  refine Tri.seq ?_
  refine Tri.reg (l := [0]) rfl ?_
  refine F.q rfl rfl rfl (wanted_none rfl) (r_assign rfl) ?_
  refine F.nil ?_
  refine Nrm.seq ?_
  obtain ⟨x3, hE_1, h⟩ := bind_some h
  refine Tri.block ?_
  refine Tri.only [0, 3, 4] rfl ?_
  refine Tri.pick [0] rfl rfl ?_
  refine Tri.rounds (fun n e' C' => ∃ (x3' : List (Int)) (x4' : Int) (w3 : Value) (T3 : Nat → Prop), spec_l2Colours.l0 k a0 n x3' x4' = some x3 ∧ SlLen w3 (x3').length ∧ e' = [(0, .int .i64 a0), (3, w3), (4, .int .i64 x4')] ∧ C' = Sep w noM [R.sl T3 w3 (x3' : List (Int))]) k ?_ ?_ ?_
  · exact ⟨([] : List (Int)), 0, v5_1, S5_1, hE_1, hl_v5_1, rfl, rfl⟩
  · rintro _ _ ⟨_, _, _, _, hE_1, _⟩
    rw [spec_l2Colours.l0.eq_1] at hE_1; cases hE_1
  · rintro n_1 _ _ ⟨x3, x4, w3, T3, hE_1, hl_w3, rfl, rfl⟩ ih_1
    rw [spec_l2Colours.l0.eq_2] at hE_1
    refine Tri.seq ?_
    refine Tri.seq ?_
    refine Tri.reg (l := [0, 1]) rfl ?_
    refine F.q rfl rfl rfl (wanted_none rfl) (r_move rfl) ?_
    refine F.q rfl rfl rfl (wanted_none rfl) (r_lss rfl rfl) ?_
    refine F.nil ?_
    refine Nrm.seq ?_
    refine Tri.cond (b := decide (x4 < 6)) rfl (fun g_1 => ?_) (fun g_1 => ?_)
    · replace hE_1 := if_tt g_1 hE_1
      refine Tri.skip ?_
      refine Nrm.seq ?_
      refine Tri.seq ?_
      refine Tri.block ?_
      refine Tri.seq ?_
      obtain ⟨hs12, hE_1⟩ := ck hE_1
      refine Tri.reg (l := [0, 1, 2, 3, 4]) rfl ?_
      refine F.q rfl rfl rfl (wanted_none rfl) (r_move rfl) ?_
      refine F.q rfl rfl rfl (wanted_none rfl) (r_move rfl) ?_
      refine F.q rfl rfl rfl (wanted_none rfl) (r_shr rfl rfl hs12) ?_
      refine F.q rfl rfl rfl (wanted_none rfl) (r_and rfl rfl) ?_
      refine F.q rfl rfl rfl (wanted_none rfl) (r_eql rfl rfl) ?_
      refine F.nil ?_
      refine Nrm.seq ?_
      obtain ⟨y3, hE_2, hE_1⟩ := bind_some hE_1
      refine Tri.cut (fun e' C' => ∃ (v3_1 : Value) (S3_1 : Nat → Prop), SlLen v3_1 (y3).length ∧ e' = [(0, .int .i64 a0), (3, v3_1), (4, .int .i64 x4)] ∧ C' = Sep w noM [R.sl S3_1 v3_1 (y3 : List (Int))]) ?_ (fun hj_1 => ?_)
      · rintro _ _ ⟨v3_1, S3_1, hl_v3_1, rfl, rfl⟩
        refine Nrm.block ?_
        refine Nrm.seq ?_
        refine Tri.reg (l := [0, 1, 2]) rfl ?_
        refine F.q rfl rfl rfl (wanted_none rfl) (r_move rfl) ?_
        refine F.q rfl rfl rfl (wanted_none rfl) (r_add rfl rfl) ?_
        refine F.q rfl rfl rfl (wanted_none rfl) (r_assign rfl) ?_
        refine F.nil ?_
        refine Nrm.round ?_
        refine Rnd.only [0, 3, 4] rfl ?_
        refine Rnd.pick [0] rfl rfl ?_
        exact ih_1 _ _ ⟨y3, w64 (x4 + 1), v3_1, S3_1, hE_1, hl_v3_1, rfl, rfl⟩
      · refine Tri.cond (b := (band (shr a0 x4) 1) == 1) rfl (fun g_2 => ?_) (fun g_2 => ?_)
        · replace hE_2 := if_tt g_2 hE_2
          obtain ⟨hs18, hE_2⟩ := ck hE_2
          refine Tri.reg (l := [0, 1, 2, 3, 4]) rfl ?_
          refine F.q rfl rfl rfl (wanted_none rfl) (r_move rfl) ?_
          refine F.q rfl rfl rfl (wanted_none rfl) (r_move rfl) ?_
          refine F.m rfl rfl rfl (wanted_none rfl) (m_buildF (l := ([x4] : List (Int))) Try.underlying23 ti3 rfl rfl rfl rfl rfl) ?_
          rintro v17_1 _ ⟨S17_1, hl_v17_1, rfl⟩
          refine F.ef rfl rfl rfl (wanted_none rfl) (d_append (i := 1) Try.underlying23 Try.underlying23 ti3 rfl (by decide) rfl rfl rfl (rd_sl (i := 0) rfl) hs18) ?_
          rintro v18_1 _ ⟨S18_1, rfl, hl_v18_1⟩
          refine F.q rfl rfl rfl (wanted_none rfl) (r_assign rfl) ?_
          refine F.nil ?_
          cases hE_2
          refine Nrm.only [0, 3, 4] rfl ?_
          refine Nrm.pick [1] rfl rfl ?_
          exact hj_1 _ _ ⟨v18_1, S18_1, hl_v18_1, rfl, rfl⟩
        · replace hE_2 := if_ff g_2 hE_2
          refine Tri.skip ?_
          cases hE_2
          refine Nrm.only [0, 3, 4] rfl ?_
          refine Nrm.pick [0] rfl rfl ?_
          exact hj_1 _ _ ⟨w3, T3, hl_w3, rfl, rfl⟩
    · replace hE_1 := if_ff g_1 hE_1
      refine Tri.exit ?_
      refine Exi.then ?_
      refine Exi.then ?_
      refine Exi.same ?_
      cases hE_1
      refine Nrm.seq ?_
      refine Tri.seq ?_
      refine Tri.reg (l := [0, 1]) rfl ?_
      refine F.q rfl rfl rfl (wanted_none rfl) (r_move rfl) ?_
      refine F.q rfl rfl rfl (wanted_none rfl) (r_assign rfl) ?_
      refine F.nil ?_
      refine Nrm.seq ?_
      refine Tri.ret ?_
      cases h
      exact Rtn.body (.tmp rfl .nil) (fun w hw => ⟨_, _, rfl, ⟨T3, hl_w3, rfl⟩, Sep.pick (is := [0]) rfl rfl hw⟩)

end Go.Proofs

/- loop.example/g01158/spec.l1Has -/

namespace Go.Proofs
open Go Go.Ga
set_option linter.unusedVariables false
set_option maxRecDepth 100000
set_option maxHeartbeats 4000000
def spec_l1Has.l0 (k : Nat) (a0 : List Int) (a1 : Int) : Nat → Int → Option ((Unit) ⊕ (Bool))
  | 0, _ => none
  | n + 1, x5 => (if (decide (x5 < (a0.length : Int))) = true then (rdl a0 x5).bind fun t14 => (if (t14 == a1) = true then some (Sum.inr true) else spec_l1Has.l0 k a0 a1 n (w64 (x5 + 1))) else some (Sum.inl ()))

def spec_l1Has.f (k : Nat) (a0 : List Int) (a1 : Int) : Option (Bool) := (spec_l1Has.l0 k a0 a1 k 0).bind fun s => Lr s some fun _ => some false

theorem spec_l1Has.ok {k : Nat}  {a0 : List Int} {a1 : Int} {r0 : Bool} (h : spec_l1Has.f k a0 a1 = some r0) (w : World) {va0 : Value} (hr_a0 : Rd w va0 a0) :
    Calls Try.prog 76 ([va0, .int .i64 a1] : List Value).toArray w (fun e w' => e = .returned (.bool r0) ∧ Ext w w') := by
  unfold spec_l1Has.f at h
  have hl_va0 := hr_a0.len
  refine Calls.of_tri (N := 18) Try.func76 rfl rfl rfl (Sep.nil (M := noM)) ?_
  refine Tri.seq ?_
  refine Tri.reg (l := [0]) rfl ?_
  refine F.q rfl rfl rfl (wanted_none rfl) (r_assign rfl) ?_
  refine F.nil ?_
  refine Nrm.seq ?_
  refine Tri.seq ?_
  refine Tri.seq ?_
  refine Tri.reg (l := [0]) rfl ?_
  refine F.q rfl rfl rfl (wanted_none rfl) (r_assign rfl) ?_
  refine F.nil ?_
  refine Nrm.seq ?_
  obtain ⟨s0, hE_1, h⟩ := bind_some h
  refine Tri.block ?_
  refine Tri.only [0, 1, 5] rfl ?_
  refine Tri.pick [] rfl rfl ?_
  refine Tri.rounds (fun n e' C' => ∃ (x5' : Int), spec_l1Has.l0 k a0 a1 n x5' = some s0 ∧ e' = [(0, va0), (1, .int .i64 a1), (5, .int .i64 x5')] ∧ C' = Sep w noM []) k ?_ ?_ ?_
  · exact ⟨0, hE_1, rfl, rfl⟩
  · rintro _ _ ⟨_, hE_1, _⟩
    rw [spec_l1Has.l0.eq_1] at hE_1; cases hE_1
  · rintro n_1 _ _ ⟨x5, hE_1, rfl, rfl⟩ ih_1
    rw [spec_l1Has.l0.eq_2] at hE_1
    refine Tri.seq ?_
    refine Tri.seq ?_
    refine Tri.reg (l := [0, 1, 2, 3]) rfl ?_
    refine F.q rfl rfl rfl (wanted_none rfl) (r_move rfl) ?_
    refine F.q rfl rfl rfl (wanted_none rfl) (r_move rfl) ?_
    refine F.q rfl rfl rfl (wanted_none rfl) (r_len Try.underlying23 rfl hl_va0) ?_
    refine F.q rfl rfl rfl (wanted_none rfl) (r_lss rfl rfl) ?_
    refine F.nil ?_
    refine Nrm.seq ?_
    refine Tri.cond (b := decide (x5 < (a0.length : Int))) rfl (fun g_1 => ?_) (fun g_1 => ?_)
    · replace hE_1 := if_tt g_1 hE_1
      refine Tri.skip ?_
      refine Nrm.seq ?_
      refine Tri.seq ?_
      refine Tri.block ?_
      refine Tri.seq ?_
      obtain ⟨t14, h14, hE_1⟩ := bind_some hE_1
      refine Tri.reg (l := [0, 1, 2, 3, 4, 5]) rfl ?_
      refine F.q rfl rfl rfl (wanted_none rfl) (r_move rfl) ?_
      refine F.q rfl rfl rfl (wanted_none rfl) (r_move rfl) ?_
      refine F.q rfl rfl rfl (wanted_none rfl) (r_indexAddrS Try.underlying23 ti3 rfl hl_va0 rfl (rdl_some h14).1 (rdl_some h14).2.1) ?_
      refine F.q rfl rfl rfl (wanted_none rfl) (r_load ta3 rfl (fun w hw => cell_0 (Rd.flat ((fun _ hw => hr_a0.sep hw) w hw) (rdl_some h14).2.2) rfl)) ?_
      refine F.q rfl rfl rfl (wanted_none rfl) (r_move rfl) ?_
      refine F.q rfl rfl rfl (wanted_none rfl) (r_eql rfl rfl) ?_
      refine F.nil ?_
      refine Nrm.seq ?_
      refine Tri.cond (b := t14 == a1) rfl (fun g_2 => ?_) (fun g_2 => ?_)
      · replace hE_1 := if_tt g_2 hE_1
        refine Tri.seq ?_
        refine Tri.reg (l := [0]) rfl ?_
        refine F.q rfl rfl rfl (wanted_none rfl) (r_assign rfl) ?_
        refine F.nil ?_
        refine Nrm.seq ?_
        refine Tri.ret ?_
        refine Rtn.block ?_
        refine Rtn.then ?_
        refine Rtn.then ?_
        refine Rtn.block ?_
        refine Rtn.then ?_
        cases hE_1
        replace h := Lr_inr h
        cases h
        exact Rtn.body (.tmp rfl .nil) (fun w hw => ⟨rfl, hw.ext⟩)
      · replace hE_1 := if_ff g_2 hE_1
        refine Tri.skip ?_
        refine Nrm.block ?_
        refine Nrm.seq ?_
        refine Tri.reg (l := [0, 1, 2]) rfl ?_
        refine F.q rfl rfl rfl (wanted_none rfl) (r_move rfl) ?_
        refine F.q rfl rfl rfl (wanted_none rfl) (r_add rfl rfl) ?_
        refine F.q rfl rfl rfl (wanted_none rfl) (r_assign rfl) ?_
        refine F.nil ?_
        refine Nrm.round ?_
        refine Rnd.only [0, 1, 5] rfl ?_
        refine Rnd.pick [] rfl rfl ?_
        exact ih_1 _ _ ⟨w64 (x5 + 1), hE_1, rfl, rfl⟩
    · replace hE_1 := if_ff g_1 hE_1
      refine Tri.exit ?_
      refine Exi.then ?_
      refine Exi.then ?_
      refine Exi.same ?_
      cases hE_1
      replace h := Lr_inl h
      refine Nrm.seq ?_
      refine Tri.seq ?_
      refine Tri.reg (l := [0]) rfl ?_
      refine F.q rfl rfl rfl (wanted_none rfl) (r_assign rfl) ?_
      refine F.nil ?_
      refine Nrm.seq ?_
      refine Tri.ret ?_
      cases h
      exact Rtn.body (.tmp rfl .nil) (fun w hw => ⟨rfl, hw.ext⟩)

end Go.Proofs

/- loop.example/g01158/spec.l2Has -/

namespace Go.Proofs
open Go Go.Ga
set_option linter.unusedVariables false
set_option maxRecDepth 100000
set_option maxHeartbeats 4000000
def spec_l2Has.f (k : Nat) (a0 : Int) (a1 : Int) : Option (Bool) := some ((band a0 a1) == a1)

theorem spec_l2Has.ok {k : Nat}  {a0 : Int} {a1 : Int} {r0 : Bool} (h : spec_l2Has.f k a0 a1 = some r0) (w : World) :
    Calls Try.prog 159 ([.int .i64 a0, .int .i64 a1] : List Value).toArray w (fun e w' => e = .returned (.bool r0) ∧ Ext w w') := by
  unfold spec_l2Has.f at h
  refine Calls.of_tri (N := 10) Try.func159 rfl rfl rfl (Sep.nil (M := noM)) ?_
  refine Tri.seq ?_
  refine Tri.reg (l := [0]) rfl ?_
  refine F.q rfl rfl rfl (wanted_none rfl) (r_assign rfl) ?_
  refine F.nil ?_
  refine Nrm.seq ?_
  refine Tri.seq ?_
  refine Tri.reg (l := [0, 1, 2, 3, 4, 5]) rfl ?_
  refine F.q rfl rfl rfl (wanted_none rfl) (r_move rfl) ?_
  refine F.q rfl rfl rfl (wanted_none rfl) (r_move rfl) ?_
  refine F.q rfl rfl rfl (wanted_none rfl) (r_and rfl rfl) ?_
  refine F.q rfl rfl rfl (wanted_none rfl) (r_move rfl) ?_
  refine F.q rfl rfl rfl (wanted_none rfl) (r_eql rfl rfl) ?_
  refine F.q rfl rfl rfl (wanted_none rfl) (r_assign rfl) ?_
  refine F.nil ?_
  refine Nrm.seq ?_
  refine Tri.ret ?_
  cases h
  exact Rtn.body (.tmp rfl .nil) (fun w hw => ⟨rfl, hw.ext⟩)

end Go.Proofs

/- loop.example/g01158/spec.l1Put -/

namespace Go.Proofs
open Go Go.Ga
set_option linter.unusedVariables false
set_option maxRecDepth 100000
set_option maxHeartbeats 4000000
def spec_l1Put.l0 (k : Nat) (a0 : List Int) (a1 : Int) : Nat → Int → Option (Int)
  | 0, _ => none
  | n + 1, x5 => ((if (decide (x5 < (a0.length : Int))) = true then (rdl a0 x5).bind fun t13 => some (decide (t13 < a1)) else some false)).bind fun y17 => (if y17 = true then spec_l1Put.l0 k a0 a1 n (w64 (x5 + 1)) else some x5)

def spec_l1Put.f (k : Nat) (a0 : List Int) (a1 : Int) : Option ((List Int)) := (spec_l1Put.l0 k a0 a1 k 0).bind fun x5 => ((if (decide (x5 < (a0.length : Int))) = true then (rdl a0 x5).bind fun t27 => some (t27 == a1) else some false)).bind fun y31 => (if y31 = true then some a0 else ((slc a0 0 x5).bind fun t36 => (slc a0 x5 (a0.length : Int)).bind fun t43 => if (([] : List (Int)) ++ t36).length < 1099511627776 then if ((([] : List (Int)) ++ t36) ++ ([a1] : List (Int))).length < 1099511627776 then if (((([] : List (Int)) ++ t36) ++ ([a1] : List (Int))) ++ t43).length < 1099511627776 then some (((([] : List (Int)) ++ t36) ++ ([a1] : List (Int))) ++ t43) else none else none else none).bind fun y4 => some y4)

theorem spec_l1Put.ok {k : Nat}  {a0 : List Int} {a1 : Int} {r0 : List Int} (h : spec_l1Put.f k a0 a1 = some r0) (w : World) {va0 : Value} {Sa0 : Nat → Prop} (hl_va0 : SlLen va0 a0.length) (hw0 : Sep w (footM [R.sl Sa0 va0 a0]) [R.sl Sa0 va0 a0] w) :
    Calls Try.prog 165 ([va0, .int .i64 a1] : List Value).toArray w (PostM (footM [R.sl Sa0 va0 a0]) (fun u ns => ∃ (Sr0 : Nat → Prop), SlLen u r0.length ∧ ns = [R.sl Sr0 u r0]) w) := by
  unfold spec_l1Put.f at h
  refine Calls.of_tri (N := 45) Try.func165 rfl rfl rfl hw0 ?_
  refine Tri.seq ?_
  refine Tri.reg (l := [0]) rfl ?_
  refine F.q rfl rfl rfl (wanted_none rfl) (r_assign rfl) ?_
  refine F.nil ?_
  refine Nrm.seq ?_
  refine Tri.seq ?_
  refine Tri.reg (l := [0]) rfl ?_
  refine F.q rfl rfl rfl (wanted_none rfl) (r_assign rfl) ?_
  refine F.nil ?_
  refine Nrm.seq ?_
  refine Tri.seq ?_
  obtain ⟨x5, hE_1, h⟩ := bind_some h
  refine Tri.block ?_
  refine Tri.only [0, 1, 5] rfl ?_
  refine Tri.pick [0] rfl rfl ?_
  refine Tri.rounds (fun n e' C' => ∃ (x5' : Int), spec_l1Put.l0 k a0 a1 n x5' = some x5 ∧ e' = [(0, va0), (1, .int .i64 a1), (5, .int .i64 x5')] ∧ C' = Sep w (footM [R.sl Sa0 va0 a0]) [R.sl Sa0 va0 (a0 : List (Int))]) k ?_ ?_ ?_
  · exact ⟨0, hE_1, rfl, rfl⟩
  · rintro _ _ ⟨_, hE_1, _⟩
    rw [spec_l1Put.l0.eq_1] at hE_1; cases hE_1
  · rintro n_1 _ _ ⟨x5, hE_1, rfl, rfl⟩ ih_1
    rw [spec_l1Put.l0.eq_2] at hE_1
    refine Tri.seq ?_
    refine Tri.seq ?_
    obtain ⟨y17, hE_2, hE_1⟩ := bind_some hE_1
    refine Tri.cut (fun e' C' => e' = [(0, va0), (1, .int .i64 a1), (5, .int .i64 x5), (17, .bool y17)] ∧ C' = Sep w (footM [R.sl Sa0 va0 a0]) [R.sl Sa0 va0 (a0 : List (Int))]) ?_ (fun hj_1 => ?_)
    · rintro _ _ ⟨rfl, rfl⟩
      refine Nrm.seq ?_
      refine Tri.cond (b := y17) rfl (fun g_1 => ?_) (fun g_1 => ?_)
      · replace hE_1 := if_tt g_1 hE_1
        refine Tri.skip ?_
        refine Nrm.seq ?_
        refine Tri.block ?_
        refine Tri.reg (l := [0, 1, 2]) rfl ?_
        refine F.q rfl rfl rfl (wanted_none rfl) (r_move rfl) ?_
        refine F.q rfl rfl rfl (wanted_none rfl) (r_add rfl rfl) ?_
        refine F.q rfl rfl rfl (wanted_none rfl) (r_assign rfl) ?_
        refine F.nil ?_
        refine Nrm.block ?_
        refine Nrm.round ?_
        refine Rnd.only [0, 1, 5] rfl ?_
        refine Rnd.pick [0] rfl rfl ?_
        exact ih_1 _ _ ⟨w64 (x5 + 1), hE_1, rfl, rfl⟩
      · replace hE_1 := if_ff g_1 hE_1
        refine Tri.exit ?_
        refine Exi.then ?_
        refine Exi.then ?_
        refine Exi.same ?_
        cases hE_1
        refine Nrm.seq ?_
        refine Tri.seq ?_
        refine Tri.seq ?_
        obtain ⟨y31, hE_3, h⟩ := bind_some h
        refine Tri.cut (fun e' C' => e' = [(0, va0), (1, .int .i64 a1), (5, .int .i64 x5), (31, .bool y31)] ∧ C' = Sep w (footM [R.sl Sa0 va0 a0]) [R.sl Sa0 va0 (a0 : List (Int))]) ?_ (fun hj_2 => ?_)
        · rintro _ _ ⟨rfl, rfl⟩
          refine Nrm.seq ?_
          refine Tri.cond (b := y31) rfl (fun g_2 => ?_) (fun g_2 => ?_)
          · replace h := if_tt g_2 h
            refine Tri.seq ?_
            refine Tri.reg (l := [0, 1]) rfl ?_
            refine F.q rfl rfl rfl (wanted_none rfl) (r_move rfl) ?_
            refine F.q rfl rfl rfl (wanted_none rfl) (r_assign rfl) ?_
            refine F.nil ?_
            refine Nrm.seq ?_
            refine Tri.ret ?_
            refine Rtn.then ?_
            cases h
            exact Rtn.body (.tmp rfl .nil) (fun w hw => ⟨_, _, rfl, ⟨Sa0, hl_va0, rfl⟩, Sep.pick (is := [0]) rfl rfl hw⟩)
          · replace h := if_ff g_2 h
            refine Tri.skip ?_
            refine Nrm.seq ?_
            refine Tri.seq ?_
            obtain ⟨y4, hE_4, h⟩ := bind_some h
            refine Tri.cut (fun e' C' => ∃ (v4_1 : Value) (S4_1 : Nat → Prop), SlLen v4_1 (y4).length ∧ e' = [(4, v4_1)] ∧ C' = Sep w (footM [R.sl Sa0 va0 a0]) [R.sl S4_1 v4_1 (y4 : List (Int))]) ?_ (fun hj_3 => ?_)
            · rintro _ _ ⟨v4_1, S4_1, hl_v4_1, rfl, rfl⟩
              refine Nrm.seq ?_
              refine Tri.ret ?_
              cases h
              exact Rtn.body (.tmp rfl .nil) (fun w hw => ⟨_, _, rfl, ⟨S4_1, hl_v4_1, rfl⟩, Sep.pick (is := [0]) rfl rfl hw⟩)
            · obtain ⟨t36, h36, hE_4⟩ := bind_some hE_4
              obtain ⟨t43, h43, hE_4⟩ := bind_some hE_4
              obtain ⟨hs37, hE_4⟩ := ck hE_4
              obtain ⟨hs40, hE_4⟩ := ck hE_4
              obtain ⟨hs44, hE_4⟩ := ck hE_4
              refine Tri.drawT mixedT Sep.up [1, 2, 3, 5, 8, 9, 10, 0, 4, 6, 7] [11, 12] (.q 1 (.q 2 (.q 3 (.q 5 (.q 8 (.q 9 (.q 10 (.alt 0 (.alt 4 (.alt 6 (.alt 7 .nil .stop) .stop) (.alt 6 (.alt 4 (.alt 7 .nil .stop) .stop) .stop)) (.alt 6 (.alt 0 (.alt 4 (.alt 7 .nil .stop) .stop) .stop) .stop))))))))) (by kernel_rfl) ?_
              refine T.q rfl rfl rfl (wanted_none rfl) (r_move rfl) ?_
              refine T.q rfl rfl rfl (wanted_none rfl) (r_move rfl) ?_
              refine T.q rfl rfl rfl (wanted_none rfl) (r_sliceH Try.underlying23 ti3 rfl (rd_sl (i := 0) rfl) rfl h36) ?_
              refine T.q rfl rfl rfl (wanted_none rfl) (r_move rfl) ?_
              refine T.q rfl rfl rfl (wanted_none rfl) (r_move rfl) ?_
              refine T.q rfl rfl rfl (wanted_none rfl) (r_move rfl) ?_
              refine T.q rfl rfl rfl (wanted_none rfl) (r_sliceL Try.underlying23 ti3 rfl (rd_sl (i := 0) rfl) rfl h43) ?_
              refine T.ef rfl rfl rfl (wanted_none rfl) (Makes.does (m_build0 (α := Int) Try.underlying23 ti3)) (by rintro v33_2 _ ⟨S33_2, hl_v33_2, rfl⟩; exact upd rfl [1] rfl rfl) ?_ ?_
              · rintro v33_2 _ ⟨S33_2, hl_v33_2, rfl⟩
                refine T.ef rfl rfl rfl (wanted_none rfl) (d_append (i := 0) Try.underlying23 Try.underlying23 ti3 rfl (by decide) rfl rfl rfl (fun w hw => rd_slc ((rd_sl (i := 1) rfl) w hw) h36) hs37) (by rintro v37_2 _ ⟨S37_2, rfl, hl_v37_2⟩; exact upd rfl [1] rfl rfl) ?_ ?_
                · rintro v37_2 _ ⟨S37_2, rfl, hl_v37_2⟩
                  refine T.ef rfl rfl rfl (wanted_none rfl) (Makes.does (m_buildF (l := ([a1] : List (Int))) Try.underlying23 ti3 rfl rfl rfl rfl rfl)) (by rintro v39_2 _ ⟨S39_2, hl_v39_2, rfl⟩; exact upd rfl [2] rfl rfl) ?_ ?_
                  · rintro v39_2 _ ⟨S39_2, hl_v39_2, rfl⟩
                    refine T.ef rfl rfl rfl (wanted_none rfl) (d_append (i := 1) Try.underlying23 Try.underlying23 ti3 rfl (by decide) rfl rfl rfl (rd_sl (i := 0) rfl) hs40) (by rintro v40_2 _ ⟨S40_2, rfl, hl_v40_2⟩; exact upd rfl [2] rfl rfl) ?_ ?_
                    · rintro v40_2 _ ⟨S40_2, rfl, hl_v40_2⟩
                      refine T.nil ?_
                      refine F.ef rfl rfl rfl (wanted_none rfl) (d_append (i := 1) Try.underlying23 Try.underlying23 ti3 rfl (by decide) rfl rfl rfl (fun w hw => rd_slc ((rd_sl (i := 2) rfl) w hw) h43) hs44) ?_
                      rintro v44_2 _ ⟨S44_2, rfl, hl_v44_2⟩
                      refine F.q rfl rfl rfl (wanted_none rfl) (r_assign rfl) ?_
                      refine F.nil ?_
                      cases hE_4
                      refine Nrm.only [4] rfl ?_
                      refine Nrm.pick [1] rfl rfl ?_
                      exact hj_3 _ _ ⟨v44_2, S44_2, hl_v44_2, rfl, rfl⟩
                    exact T.stop
                  exact T.stop
                · refine T.ef rfl rfl rfl (wanted_none rfl) (Makes.does (m_buildF (l := ([a1] : List (Int))) Try.underlying23 ti3 rfl rfl rfl rfl rfl)) (by rintro v39_3 _ ⟨S39_3, hl_v39_3, rfl⟩; exact upd rfl [2] rfl rfl) ?_ ?_
                  · rintro v39_3 _ ⟨S39_3, hl_v39_3, rfl⟩
                    refine T.ef rfl rfl rfl (wanted_none rfl) (d_append (i := 1) Try.underlying23 Try.underlying23 ti3 rfl (by decide) rfl rfl rfl (fun w hw => rd_slc ((rd_sl (i := 2) rfl) w hw) h36) hs37) (by rintro v37_3 _ ⟨S37_3, rfl, hl_v37_3⟩; exact upd rfl [2] rfl rfl) ?_ ?_
                    · rintro v37_3 _ ⟨S37_3, rfl, hl_v37_3⟩
                      refine T.ef rfl rfl rfl (wanted_none rfl) (d_append (i := 1) Try.underlying23 Try.underlying23 ti3 rfl (by decide) rfl rfl rfl (rd_sl (i := 0) rfl) hs40) (by rintro v40_3 _ ⟨S40_3, rfl, hl_v40_3⟩; exact upd rfl [2] rfl rfl) ?_ ?_
                      · rintro v40_3 _ ⟨S40_3, rfl, hl_v40_3⟩
                        refine T.nil ?_
                        refine F.ef rfl rfl rfl (wanted_none rfl) (d_append (i := 1) Try.underlying23 Try.underlying23 ti3 rfl (by decide) rfl rfl rfl (fun w hw => rd_slc ((rd_sl (i := 2) rfl) w hw) h43) hs44) ?_
                        rintro v44_3 _ ⟨S44_3, rfl, hl_v44_3⟩
                        refine F.q rfl rfl rfl (wanted_none rfl) (r_assign rfl) ?_
                        refine F.nil ?_
                        cases hE_4
                        refine Nrm.only [4] rfl ?_
                        refine Nrm.pick [1] rfl rfl ?_
                        exact hj_3 _ _ ⟨v44_3, S44_3, hl_v44_3, rfl, rfl⟩
                      exact T.stop
                    exact T.stop
                  exact T.stop
              · refine T.ef rfl rfl rfl (wanted_none rfl) (Makes.does (m_buildF (l := ([a1] : List (Int))) Try.underlying23 ti3 rfl rfl rfl rfl rfl)) (by rintro v39_4 _ ⟨S39_4, hl_v39_4, rfl⟩; exact upd rfl [1] rfl rfl) ?_ ?_
                · rintro v39_4 _ ⟨S39_4, hl_v39_4, rfl⟩
                  refine T.ef rfl rfl rfl (wanted_none rfl) (Makes.does (m_build0 (α := Int) Try.underlying23 ti3)) (by rintro v33_3 _ ⟨S33_3, hl_v33_3, rfl⟩; exact upd rfl [2] rfl rfl) ?_ ?_
                  · rintro v33_3 _ ⟨S33_3, hl_v33_3, rfl⟩
                    refine T.ef rfl rfl rfl (wanted_none rfl) (d_append (i := 0) Try.underlying23 Try.underlying23 ti3 rfl (by decide) rfl rfl rfl (fun w hw => rd_slc ((rd_sl (i := 2) rfl) w hw) h36) hs37) (by rintro v37_4 _ ⟨S37_4, rfl, hl_v37_4⟩; exact upd rfl [2] rfl rfl) ?_ ?_
                    · rintro v37_4 _ ⟨S37_4, rfl, hl_v37_4⟩
                      refine T.ef rfl rfl rfl (wanted_none rfl) (d_append (i := 0) Try.underlying23 Try.underlying23 ti3 rfl (by decide) rfl rfl rfl (rd_sl (i := 1) rfl) hs40) (by rintro v40_4 _ ⟨S40_4, rfl, hl_v40_4⟩; exact upd rfl [2] rfl rfl) ?_ ?_
                      · rintro v40_4 _ ⟨S40_4, rfl, hl_v40_4⟩
                        refine T.nil ?_
                        refine F.ef rfl rfl rfl (wanted_none rfl) (d_append (i := 0) Try.underlying23 Try.underlying23 ti3 rfl (by decide) rfl rfl rfl (fun w hw => rd_slc ((rd_sl (i := 2) rfl) w hw) h43) hs44) ?_
                        rintro v44_4 _ ⟨S44_4, rfl, hl_v44_4⟩
                        refine F.q rfl rfl rfl (wanted_none rfl) (r_assign rfl) ?_
                        refine F.nil ?_
                        cases hE_4
                        refine Nrm.only [4] rfl ?_
                        refine Nrm.pick [0] rfl rfl ?_
                        exact hj_3 _ _ ⟨v44_4, S44_4, hl_v44_4, rfl, rfl⟩
                      exact T.stop
                    exact T.stop
                  exact T.stop
                exact T.stop
        · rcases Bool.eq_false_or_eq_true (decide (x5 < (a0.length : Int))) with g24 | g24
          · replace hE_3 := if_tt g24 hE_3
            obtain ⟨t27, h27, hE_3⟩ := bind_some hE_3
            refine Tri.reg (l := [0, 1, 2, 3, 4, 5, 6, 7, 8, 9, 10, 11]) rfl ?_
            refine F.q rfl rfl rfl (wanted_none rfl) (r_move rfl) ?_
            refine F.q rfl rfl rfl (wanted_none rfl) (r_move rfl) ?_
            refine F.q rfl rfl rfl (wanted_none rfl) (r_len Try.underlying23 rfl hl_va0) ?_
            refine F.q rfl rfl rfl (wanted_none rfl) (r_lss rfl rfl) ?_
            refine F.q rfl rfl rfl (wanted_none rfl) (r_move rfl) ?_
            refine F.q rfl rfl rfl (wg rfl rfl rfl g24) (r_move rfl) ?_
            refine F.q rfl rfl rfl (wg rfl rfl rfl g24) (r_move rfl) ?_
            refine F.q rfl rfl rfl (wg rfl rfl rfl g24) (r_indexAddrS Try.underlying23 ti3 rfl hl_va0 rfl (rdl_some h27).1 (rdl_some h27).2.1) ?_
            refine F.q rfl rfl rfl (wg rfl rfl rfl g24) (r_load ta3 rfl (fun w hw => cell_0 (Rd.flat ((rd_sl (i := 0) rfl) w hw) (rdl_some h27).2.2) rfl)) ?_
            refine F.q rfl rfl rfl (wg rfl rfl rfl g24) (r_move rfl) ?_
            refine F.q rfl rfl rfl (wg rfl rfl rfl g24) (r_eql rfl rfl) ?_
            refine F.q rfl rfl rfl (wanted_none rfl) (r_pick rfl rfl g24) ?_
            refine F.nil ?_
            cases hE_3
            refine Nrm.only [0, 1, 5, 31] rfl ?_
            refine Nrm.pick [0] rfl rfl ?_
            exact hj_2 _ _ ⟨rfl, rfl⟩
          · replace hE_3 := if_ff g24 hE_3
            refine Tri.reg (l := [0, 1, 2, 3, 4, 5, 6, 7, 8, 9, 10, 11]) rfl ?_
            refine F.q rfl rfl rfl (wanted_none rfl) (r_move rfl) ?_
            refine F.q rfl rfl rfl (wanted_none rfl) (r_move rfl) ?_
            refine F.q rfl rfl rfl (wanted_none rfl) (r_len Try.underlying23 rfl hl_va0) ?_
            refine F.q rfl rfl rfl (wanted_none rfl) (r_lss rfl rfl) ?_
            refine F.q rfl rfl rfl (wanted_none rfl) (r_move rfl) ?_
            refine F.sk rfl rfl rfl (wf rfl rfl rfl g24) ?_
            refine F.sk rfl rfl rfl (wf rfl rfl rfl g24) ?_
            refine F.sk rfl rfl rfl (wf rfl rfl rfl g24) ?_
            refine F.sk rfl rfl rfl (wf rfl rfl rfl g24) ?_
            refine F.sk rfl rfl rfl (wf rfl rfl rfl g24) ?_
            refine F.sk rfl rfl rfl (wf rfl rfl rfl g24) ?_
            refine F.q rfl rfl rfl (wanted_none rfl) (r_pickf rfl rfl g24) ?_
            refine F.nil ?_
            cases hE_3
            refine Nrm.only [0, 1, 5, 31] rfl ?_
            refine Nrm.pick [0] rfl rfl ?_
            exact hj_2 _ _ ⟨rfl, rfl⟩
    · rcases Bool.eq_false_or_eq_true (decide (x5 < (a0.length : Int))) with g10 | g10
      · replace hE_2 := if_tt g10 hE_2
        obtain ⟨t13, h13, hE_2⟩ := bind_some hE_2
        refine Tri.reg (l := [0, 1, 2, 3, 4, 5, 6, 7, 8, 9, 10, 11]) rfl ?_
        refine F.q rfl rfl rfl (wanted_none rfl) (r_move rfl) ?_
        refine F.q rfl rfl rfl (wanted_none rfl) (r_move rfl) ?_
        refine F.q rfl rfl rfl (wanted_none rfl) (r_len Try.underlying23 rfl hl_va0) ?_
        refine F.q rfl rfl rfl (wanted_none rfl) (r_lss rfl rfl) ?_
        refine F.q rfl rfl rfl (wanted_none rfl) (r_move rfl) ?_
        refine F.q rfl rfl rfl (wg rfl rfl rfl g10) (r_move rfl) ?_
        refine F.q rfl rfl rfl (wg rfl rfl rfl g10) (r_move rfl) ?_
        refine F.q rfl rfl rfl (wg rfl rfl rfl g10) (r_indexAddrS Try.underlying23 ti3 rfl hl_va0 rfl (rdl_some h13).1 (rdl_some h13).2.1) ?_
        refine F.q rfl rfl rfl (wg rfl rfl rfl g10) (r_load ta3 rfl (fun w hw => cell_0 (Rd.flat ((rd_sl (i := 0) rfl) w hw) (rdl_some h13).2.2) rfl)) ?_
        refine F.q rfl rfl rfl (wg rfl rfl rfl g10) (r_move rfl) ?_
        refine F.q rfl rfl rfl (wg rfl rfl rfl g10) (r_lss rfl rfl) ?_
        refine F.q rfl rfl rfl (wanted_none rfl) (r_pick rfl rfl g10) ?_
        refine F.nil ?_
        cases hE_2
        refine Nrm.only [0, 1, 5, 17] rfl ?_
        refine Nrm.pick [0] rfl rfl ?_
        exact hj_1 _ _ ⟨rfl, rfl⟩
      · replace hE_2 := if_ff g10 hE_2
        refine Tri.reg (l := [0, 1, 2, 3, 4, 5, 6, 7, 8, 9, 10, 11]) rfl ?_
        refine F.q rfl rfl rfl (wanted_none rfl) (r_move rfl) ?_
        refine F.q rfl rfl rfl (wanted_none rfl) (r_move rfl) ?_
        refine F.q rfl rfl rfl (wanted_none rfl) (r_len Try.underlying23 rfl hl_va0) ?_
        refine F.q rfl rfl rfl (wanted_none rfl) (r_lss rfl rfl) ?_
        refine F.q rfl rfl rfl (wanted_none rfl) (r_move rfl) ?_
        refine F.sk rfl rfl rfl (wf rfl rfl rfl g10) ?_
        refine F.sk rfl rfl rfl (wf rfl rfl rfl g10) ?_
        refine F.sk rfl rfl rfl (wf rfl rfl rfl g10) ?_
        refine F.sk rfl rfl rfl (wf rfl rfl rfl g10) ?_
        refine F.sk rfl rfl rfl (wf rfl rfl rfl g10) ?_
        refine F.sk rfl rfl rfl (wf rfl rfl rfl g10) ?_
        refine F.q rfl rfl rfl (wanted_none rfl) (r_pickf rfl rfl g10) ?_
        refine F.nil ?_
        cases hE_2
        refine Nrm.only [0, 1, 5, 17] rfl ?_
        refine Nrm.pick [0] rfl rfl ?_
        exact hj_1 _ _ ⟨rfl, rfl⟩

end Go.Proofs

/- loop.example/g01158/spec.l2Reach -/
namespace Go.Proofs
open Go Go.Ga
set_option linter.unusedVariables false
set_option maxRecDepth 100000
set_option maxHeartbeats 4000000
def spec_l2Reach.l1 (k : Nat) (a0_1 : List (Int × Int × Int)) (a2 : Int) (x9 : Int) : Nat → (List (Int)) → (List (Int)) → Int → Option ((List (Int)) × (List (Int)))
  | 0, _, _, _ => none
  | n + 1, x7r, x8r, x10 => (if (decide (x10 < (a0_1.length : Int))) = true then ((rdl a0_1 x10).bind fun t33 => ((spec_l2Has.f k a2 t33.2.2).bind fun t38 => (if (!t38) = true then some true else (rdl x8r x9).bind fun t45 => (if (t33.1 != t45) = true then (rdl x8r x9).bind fun t53 => some (t33.2.1 != t53) else some false))).bind fun y57 => (if y57 = true then some (x7r, x8r) else (rdl x8r x9).bind fun t65 => (spec_l1Has.f k x7r (w64 ((w64 (t33.1 + t33.2.1)) - t65))).bind fun t70 => ((if (!t70) = true then (spec_l1Put.f k x7r (w64 ((w64 (t33.1 + t33.2.1)) - t65))).bind fun t74 => if (x8r ++ ([w64 ((w64 (t33.1 + t33.2.1)) - t65)] : List (Int))).length < 1099511627776 then some (t74, x8r ++ ([w64 ((w64 (t33.1 + t33.2.1)) - t65)] : List (Int))) else none else some (x7r, x8r))).bind fun (y7, y8) => some (y7, y8))).bind fun (y7, y8) => spec_l2Reach.l1 k a0_1 a2 x9 n y7 y8 (w64 (x10 + 1)) else some (x7r, x8r))

def spec_l2Reach.l0 (k : Nat) (a0_1 : List (Int × Int × Int)) (a2 : Int) : Nat → (List (Int)) → (List (Int)) → Int → Option ((List (Int)))
  | 0, _, _, _ => none
  | n + 1, x7, x8, x9 => (if (decide (x9 < (x8.length : Int))) = true then (spec_l2Reach.l1 k a0_1 a2 x9 k x7 x8 0).bind fun (x7r, x8r) => spec_l2Reach.l0 k a0_1 a2 n x7r x8r (w64 (x9 + 1)) else some x7)

def spec_l2Reach.f (k : Nat) (a0_0 : Int) (a0_1 : List (Int × Int × Int)) (a0_2 : List Int) (a1 : Int) (a2 : Int) : Option ((List Int)) := (spec_l2Reach.l0 k a0_1 a2 k ([a1] : List (Int)) ([a1] : List (Int)) 0).bind fun x7 => some x7

theorem spec_l2Reach.ok {k : Nat}  {a0_0 : Int} {a0_1 : List (Int × Int × Int)} {a0_2 : List Int} {a1 : Int} {a2 : Int} {r0 : List Int} (h : spec_l2Reach.f k a0_0 a0_1 a0_2 a1 a2 = some r0) (w : World) {va0_1 : Value} {va0_2 : Value} (hr_a0_1 : Rd w va0_1 a0_1) (hr_a0_2 : Rd w va0_2 a0_2) :
    Calls Try.prog 141 ([.agg ([.int .i64 a0_0, va0_1, va0_2].toArray), .int .i64 a1, .int .i64 a2] : List Value).toArray w (Post (fun u ns => ∃ (Sr0 : Nat → Prop), SlLen u r0.length ∧ ns = [R.sl Sr0 u r0]) w) := by
  unfold spec_l2Reach.f at h
  have hl_va0_1 := hr_a0_1.len
  have hl_va0_2 := hr_a0_2.len
  refine Calls.of_tri (N := 80) Try.func141 rfl rfl rfl (Sep.nil (M := noM)) ?_
  refine Tri.seq ?_
  refine Tri.reg (l := [0, 1]) rfl ?_
  refine F.m rfl rfl rfl (wanted_none rfl) (m_boxG rfl rfl) ?_
  rintro _ _ ⟨b3_1, rfl, rfl⟩
  refine F.q rfl rfl rfl (wanted_none rfl) (r_assign rfl) ?_
  refine F.nil ?_
  refine Nrm.seq ?_
  refine Tri.seq ?_
  refine Tri.reg (l := [0, 1, 2, 3, 4, 5]) rfl ?_
  refine F.q rfl rfl rfl (wanted_none rfl) (r_move rfl) ?_
  refine F.m rfl rfl rfl (wanted_none rfl) (m_buildF (l := ([a1] : List (Int))) Try.underlying23 ti3 rfl rfl rfl rfl rfl) ?_
  rintro v14_1 _ ⟨S14_1, hl_v14_1, rfl⟩
  refine F.q rfl rfl rfl (wanted_none rfl) (r_move rfl) ?_
  refine F.m rfl rfl rfl (wanted_none rfl) (m_buildF (l := ([a1] : List (Int))) Try.underlying23 ti3 rfl rfl rfl rfl rfl) ?_
  rintro v16_1 _ ⟨S16_1, hl_v16_1, rfl⟩
  refine F.q rfl rfl rfl (wanted_none rfl) (r_assign rfl) ?_
  refine F.q rfl rfl rfl (wanted_none rfl) (r_assign rfl) ?_
  refine F.nil ?_
  refine Nrm.seq ?_
  refine Tri.seq ?_
  refine Tri.seq ?_
  refine Tri.reg (l := [0]) rfl ?_
  refine F.q rfl rfl rfl (wanted_none rfl) (r_assign rfl) ?_
  refine F.nil ?_
  refine Nrm.seq ?_
  obtain ⟨x7, hE_1, h⟩ := bind_some h
  refine Tri.block ?_
  refine Tri.only [2, 3, 7, 8, 9] rfl ?_
  refine Tri.pick [2, 0, 1] rfl rfl ?_
  refine Tri.rounds (fun n e' C' => ∃ (x7' : List (Int)) (x8' : List (Int)) (x9' : Int) (w7 : Value) (T7 : Nat → Prop) (w8 : Value) (T8 : Nat → Prop), spec_l2Reach.l0 k a0_1 a2 n x7' x8' x9' = some x7 ∧ SlLen w7 (x7').length ∧ SlLen w8 (x8').length ∧ e' = [(2, .int .i64 a2), (3, .pointer (some ⟨b3_1, 0, none⟩)), (7, w7), (8, w8), (9, .int .i64 x9')] ∧ C' = Sep w noM [R.box b3_1 31 [.int .i64 a0_0, va0_1, va0_2], R.sl T8 w8 (x8' : List (Int)), R.sl T7 w7 (x7' : List (Int))]) k ?_ ?_ ?_
  · exact ⟨([a1] : List (Int)), ([a1] : List (Int)), 0, v14_1, S14_1, v16_1, S16_1, hE_1, hl_v14_1, hl_v16_1, rfl, rfl⟩
  · rintro _ _ ⟨_, _, _, _, _, _, _, hE_1, _⟩
    rw [spec_l2Reach.l0.eq_1] at hE_1; cases hE_1
  · rintro n_1 _ _ ⟨x7, x8, x9, w7, T7, w8, T8, hE_1, hl_w7, hl_w8, rfl, rfl⟩ ih_1
    rw [spec_l2Reach.l0.eq_2] at hE_1
    refine Tri.seq ?_
    refine Tri.seq ?_
    refine Tri.reg (l := [0, 1, 2, 3]) rfl ?_
    refine F.q rfl rfl rfl (wanted_none rfl) (r_move rfl) ?_
    refine F.q rfl rfl rfl (wanted_none rfl) (r_move rfl) ?_
    refine F.q rfl rfl rfl (wanted_none rfl) (r_len Try.underlying23 rfl hl_w8) ?_
    refine F.q rfl rfl rfl (wanted_none rfl) (r_lss rfl rfl) ?_
    refine F.nil ?_
    refine Nrm.seq ?_
    refine Tri.cond (b := decide (x9 < (x8.length : Int))) rfl (fun g_1 => ?_) (fun g_1 => ?_)
    · replace hE_1 := if_tt g_1 hE_1
      refine Tri.skip ?_
      refine Nrm.seq ?_
      refine Tri.seq ?_
      refine Tri.block ?_
      refine Tri.seq ?_
      refine Tri.reg (l := [0]) rfl ?_
      refine F.q rfl rfl rfl (wanted_none rfl) (r_assign rfl) ?_
      refine F.nil ?_
      refine Nrm.seq ?_
      obtain ⟨⟨x7r, x8r⟩, hE_2, hE_1⟩ := bind_some hE_1
      refine Tri.block ?_
      refine Tri.only [2, 3, 7, 8, 9, 10] rfl ?_
      refine Tri.pick [0, 1, 2] rfl rfl ?_
      refine Tri.rounds (fun n e' C' => ∃ (x7r' : List (Int)) (x8r' : List (Int)) (x10' : Int) (w7r : Value) (T7r : Nat → Prop) (w8r : Value) (T8r : Nat → Prop), spec_l2Reach.l1 k a0_1 a2 x9 n x7r' x8r' x10' = some (x7r, x8r) ∧ SlLen w7r (x7r').length ∧ SlLen w8r (x8r').length ∧ e' = [(2, .int .i64 a2), (3, .pointer (some ⟨b3_1, 0, none⟩)), (7, w7r), (8, w8r), (9, .int .i64 x9), (10, .int .i64 x10')] ∧ C' = Sep w noM [R.box b3_1 31 [.int .i64 a0_0, va0_1, va0_2], R.sl T8r w8r (x8r' : List (Int)), R.sl T7r w7r (x7r' : List (Int))]) k ?_ ?_ ?_
      · exact ⟨x7, x8, 0, w7, T7, w8, T8, hE_2, hl_w7, hl_w8, rfl, rfl⟩
      · rintro _ _ ⟨_, _, _, _, _, _, _, hE_2, _⟩
        rw [spec_l2Reach.l1.eq_1] at hE_2; cases hE_2
      · rintro n_2 _ _ ⟨x7r, x8r, x10, w7r, T7r, w8r, T8r, hE_2, hl_w7r, hl_w8r, rfl, rfl⟩ ih_2
        rw [spec_l2Reach.l1.eq_2] at hE_2
        refine Tri.seq ?_
        refine Tri.seq ?_
        refine Tri.reg (l := [0, 1, 2, 3, 4]) rfl ?_
        refine F.q rfl rfl rfl (wanted_none rfl) (r_move rfl) ?_
        refine F.q rfl rfl rfl (wanted_none rfl) (r_fieldAddr tf31_1 rfl) ?_
        refine F.q rfl rfl rfl (wanted_none rfl) (r_load ta22 rfl (fun w hw => cell_1 (box_cells (i := 0) rfl w hw) rfl)) ?_
        refine F.q rfl rfl rfl (wanted_none rfl) (r_len Try.underlying22 rfl hl_va0_1) ?_
        refine F.q rfl rfl rfl (wanted_none rfl) (r_lss rfl rfl) ?_
        refine F.nil ?_
        refine Nrm.seq ?_
        refine Tri.cond (b := decide (x10 < (a0_1.length : Int))) rfl (fun g_2 => ?_) (fun g_2 => ?_)
        · replace hE_2 := if_tt g_2 hE_2
          refine Tri.skip ?_
          refine Nrm.seq ?_
          refine Tri.seq ?_
          obtain ⟨⟨y7, y8⟩, hE_3, hE_2⟩ := bind_some hE_2
          refine Tri.cut (fun e' C' => ∃ (v7_1 : Value) (S7_1 : Nat → Prop) (v8_1 : Value) (S8_1 : Nat → Prop), SlLen v7_1 (y7).length ∧ SlLen v8_1 (y8).length ∧ e' = [(2, .int .i64 a2), (3, .pointer (some ⟨b3_1, 0, none⟩)), (7, v7_1), (8, v8_1), (9, .int .i64 x9), (10, .int .i64 x10)] ∧ C' = Sep w noM [R.box b3_1 31 [.int .i64 a0_0, va0_1, va0_2], R.sl S7_1 v7_1 (y7 : List (Int)), R.sl S8_1 v8_1 (y8 : List (Int))]) ?_ (fun hj_1 => ?_)
          · rintro _ _ ⟨v7_1, S7_1, v8_1, S8_1, hl_v7_1, hl_v8_1, rfl, rfl⟩
            refine Nrm.seq ?_
            refine Tri.reg (l := [0, 1, 2]) rfl ?_
            refine F.q rfl rfl rfl (wanted_none rfl) (r_move rfl) ?_
            refine F.q rfl rfl rfl (wanted_none rfl) (r_add rfl rfl) ?_
            refine F.q rfl rfl rfl (wanted_none rfl) (r_assign rfl) ?_
            refine F.nil ?_
            refine Nrm.round ?_
            refine Rnd.only [2, 3, 7, 8, 9, 10] rfl ?_
            refine Rnd.pick [0, 2, 1] rfl rfl ?_
            exact ih_2 _ _ ⟨y7, y8, w64 (x10 + 1), v7_1, S7_1, v8_1, S8_1, hE_2, hl_v7_1, hl_v8_1, rfl, rfl⟩
          · refine Tri.block ?_
            refine Tri.seq ?_
            obtain ⟨t33, h33, hE_3⟩ := bind_some hE_3
            refine Tri.reg (l := [0, 1, 2, 3, 4, 5, 6]) rfl ?_
            refine F.q rfl rfl rfl (wanted_none rfl) (r_fieldAddr tf31_1 rfl) ?_
            refine F.q rfl rfl rfl (wanted_none rfl) (r_load ta22 rfl (fun w hw => cell_1 (box_cells (i := 0) rfl w hw) rfl)) ?_
            refine F.q rfl rfl rfl (wanted_none rfl) (r_move rfl) ?_
            refine F.q rfl rfl rfl (wanted_none rfl) (r_indexAddrS Try.underlying22 ti116 rfl hl_va0_1 rfl (rdl_some h33).1 (rdl_some h33).2.1) ?_
            refine F.q rfl rfl rfl (wanted_none rfl) (r_loadA ta116 ti116 rfl rfl (fun w hw => (Rd.flat ((fun _ hw => hr_a0_1.sep hw) w hw) (rdl_some h33).2.2))) ?_
            refine F.m rfl rfl rfl (wanted_none rfl) (m_alloc ti116) ?_
            rintro _ _ ⟨b11_1, rfl, rfl⟩
            refine F.ef0 rfl rfl (wanted_none rfl) (d_storeG0 (i := 0) (cs2 := [.int .i64 t33.1, .int .i64 t33.2.1, .int .i64 t33.2.2]) ti116 rfl rfl rfl rfl rfl (Nat.le_of_ble_eq_true rfl) (lf_cons rfl (lf_cons rfl (lf_cons rfl lf_nil)))) ?_
            rintro _ _ ⟨rfl, rfl⟩
            refine F.nil ?_
            refine Nrm.seq ?_
            refine Tri.seq ?_
            refine Tri.seq ?_
            obtain ⟨y57, hE_4, hE_3⟩ := bind_some hE_3
            refine Tri.cut (fun e' C' => e' = [(2, .int .i64 a2), (3, .pointer (some ⟨b3_1, 0, none⟩)), (7, w7r), (8, w8r), (9, .int .i64 x9), (10, .int .i64 x10), (11, .pointer (some ⟨b11_1, 0, none⟩)), (57, .bool y57)] ∧ C' = Sep w noM [R.box b11_1 116 [.int .i64 t33.1, .int .i64 t33.2.1, .int .i64 t33.2.2], R.box b3_1 31 [.int .i64 a0_0, va0_1, va0_2], R.sl T7r w7r (x7r : List (Int)), R.sl T8r w8r (x8r : List (Int))]) ?_ (fun hj_2 => ?_)
            · rintro _ _ ⟨rfl, rfl⟩
              refine Nrm.seq ?_
              refine Tri.cond (b := y57) rfl (fun g_3 => ?_) (fun g_3 => ?_)
              · replace hE_3 := if_tt g_3 hE_3
                refine Tri.exit ?_
                refine Exi.then ?_
                refine Exi.same ?_
                cases hE_3
                refine Nrm.only [2, 3, 7, 8, 9, 10] rfl ?_
                refine Nrm.pick [1, 2, 3] rfl rfl ?_
                exact hj_1 _ _ ⟨w7r, T7r, w8r, T8r, hl_w7r, hl_w8r, rfl, rfl⟩
              · replace hE_3 := if_ff g_3 hE_3
                refine Tri.skip ?_
                refine Nrm.seq ?_
                refine Tri.seq ?_
                obtain ⟨t65, h65, hE_3⟩ := bind_some hE_3
                refine Tri.drawA mixedT Sep.up [(0, true), (1, true), (2, true), (3, true), (4, true), (5, true), (6, true), (7, true), (8, true), (9, true), (10, true)] [] (by kernel_rfl) ?_
                refine S.q rfl rfl rfl (wanted_none rfl) (r_indexAddrA Try.underlying116 ti3 rfl rfl (by decide) (by decide)) ?_
                refine S.q rfl rfl rfl (wanted_none rfl) (r_load ta3 rfl (fun w hw => cell_1 (box_cells (i := 0) rfl w hw) rfl)) ?_
                refine S.q rfl rfl rfl (wanted_none rfl) (r_indexAddrA Try.underlying116 ti3 rfl rfl (by decide) (by decide)) ?_
                refine S.q rfl rfl rfl (wanted_none rfl) (r_load ta3 rfl (fun w hw => cell_1 (box_cells (i := 0) rfl w hw) rfl)) ?_
                refine S.q rfl rfl rfl (wanted_none rfl) (r_add rfl rfl) ?_
                refine S.q rfl rfl rfl (wanted_none rfl) (r_move rfl) ?_
                refine S.q rfl rfl rfl (wanted_none rfl) (r_move rfl) ?_
                refine S.q rfl rfl rfl (wanted_none rfl) (r_indexAddrS Try.underlying23 ti3 rfl hl_w8r rfl (rdl_some h65).1 (rdl_some h65).2.1) ?_
                refine S.q rfl rfl rfl (wanted_none rfl) (r_load ta3 rfl (fun w hw => cell_0 (Rd.flat ((rd_sl (i := 3) rfl) w hw) (rdl_some h65).2.2) rfl)) ?_
                refine S.q rfl rfl rfl (wanted_none rfl) (r_sub rfl rfl) ?_
                refine S.q rfl rfl rfl (wanted_none rfl) (r_assign rfl) ?_
                refine S.nil ?_
                refine F.nil ?_
                refine Nrm.seq ?_
                refine Tri.seq ?_
                obtain ⟨t70, h70, hE_3⟩ := bind_some hE_3
                refine Tri.reg (l := [0, 1, 2, 3]) rfl ?_
                refine F.q rfl rfl rfl (wanted_none rfl) (r_move rfl) ?_
                refine F.q rfl rfl rfl (wanted_none rfl) (r_move rfl) ?_
                refine F.qc rfl rfl rfl (wanted_none rfl) (q_callF (xs := _) rfl ok76 rfl rfl (fun w hw => spec_l1Has.ok h70 w ((rd_sl (i := 2) rfl) w hw))) ?_
                refine F.q rfl rfl rfl (wanted_none rfl) (r_not rfl) ?_
                refine F.nil ?_
                refine Nrm.seq ?_
                obtain ⟨⟨y7, y8⟩, hE_5, hE_3⟩ := bind_some hE_3
                refine Tri.cut (fun e' C' => ∃ (v7_2 : Value) (S7_2 : Nat → Prop) (v8_2 : Value) (S8_2 : Nat → Prop), SlLen v7_2 (y7).length ∧ SlLen v8_2 (y8).length ∧ e' = [(2, .int .i64 a2), (3, .pointer (some ⟨b3_1, 0, none⟩)), (7, v7_2), (8, v8_2), (9, .int .i64 x9), (10, .int .i64 x10)] ∧ C' = Sep w noM [R.box b3_1 31 [.int .i64 a0_0, va0_1, va0_2], R.sl S7_2 v7_2 (y7 : List (Int)), R.sl S8_2 v8_2 (y8 : List (Int))]) ?_ (fun hj_3 => ?_)
                · rintro _ _ ⟨v7_2, S7_2, v8_2, S8_2, hl_v7_2, hl_v8_2, rfl, rfl⟩
                  refine Nrm.block ?_
                  cases hE_3
                  refine Nrm.only [2, 3, 7, 8, 9, 10] rfl ?_
                  refine Nrm.pick [0, 1, 2] rfl rfl ?_
                  exact hj_1 _ _ ⟨v7_2, S7_2, v8_2, S8_2, hl_v7_2, hl_v8_2, rfl, rfl⟩
                · refine Tri.cond (b := !t70) rfl (fun g_4 => ?_) (fun g_4 => ?_)
                  · replace hE_5 := if_tt g_4 hE_5
                    refine Tri.seq ?_
                    obtain ⟨t74, h74, hE_5⟩ := bind_some hE_5
                    refine Tri.reg (l := [0, 1, 2, 3]) rfl ?_
                    refine F.q rfl rfl rfl (wanted_none rfl) (r_move rfl) ?_
                    refine F.q rfl rfl rfl (wanted_none rfl) (r_move rfl) ?_
                    refine F.ef rfl rfl rfl (wanted_none rfl) (d_callM (xs := _) (cs := [R.sl T7r w7r (x7r : List (Int))]) (rest := [R.box b11_1 116 [.int .i64 t33.1, .int .i64 t33.2.1, .int .i64 t33.2.2], R.box b3_1 31 [.int .i64 a0_0, va0_1, va0_2], R.sl T8r w8r (x8r : List (Int))]) [2] [0, 1, 3] rfl ok165 rfl rfl rfl rfl (fun w hw => spec_l1Put.ok h74 w hl_w7r (Sep.sub hw))) ?_
                    rintro v74_1 _ ⟨_, ⟨S74_1, hl_v74_1, rfl⟩, rfl⟩
                    refine F.q rfl rfl rfl (wanted_none rfl) (r_assign rfl) ?_
                    refine F.nil ?_
                    refine Nrm.seq ?_
                    obtain ⟨hs78, hE_5⟩ := ck hE_5
                    refine Tri.reg (l := [0, 1, 2, 3, 4]) rfl ?_
                    refine F.q rfl rfl rfl (wanted_none rfl) (r_move rfl) ?_
                    refine F.q rfl rfl rfl (wanted_none rfl) (r_move rfl) ?_
                    refine F.m rfl rfl rfl (wanted_none rfl) (m_buildF (l := ([w64 ((w64 (t33.1 + t33.2.1)) - t65)] : List (Int))) Try.underlying23 ti3 rfl rfl rfl rfl rfl) ?_
                    rintro v77_1 _ ⟨S77_1, hl_v77_1, rfl⟩
                    refine F.ef rfl rfl rfl (wanted_none rfl) (d_append (i := 4) Try.underlying23 Try.underlying23 ti3 rfl (by decide) rfl rfl rfl (rd_sl (i := 0) rfl) hs78) ?_
                    rintro v78_1 _ ⟨S78_1, rfl, hl_v78_1⟩
                    refine F.q rfl rfl rfl (wanted_none rfl) (r_assign rfl) ?_
                    refine F.nil ?_
                    cases hE_5
                    refine Nrm.only [2, 3, 7, 8, 9, 10] rfl ?_
                    refine Nrm.pick [3, 1, 4] rfl rfl ?_
                    exact hj_3 _ _ ⟨v74_1, S74_1, v78_1, S78_1, hl_v74_1, hl_v78_1, rfl, rfl⟩
                  · replace hE_5 := if_ff g_4 hE_5
                    refine Tri.skip ?_
                    cases hE_5
                    refine Nrm.only [2, 3, 7, 8, 9, 10] rfl ?_
                    refine Nrm.pick [1, 2, 3] rfl rfl ?_
                    exact hj_3 _ _ ⟨w7r, T7r, w8r, T8r, hl_w7r, hl_w8r, rfl, rfl⟩
            · obtain ⟨t38, h38, hE_4⟩ := bind_some hE_4
              rcases Bool.eq_false_or_eq_true (!t38) with g40 | g40
              · replace hE_4 := if_tt g40 hE_4
                refine Tri.drawA mixedT Sep.up [(0, true), (1, true), (2, true), (3, true), (4, true), (5, true), (6, true), (7, true), (8, true), (9, true), (10, true), (11, true), (12, true), (13, true), (14, true), (15, true), (16, true), (17, true), (18, true), (19, true), (20, true), (21, true), (22, true)] [] (by kernel_rfl) ?_
                refine S.q rfl rfl rfl (wanted_none rfl) (r_move rfl) ?_
                refine S.q rfl rfl rfl (wanted_none rfl) (r_indexAddrA Try.underlying116 ti3 rfl rfl (by decide) (by decide)) ?_
                refine S.q rfl rfl rfl (wanted_none rfl) (r_load ta3 rfl (fun w hw => cell_1 (box_cells (i := 0) rfl w hw) rfl)) ?_
                refine S.qc rfl rfl rfl (wanted_none rfl) (q_callF (xs := _) rfl ok159 rfl rfl (fun w hw => spec_l2Has.ok h38 w )) ?_
                refine S.q rfl rfl rfl (wanted_none rfl) (r_not rfl) ?_
                refine S.q rfl rfl rfl (wanted_none rfl) (r_move rfl) ?_
                refine S.sk rfl rfl rfl (wf rfl rfl rfl g40) ?_
                refine S.sk rfl rfl rfl (wf rfl rfl rfl g40) ?_
                refine S.sk rfl rfl rfl (wf rfl rfl rfl g40) ?_
                refine S.sk rfl rfl rfl (wf rfl rfl rfl g40) ?_
                refine S.sk rfl rfl rfl (wf rfl rfl rfl g40) ?_
                refine S.sk rfl rfl rfl (wf rfl rfl rfl g40) ?_
                refine S.sk rfl rfl rfl (wf rfl rfl rfl g40) ?_
                refine S.sk rfl rfl rfl (wf rfl rfl rfl g40) ?_
                refine S.sk rfl rfl rfl (wanted_undef rfl rfl rfl) ?_
                refine S.sk rfl rfl rfl (wanted_undef rfl rfl rfl) ?_
                refine S.sk rfl rfl rfl (wanted_undef rfl rfl rfl) ?_
                refine S.sk rfl rfl rfl (wanted_undef rfl rfl rfl) ?_
                refine S.sk rfl rfl rfl (wanted_undef rfl rfl rfl) ?_
                refine S.sk rfl rfl rfl (wanted_undef rfl rfl rfl) ?_
                refine S.sk rfl rfl rfl (wanted_undef rfl rfl rfl) ?_
                refine S.sk rfl rfl rfl (wf rfl rfl rfl g40) ?_
                refine S.q rfl rfl rfl (wanted_none rfl) (r_pick rfl rfl g40) ?_
                refine S.nil ?_
                refine F.nil ?_
                cases hE_4
                refine Nrm.only [2, 3, 7, 8, 9, 10, 11, 57] rfl ?_
                refine Nrm.pick [0, 1, 3, 2] rfl rfl ?_
                exact hj_2 _ _ ⟨rfl, rfl⟩
              · replace hE_4 := if_ff g40 hE_4
                obtain ⟨t45, h45, hE_4⟩ := bind_some hE_4
                rcases Bool.eq_false_or_eq_true (t33.1 != t45) with g48 | g48
                · replace hE_4 := if_tt g48 hE_4
                  obtain ⟨t53, h53, hE_4⟩ := bind_some hE_4
                  refine Tri.drawA mixedT Sep.up [(0, true), (1, true), (2, true), (3, true), (4, true), (5, true), (6, true), (7, true), (8, true), (9, true), (10, true), (11, true), (12, true), (13, true), (14, true), (15, true), (16, true), (17, true), (18, true), (19, true), (20, true), (21, true), (22, true)] [] (by kernel_rfl) ?_
                  refine S.q rfl rfl rfl (wanted_none rfl) (r_move rfl) ?_
                  refine S.q rfl rfl rfl (wanted_none rfl) (r_indexAddrA Try.underlying116 ti3 rfl rfl (by decide) (by decide)) ?_
                  refine S.q rfl rfl rfl (wanted_none rfl) (r_load ta3 rfl (fun w hw => cell_1 (box_cells (i := 0) rfl w hw) rfl)) ?_
                  refine S.qc rfl rfl rfl (wanted_none rfl) (q_callF (xs := _) rfl ok159 rfl rfl (fun w hw => spec_l2Has.ok h38 w )) ?_
                  refine S.q rfl rfl rfl (wanted_none rfl) (r_not rfl) ?_
                  refine S.q rfl rfl rfl (wanted_none rfl) (r_move rfl) ?_
                  refine S.q rfl rfl rfl (wg rfl rfl rfl g40) (r_indexAddrA Try.underlying116 ti3 rfl rfl (by decide) (by decide)) ?_
                  refine S.q rfl rfl rfl (wg rfl rfl rfl g40) (r_load ta3 rfl (fun w hw => cell_1 (box_cells (i := 0) rfl w hw) rfl)) ?_
                  refine S.q rfl rfl rfl (wg rfl rfl rfl g40) (r_move rfl) ?_
                  refine S.q rfl rfl rfl (wg rfl rfl rfl g40) (r_move rfl) ?_
                  refine S.q rfl rfl rfl (wg rfl rfl rfl g40) (r_indexAddrS Try.underlying23 ti3 rfl hl_w8r rfl (rdl_some h45).1 (rdl_some h45).2.1) ?_
                  refine S.q rfl rfl rfl (wg rfl rfl rfl g40) (r_load ta3 rfl (fun w hw => cell_0 (Rd.flat ((rd_sl (i := 2) rfl) w hw) (rdl_some h45).2.2) rfl)) ?_
                  refine S.q rfl rfl rfl (wg rfl rfl rfl g40) (r_neq rfl rfl) ?_
                  refine S.q rfl rfl rfl (wg rfl rfl rfl g40) (r_move rfl) ?_
                  refine S.q rfl rfl rfl (wg rfl rfl rfl g48) (r_indexAddrA Try.underlying116 ti3 rfl rfl (by decide) (by decide)) ?_
                  refine S.q rfl rfl rfl (wg rfl rfl rfl g48) (r_load ta3 rfl (fun w hw => cell_1 (box_cells (i := 0) rfl w hw) rfl)) ?_
                  refine S.q rfl rfl rfl (wg rfl rfl rfl g48) (r_move rfl) ?_
                  refine S.q rfl rfl rfl (wg rfl rfl rfl g48) (r_move rfl) ?_
                  refine S.q rfl rfl rfl (wg rfl rfl rfl g48) (r_indexAddrS Try.underlying23 ti3 rfl hl_w8r rfl (rdl_some h53).1 (rdl_some h53).2.1) ?_
                  refine S.q rfl rfl rfl (wg rfl rfl rfl g48) (r_load ta3 rfl (fun w hw => cell_0 (Rd.flat ((rd_sl (i := 2) rfl) w hw) (rdl_some h53).2.2) rfl)) ?_
                  refine S.q rfl rfl rfl (wg rfl rfl rfl g48) (r_neq rfl rfl) ?_
                  refine S.q rfl rfl rfl (wg rfl rfl rfl g40) (r_pick rfl rfl g48) ?_
                  refine S.q rfl rfl rfl (wanted_none rfl) (r_pickf rfl rfl g40) ?_
                  refine S.nil ?_
                  refine F.nil ?_
                  cases hE_4
                  refine Nrm.only [2, 3, 7, 8, 9, 10, 11, 57] rfl ?_
                  refine Nrm.pick [0, 1, 3, 2] rfl rfl ?_
                  exact hj_2 _ _ ⟨rfl, rfl⟩
                · replace hE_4 := if_ff g48 hE_4
                  refine Tri.drawA mixedT Sep.up [(0, true), (1, true), (2, true), (3, true), (4, true), (5, true), (6, true), (7, true), (8, true), (9, true), (10, true), (11, true), (12, true), (13, true), (14, true), (15, true), (16, true), (17, true), (18, true), (19, true), (20, true), (21, true), (22, true)] [] (by kernel_rfl) ?_
                  refine S.q rfl rfl rfl (wanted_none rfl) (r_move rfl) ?_
                  refine S.q rfl rfl rfl (wanted_none rfl) (r_indexAddrA Try.underlying116 ti3 rfl rfl (by decide) (by decide)) ?_
                  refine S.q rfl rfl rfl (wanted_none rfl) (r_load ta3 rfl (fun w hw => cell_1 (box_cells (i := 0) rfl w hw) rfl)) ?_
                  refine S.qc rfl rfl rfl (wanted_none rfl) (q_callF (xs := _) rfl ok159 rfl rfl (fun w hw => spec_l2Has.ok h38 w )) ?_
                  refine S.q rfl rfl rfl (wanted_none rfl) (r_not rfl) ?_
                  refine S.q rfl rfl rfl (wanted_none rfl) (r_move rfl) ?_
                  refine S.q rfl rfl rfl (wg rfl rfl rfl g40) (r_indexAddrA Try.underlying116 ti3 rfl rfl (by decide) (by decide)) ?_
                  refine S.q rfl rfl rfl (wg rfl rfl rfl g40) (r_load ta3 rfl (fun w hw => cell_1 (box_cells (i := 0) rfl w hw) rfl)) ?_
                  refine S.q rfl rfl rfl (wg rfl rfl rfl g40) (r_move rfl) ?_
                  refine S.q rfl rfl rfl (wg rfl rfl rfl g40) (r_move rfl) ?_
                  refine S.q rfl rfl rfl (wg rfl rfl rfl g40) (r_indexAddrS Try.underlying23 ti3 rfl hl_w8r rfl (rdl_some h45).1 (rdl_some h45).2.1) ?_
                  refine S.q rfl rfl rfl (wg rfl rfl rfl g40) (r_load ta3 rfl (fun w hw => cell_0 (Rd.flat ((rd_sl (i := 2) rfl) w hw) (rdl_some h45).2.2) rfl)) ?_
                  refine S.q rfl rfl rfl (wg rfl rfl rfl g40) (r_neq rfl rfl) ?_
                  refine S.q rfl rfl rfl (wg rfl rfl rfl g40) (r_move rfl) ?_
                  refine S.sk rfl rfl rfl (wf rfl rfl rfl g48) ?_
                  refine S.sk rfl rfl rfl (wf rfl rfl rfl g48) ?_
                  refine S.sk rfl rfl rfl (wf rfl rfl rfl g48) ?_
                  refine S.sk rfl rfl rfl (wf rfl rfl rfl g48) ?_
                  refine S.sk rfl rfl rfl (wf rfl rfl rfl g48) ?_
                  refine S.sk rfl rfl rfl (wf rfl rfl rfl g48) ?_
                  refine S.sk rfl rfl rfl (wf rfl rfl rfl g48) ?_
                  refine S.q rfl rfl rfl (wg rfl rfl rfl g40) (r_pickf rfl rfl g48) ?_
                  refine S.q rfl rfl rfl (wanted_none rfl) (r_pickf rfl rfl g40) ?_
                  refine S.nil ?_
                  refine F.nil ?_
                  cases hE_4
                  refine Nrm.only [2, 3, 7, 8, 9, 10, 11, 57] rfl ?_
                  refine Nrm.pick [0, 1, 3, 2] rfl rfl ?_
                  exact hj_2 _ _ ⟨rfl, rfl⟩
        · replace hE_2 := if_ff g_2 hE_2
          refine Tri.exit ?_
          refine Exi.then ?_
          refine Exi.then ?_
          refine Exi.same ?_
          cases hE_2
          refine Nrm.block ?_
          refine Nrm.seq ?_
          refine Tri.reg (l := [0, 1, 2]) rfl ?_
          refine F.q rfl rfl rfl (wanted_none rfl) (r_move rfl) ?_
          refine F.q rfl rfl rfl (wanted_none rfl) (r_add rfl rfl) ?_
          refine F.q rfl rfl rfl (wanted_none rfl) (r_assign rfl) ?_
          refine F.nil ?_
          refine Nrm.round ?_
          refine Rnd.only [2, 3, 7, 8, 9] rfl ?_
          refine Rnd.pick [0, 1, 2] rfl rfl ?_
          exact ih_1 _ _ ⟨x7r, x8r, w64 (x9 + 1), w7r, T7r, w8r, T8r, hE_1, hl_w7r, hl_w8r, rfl, rfl⟩
    · replace hE_1 := if_ff g_1 hE_1
      refine Tri.exit ?_
      refine Exi.then ?_
      refine Exi.then ?_
      refine Exi.same ?_
      cases hE_1
      refine Nrm.seq ?_
      refine Tri.seq ?_
      refine Tri.reg (l := [0, 1]) rfl ?_
      refine F.q rfl rfl rfl (wanted_none rfl) (r_move rfl) ?_
      refine F.q rfl rfl rfl (wanted_none rfl) (r_assign rfl) ?_
      refine F.nil ?_
      refine Nrm.seq ?_
      refine Tri.ret ?_
      cases h
      exact Rtn.body (.tmp rfl .nil) (fun w hw => ⟨_, _, rfl, ⟨T7, hl_w7, rfl⟩, Sep.pick (is := [2]) rfl rfl hw⟩)

end Go.Proofs

/- loop.example/g01158/spec.l3Rounds -/
namespace Go.Proofs
open Go Go.Ga
set_option linter.unusedVariables false
set_option maxRecDepth 100000
set_option maxHeartbeats 4000000
def spec_l3Rounds.l1 (k : Nat) (a0_2 : List Int) (t20 : List Int) : Nat → Int → Int → Option (Int)
  | 0, _, _ => none
  | n + 1, x8, x9 => (if (decide (x9 < (t20.length : Int))) = true then (rdl t20 x9).bind fun t33 => (rdl a0_2 t33).bind fun t35 => spec_l3Rounds.l1 k a0_2 t20 n (bor x8 t35) (w64 (x9 + 1)) else some x8)

def spec_l3Rounds.l0 (k : Nat) (a0_0 : Int) (a0_1 : List (Int × Int × Int)) (a0_2 : List Int) : Nat → (List (Int)) → Option ((Unit) ⊕ ((List Int)))
  | 0, _ => none
  | n + 1, x5 => (rdl x5 (w64 ((x5.length : Int) - 1))).bind fun t16 => (spec_l2Reach.f k a0_0 a0_1 a0_2 0 t16).bind fun t20 => (spec_l3Rounds.l1 k a0_2 t20 k t16 0).bind fun x8 => (if (x8 == t16) = true then some (Sum.inr x5) else if (x5 ++ ([x8] : List (Int))).length < 1099511627776 then spec_l3Rounds.l0 k a0_0 a0_1 a0_2 n (x5 ++ ([x8] : List (Int))) else none)

def spec_l3Rounds.f (k : Nat) (a0_0 : Int) (a0_1 : List (Int × Int × Int)) (a0_2 : List Int) (a1 : Int) : Option ((List Int)) := (spec_l3Rounds.l0 k a0_0 a0_1 a0_2 k ([a1] : List (Int))).bind fun s => Lr s some fun _ => none

theorem spec_l3Rounds.ok {k : Nat}  {a0_0 : Int} {a0_1 : List (Int × Int × Int)} {a0_2 : List Int} {a1 : Int} {r0 : List Int} (h : spec_l3Rounds.f k a0_0 a0_1 a0_2 a1 = some r0) (w : World) {va0_1 : Value} {va0_2 : Value} (hr_a0_1 : Rd w va0_1 a0_1) (hr_a0_2 : Rd w va0_2 a0_2) :
    Calls Try.prog 140 ([.agg ([.int .i64 a0_0, va0_1, va0_2].toArray), .int .i64 a1] : List Value).toArray w (Post (fun u ns => ∃ (Sr0 : Nat → Prop), SlLen u r0.length ∧ ns = [R.sl Sr0 u r0]) w) := by
  unfold spec_l3Rounds.f at h
  have hl_va0_1 := hr_a0_1.len
  have hl_va0_2 := hr_a0_2.len
  refine Calls.of_tri (N := 46) Try.func140 rfl rfl rfl (Sep.nil (M := noM)) ?_
  refine Tri.seq ?_
  refine Tri.reg (l := [0, 1]) rfl ?_
  refine F.m rfl rfl rfl (wanted_none rfl) (m_boxG rfl rfl) ?_
  rintro _ _ ⟨b2_1, rfl, rfl⟩
  refine F.q rfl rfl rfl (wanted_none rfl) (r_assign rfl) ?_
  refine F.nil ?_
  refine Nrm.seq ?_
  refine Tri.seq ?_
  refine Tri.reg (l := [0, 1, 2]) rfl ?_
  refine F.q rfl rfl rfl (wanted_none rfl) (r_move rfl) ?_
  refine F.m rfl rfl rfl (wanted_none rfl) (m_buildF (l := ([a1] : List (Int))) Try.underlying23 ti3 rfl rfl rfl rfl rfl) ?_
  rintro v11_1 _ ⟨S11_1, hl_v11_1, rfl⟩
  refine F.q rfl rfl rfl (wanted_none rfl) (r_assign rfl) ?_
  refine F.nil ?_
  refine Nrm.seq ?_
  obtain ⟨s0, hE_1, h⟩ := bind_some h
  refine Tri.block ?_
  refine Tri.only [2, 5] rfl ?_
  refine Tri.pick [1, 0] rfl rfl ?_
  refine Tri.rounds (fun n e' C' => ∃ (x5' : List (Int)) (w5 : Value) (T5 : Nat → Prop), spec_l3Rounds.l0 k a0_0 a0_1 a0_2 n x5' = some s0 ∧ SlLen w5 (x5').length ∧ e' = [(2, .pointer (some ⟨b2_1, 0, none⟩)), (5, w5)] ∧ C' = Sep w noM [R.box b2_1 31 [.int .i64 a0_0, va0_1, va0_2], R.sl T5 w5 (x5' : List (Int))]) k ?_ ?_ ?_
  · exact ⟨([a1] : List (Int)), v11_1, S11_1, hE_1, hl_v11_1, rfl, rfl⟩
  · rintro _ _ ⟨_, _, _, hE_1, _⟩
    rw [spec_l3Rounds.l0.eq_1] at hE_1; cases hE_1
  · rintro n_1 _ _ ⟨x5, w5, T5, hE_1, hl_w5, rfl, rfl⟩ ih_1
    rw [spec_l3Rounds.l0.eq_2] at hE_1
    refine Tri.block ?_
    refine Tri.seq ?_
    obtain ⟨t16, h16, hE_1⟩ := bind_some hE_1
    refine Tri.reg (l := [0, 1, 2, 3, 4, 5, 6]) rfl ?_
    refine F.q rfl rfl rfl (wanted_none rfl) (r_move rfl) ?_
    refine F.q rfl rfl rfl (wanted_none rfl) (r_move rfl) ?_
    refine F.q rfl rfl rfl (wanted_none rfl) (r_len Try.underlying23 rfl hl_w5) ?_
    refine F.q rfl rfl rfl (wanted_none rfl) (r_sub rfl rfl) ?_
    refine F.q rfl rfl rfl (wanted_none rfl) (r_indexAddrS Try.underlying23 ti3 rfl hl_w5 rfl (rdl_some h16).1 (rdl_some h16).2.1) ?_
    refine F.q rfl rfl rfl (wanted_none rfl) (r_load ta3 rfl (fun w hw => cell_0 (Rd.flat ((rd_sl (i := 1) rfl) w hw) (rdl_some h16).2.2) rfl)) ?_
    refine F.q rfl rfl rfl (wanted_none rfl) (r_assign rfl) ?_
    refine F.nil ?_
    refine Nrm.seq ?_
    refine Tri.seq ?_
    obtain ⟨t20, h20, hE_1⟩ := bind_some hE_1
    refine Tri.reg (l := [0, 1, 2, 3, 4, 5]) rfl ?_
    refine F.q rfl rfl rfl (wanted_none rfl) (r_loadA ta31 ti31 rfl rfl (fun w hw => (box_cells (i := 0) rfl w hw))) ?_
    refine F.q rfl rfl rfl (wanted_none rfl) (r_move rfl) ?_
    refine F.m rfl rfl rfl (wanted_none rfl) (m_callF (xs := _) rfl ok141 rfl rfl (fun w hw => spec_l2Reach.ok h20 w ((fun _ hw => hr_a0_1.sep hw) w hw) ((fun _ hw => hr_a0_2.sep hw) w hw))) ?_
    rintro v20_1 _ ⟨_, ⟨S20_1, hl_v20_1, rfl⟩, rfl⟩
    refine F.q rfl rfl rfl (wanted_none rfl) (r_move rfl) ?_
    refine F.q rfl rfl rfl (wanted_none rfl) (r_assign rfl) ?_
    refine F.q rfl rfl rfl (wanted_none rfl) (r_assign rfl) ?_
    refine F.nil ?_
    refine Nrm.seq ?_
    refine Tri.seq ?_
    refine Tri.seq ?_
    refine Tri.reg (l := [0]) rfl ?_
    refine F.q rfl rfl rfl (wanted_none rfl) (r_assign rfl) ?_
    refine F.nil ?_
    refine Nrm.seq ?_
    obtain ⟨x8, hE_2, hE_1⟩ := bind_some hE_1
    refine Tri.block ?_
    refine Tri.only [2, 5, 6, 7, 8, 9] rfl ?_
    refine Tri.pick [1, 0, 2] rfl rfl ?_
    refine Tri.rounds (fun n e' C' => ∃ (x8' : Int) (x9' : Int), spec_l3Rounds.l1 k a0_2 t20 n x8' x9' = some x8 ∧ e' = [(2, .pointer (some ⟨b2_1, 0, none⟩)), (5, w5), (6, .int .i64 t16), (7, v20_1), (8, .int .i64 x8'), (9, .int .i64 x9')] ∧ C' = Sep w noM [R.box b2_1 31 [.int .i64 a0_0, va0_1, va0_2], R.sl S20_1 v20_1 (t20 : List (Int)), R.sl T5 w5 (x5 : List (Int))]) k ?_ ?_ ?_
    · exact ⟨t16, 0, hE_2, rfl, rfl⟩
    · rintro _ _ ⟨_, _, hE_2, _⟩
      rw [spec_l3Rounds.l1.eq_1] at hE_2; cases hE_2
    · rintro n_2 _ _ ⟨x8, x9, hE_2, rfl, rfl⟩ ih_2
      rw [spec_l3Rounds.l1.eq_2] at hE_2
      refine Tri.seq ?_
      refine Tri.seq ?_
      refine Tri.reg (l := [0, 1, 2, 3]) rfl ?_
      refine F.q rfl rfl rfl (wanted_none rfl) (r_move rfl) ?_
      refine F.q rfl rfl rfl (wanted_none rfl) (r_move rfl) ?_
      refine F.q rfl rfl rfl (wanted_none rfl) (r_len Try.underlying23 rfl hl_v20_1) ?_
      refine F.q rfl rfl rfl (wanted_none rfl) (r_lss rfl rfl) ?_
      refine F.nil ?_
      refine Nrm.seq ?_
      refine Tri.cond (b := decide (x9 < (t20.length : Int))) rfl (fun g_1 => ?_) (fun g_1 => ?_)
      · replace hE_2 := if_tt g_1 hE_2
        refine Tri.skip ?_
        refine Nrm.seq ?_
        refine Tri.seq ?_
        refine Tri.block ?_
        obtain ⟨t33, h33, hE_2⟩ := bind_some hE_2
        obtain ⟨t35, h35, hE_2⟩ := bind_some hE_2
        refine Tri.drawA mixedT Sep.up [(0, true), (1, true), (2, true), (3, true), (4, true), (5, true), (6, true), (7, true), (8, true), (9, true), (10, true)] [] (by kernel_rfl) ?_
        refine S.q rfl rfl rfl (wanted_none rfl) (r_move rfl) ?_
        refine S.q rfl rfl rfl (wanted_none rfl) (r_fieldAddr tf31_2 rfl) ?_
        refine S.q rfl rfl rfl (wanted_none rfl) (r_load ta23 rfl (fun w hw => cell_1 (box_cells (i := 0) rfl w hw) rfl)) ?_
        refine S.q rfl rfl rfl (wanted_none rfl) (r_move rfl) ?_
        refine S.q rfl rfl rfl (wanted_none rfl) (r_move rfl) ?_
        refine S.q rfl rfl rfl (wanted_none rfl) (r_indexAddrS Try.underlying23 ti3 rfl hl_v20_1 rfl (rdl_some h33).1 (rdl_some h33).2.1) ?_
        refine S.q rfl rfl rfl (wanted_none rfl) (r_load ta3 rfl (fun w hw => cell_0 (Rd.flat ((rd_sl (i := 1) rfl) w hw) (rdl_some h33).2.2) rfl)) ?_
        refine S.q rfl rfl rfl (wanted_none rfl) (r_indexAddrS Try.underlying23 ti3 rfl hl_va0_2 rfl (rdl_some h35).1 (rdl_some h35).2.1) ?_
        refine S.q rfl rfl rfl (wanted_none rfl) (r_load ta3 rfl (fun w hw => cell_0 (Rd.flat ((fun _ hw => hr_a0_2.sep hw) w hw) (rdl_some h35).2.2) rfl)) ?_
        refine S.q rfl rfl rfl (wanted_none rfl) (r_or rfl rfl) ?_
        refine S.q rfl rfl rfl (wanted_none rfl) (r_assign rfl) ?_
        refine S.nil ?_
        refine F.nil ?_
        refine Nrm.block ?_
        refine Nrm.seq ?_
        refine Tri.reg (l := [0, 1, 2]) rfl ?_
        refine F.q rfl rfl rfl (wanted_none rfl) (r_move rfl) ?_
        refine F.q rfl rfl rfl (wanted_none rfl) (r_add rfl rfl) ?_
        refine F.q rfl rfl rfl (wanted_none rfl) (r_assign rfl) ?_
        refine F.nil ?_
        refine Nrm.round ?_
        refine Rnd.only [2, 5, 6, 7, 8, 9] rfl ?_
        refine Rnd.pick [0, 1, 2] rfl rfl ?_
        exact ih_2 _ _ ⟨bor x8 t35, w64 (x9 + 1), hE_2, rfl, rfl⟩
      · replace hE_2 := if_ff g_1 hE_2
        refine Tri.exit ?_
        refine Exi.then ?_
        refine Exi.then ?_
        refine Exi.same ?_
        cases hE_2
        refine Nrm.seq ?_
        refine Tri.seq ?_
        refine Tri.seq ?_
        refine Tri.reg (l := [0, 1, 2]) rfl ?_
        refine F.q rfl rfl rfl (wanted_none rfl) (r_move rfl) ?_
        refine F.q rfl rfl rfl (wanted_none rfl) (r_move rfl) ?_
        refine F.q rfl rfl rfl (wanted_none rfl) (r_eql rfl rfl) ?_
        refine F.nil ?_
        refine Nrm.seq ?_
        refine Tri.cond (b := x8 == t16) rfl (fun g_2 => ?_) (fun g_2 => ?_)
        · replace hE_1 := if_tt g_2 hE_1
          refine Tri.seq ?_
          refine Tri.reg (l := [0, 1]) rfl ?_
          refine F.q rfl rfl rfl (wanted_none rfl) (r_move rfl) ?_
          refine F.q rfl rfl rfl (wanted_none rfl) (r_assign rfl) ?_
          refine F.nil ?_
          refine Nrm.seq ?_
          refine Tri.ret ?_
          refine Rtn.then ?_
          refine Rtn.block ?_
          refine Rtn.then ?_
          refine Rtn.block ?_
          cases hE_1
          replace h := Lr_inr h
          cases h
          exact Rtn.body (.tmp rfl .nil) (fun w hw => ⟨_, _, rfl, ⟨T5, hl_w5, rfl⟩, Sep.pick (is := [2]) rfl rfl hw⟩)
        · replace hE_1 := if_ff g_2 hE_1
          refine Tri.skip ?_
          refine Nrm.seq ?_
          obtain ⟨hs45, hE_1⟩ := ck hE_1
          refine Tri.reg (l := [0, 1, 2, 3, 4]) rfl ?_
          refine F.q rfl rfl rfl (wanted_none rfl) (r_move rfl) ?_
          refine F.q rfl rfl rfl (wanted_none rfl) (r_move rfl) ?_
          refine F.m rfl rfl rfl (wanted_none rfl) (m_buildF (l := ([x8] : List (Int))) Try.underlying23 ti3 rfl rfl rfl rfl rfl) ?_
          rintro v44_1 _ ⟨S44_1, hl_v44_1, rfl⟩
          refine F.ef rfl rfl rfl (wanted_none rfl) (d_append (i := 3) Try.underlying23 Try.underlying23 ti3 rfl (by decide) rfl rfl rfl (rd_sl (i := 0) rfl) hs45) ?_
          rintro v45_1 _ ⟨S45_1, rfl, hl_v45_1⟩
          refine F.q rfl rfl rfl (wanted_none rfl) (r_assign rfl) ?_
          refine F.nil ?_
          refine Nrm.block ?_
          refine Nrm.round ?_
          refine Rnd.only [2, 5] rfl ?_
          refine Rnd.pick [1, 3] rfl rfl ?_
          exact ih_1 _ _ ⟨x5 ++ ([x8] : List (Int)), v45_1, S45_1, hE_1, hl_v45_1, rfl, rfl⟩

end Go.Proofs

/- loop.example/g01158/spec.l3Entered -/
namespace Go.Proofs
open Go Go.Ga
set_option linter.unusedVariables false
set_option maxRecDepth 100000
set_option maxHeartbeats 4000000
def spec_l3Entered.l1 (k : Nat) (x7 : Int) (t27 : List Int) : Nat → (List (Int)) → Int → Option ((List (Int)))
  | 0, _, _ => none
  | n + 1, x5r, x9 => (if (decide (x9 < (t27.length : Int))) = true then (rdl t27 x9).bind fun t37 => (rdl x5r t37).bind fun t39 => ((if (t39 == 0) = true then (rdl t27 x9).bind fun t45 => (rdl x5r t45).bind fun t49 => some (x5r.set t45.toNat (w64 (x7 + 1))) else some x5r)).bind fun y5r => spec_l3Entered.l1 k x7 t27 n y5r (w64 (x9 + 1)) else some x5r)

def spec_l3Entered.l0 (k : Nat) (a0_0 : Int) (a0_1 : List (Int × Int × Int)) (a0_2 : List Int) (y6 : List (Int)) : Nat → (List (Int)) → Int → Option ((List (Int)))
  | 0, _, _ => none
  | n + 1, x5, x7 => (if (decide (x7 < (y6.length : Int))) = true then (rdl y6 x7).bind fun t25 => (spec_l2Reach.f k a0_0 a0_1 a0_2 0 t25).bind fun t27 => (spec_l3Entered.l1 k x7 t27 k x5 0).bind fun x5r => spec_l3Entered.l0 k a0_0 a0_1 a0_2 y6 n x5r (w64 (x7 + 1)) else some x5)

def spec_l3Entered.f (k : Nat) (a0_0 : Int) (a0_1 : List (Int × Int × Int)) (a0_2 : List Int) (a1 : Int) : Option ((List Int)) := (if 0 ≤ a0_0 ∧ a0_0 < 1099511627776 then (spec_l3Rounds.f k a0_0 a0_1 a0_2 a1).bind fun t15 => some (List.replicate (a0_0).toNat (0 : Int), t15) else none).bind fun (y5, y6) => (spec_l3Entered.l0 k a0_0 a0_1 a0_2 y6 k y5 0).bind fun x5 => some x5

theorem spec_l3Entered.ok {k : Nat}  {a0_0 : Int} {a0_1 : List (Int × Int × Int)} {a0_2 : List Int} {a1 : Int} {r0 : List Int} (h : spec_l3Entered.f k a0_0 a0_1 a0_2 a1 = some r0) (w : World) {va0_1 : Value} {va0_2 : Value} (hr_a0_1 : Rd w va0_1 a0_1) (hr_a0_2 : Rd w va0_2 a0_2) :
    Calls Try.prog 97 ([.agg ([.int .i64 a0_0, va0_1, va0_2].toArray), .int .i64 a1] : List Value).toArray w (Post (fun u ns => ∃ (Sr0 : Nat → Prop), SlLen u r0.length ∧ ns = [R.sl Sr0 u r0]) w) := by
  unfold spec_l3Entered.f at h
  have hl_va0_1 := hr_a0_1.len
  have hl_va0_2 := hr_a0_2.len
  refine Calls.of_tri (N := 51) Try.func97 rfl rfl rfl (Sep.nil (M := noM)) ?_
  refine Tri.seq ?_
  refine Tri.reg (l := [0, 1]) rfl ?_
  refine F.m rfl rfl rfl (wanted_none rfl) (m_boxG rfl rfl) ?_
  rintro _ _ ⟨b2_1, rfl, rfl⟩
  refine F.q rfl rfl rfl (wanted_none rfl) (r_assign rfl) ?_
  refine F.nil ?_
  refine Nrm.seq ?_
  refine Tri.seq ?_
  obtain ⟨⟨y5, y6⟩, hE_1, h⟩ := bind_some h
  refine Tri.cut (fun e' C' => ∃ (v5_1 : Value) (S5_1 : Nat → Prop) (v6_1 : Value) (S6_1 : Nat → Prop), SlLen v5_1 (y5).length ∧ SlLen v6_1 (y6).length ∧ e' = [(2, .pointer (some ⟨b2_1, 0, none⟩)), (5, v5_1), (6, v6_1)] ∧ C' = Sep w noM [R.box b2_1 31 [.int .i64 a0_0, va0_1, va0_2], R.sl S5_1 v5_1 (y5 : List (Int)), R.sl S6_1 v6_1 (y6 : List (Int))]) ?_ (fun hj_1 => ?_)
  · rintro _ _ ⟨v5_1, S5_1, v6_1, S6_1, hl_v5_1, hl_v6_1, rfl, rfl⟩
    refine Nrm.seq ?_
    refine Tri.seq ?_
    refine Tri.seq ?_
    refine Tri.reg (l := [0]) rfl ?_
    refine F.q rfl rfl rfl (wanted_none rfl) (r_assign rfl) ?_
    refine F.nil ?_
    refine Nrm.seq ?_
    obtain ⟨x5, hE_2, h⟩ := bind_some h
    refine Tri.block ?_
    refine Tri.only [2, 5, 6, 7] rfl ?_
    refine Tri.pick [0, 1, 2] rfl rfl ?_
    refine Tri.rounds (fun n e' C' => ∃ (x5' : List (Int)) (x7' : Int) (w5 : Value) (T5 : Nat → Prop), spec_l3Entered.l0 k a0_0 a0_1 a0_2 y6 n x5' x7' = some x5 ∧ SlLen w5 (x5').length ∧ e' = [(2, .pointer (some ⟨b2_1, 0, none⟩)), (5, w5), (6, v6_1), (7, .int .i64 x7')] ∧ C' = Sep w noM [R.box b2_1 31 [.int .i64 a0_0, va0_1, va0_2], R.sl T5 w5 (x5' : List (Int)), R.sl S6_1 v6_1 (y6 : List (Int))]) k ?_ ?_ ?_
    · exact ⟨y5, 0, v5_1, S5_1, hE_2, hl_v5_1, rfl, rfl⟩
    · rintro _ _ ⟨_, _, _, _, hE_2, _⟩
      rw [spec_l3Entered.l0.eq_1] at hE_2; cases hE_2
    · rintro n_1 _ _ ⟨x5, x7, w5, T5, hE_2, hl_w5, rfl, rfl⟩ ih_1
      rw [spec_l3Entered.l0.eq_2] at hE_2
      refine Tri.seq ?_
      refine Tri.seq ?_
      refine Tri.reg (l := [0, 1, 2, 3]) rfl ?_
      refine F.q rfl rfl rfl (wanted_none rfl) (r_move rfl) ?_
      refine F.q rfl rfl rfl (wanted_none rfl) (r_move rfl) ?_
      refine F.q rfl rfl rfl (wanted_none rfl) (r_len Try.underlying23 rfl hl_v6_1) ?_
      refine F.q rfl rfl rfl (wanted_none rfl) (r_lss rfl rfl) ?_
      refine F.nil ?_
      refine Nrm.seq ?_
      refine Tri.cond (b := decide (x7 < (y6.length : Int))) rfl (fun g_1 => ?_) (fun g_1 => ?_)
      · replace hE_2 := if_tt g_1 hE_2
        refine Tri.skip ?_
        refine Nrm.seq ?_
        refine Tri.seq ?_
        refine Tri.block ?_
        refine Tri.seq ?_
        obtain ⟨t25, h25, hE_2⟩ := bind_some hE_2
        obtain ⟨t27, h27, hE_2⟩ := bind_some hE_2
        refine Tri.drawA mixedT Sep.up [(0, true), (1, true), (2, true), (3, true), (4, true), (5, false), (6, true)] [] (by kernel_rfl) ?_
        refine S.q rfl rfl rfl (wanted_none rfl) (r_loadA ta31 ti31 rfl rfl (fun w hw => (box_cells (i := 0) rfl w hw))) ?_
        refine S.q rfl rfl rfl (wanted_none rfl) (r_move rfl) ?_
        refine S.q rfl rfl rfl (wanted_none rfl) (r_move rfl) ?_
        refine S.q rfl rfl rfl (wanted_none rfl) (r_indexAddrS Try.underlying23 ti3 rfl hl_v6_1 rfl (rdl_some h25).1 (rdl_some h25).2.1) ?_
        refine S.q rfl rfl rfl (wanted_none rfl) (r_load ta3 rfl (fun w hw => cell_0 (Rd.flat ((rd_sl (i := 2) rfl) w hw) (rdl_some h25).2.2) rfl)) ?_
        refine S.m rfl rfl rfl (wanted_none rfl) (m_callF (xs := _) rfl ok141 rfl rfl (fun w hw => spec_l2Reach.ok h27 w ((fun _ hw => hr_a0_1.sep hw) w hw) ((fun _ hw => hr_a0_2.sep hw) w hw))) ?_
        rintro v27_2 _ ⟨_, ⟨S27_2, hl_v27_2, rfl⟩, rfl⟩
        refine S.q rfl rfl rfl (wanted_none rfl) (r_assign rfl) ?_
        refine S.nil ?_
        refine F.nil ?_
        refine Nrm.seq ?_
        refine Tri.seq ?_
        refine Tri.reg (l := [0]) rfl ?_
        refine F.q rfl rfl rfl (wanted_none rfl) (r_assign rfl) ?_
        refine F.nil ?_
        refine Nrm.seq ?_
        obtain ⟨x5r, hE_3, hE_2⟩ := bind_some hE_2
        refine Tri.block ?_
        refine Tri.only [2, 5, 6, 7, 8, 9] rfl ?_
        refine Tri.pick [1, 0, 2, 3] rfl rfl ?_
        refine Tri.rounds (fun n e' C' => ∃ (x5r' : List (Int)) (x9' : Int) (w5r : Value) (T5r : Nat → Prop), spec_l3Entered.l1 k x7 t27 n x5r' x9' = some x5r ∧ SlLen w5r (x5r').length ∧ e' = [(2, .pointer (some ⟨b2_1, 0, none⟩)), (5, w5r), (6, v6_1), (7, .int .i64 x7), (8, v27_2), (9, .int .i64 x9')] ∧ C' = Sep w noM [R.box b2_1 31 [.int .i64 a0_0, va0_1, va0_2], R.sl S27_2 v27_2 (t27 : List (Int)), R.sl T5r w5r (x5r' : List (Int)), R.sl S6_1 v6_1 (y6 : List (Int))]) k ?_ ?_ ?_
        · exact ⟨x5, 0, w5, T5, hE_3, hl_w5, rfl, rfl⟩
        · rintro _ _ ⟨_, _, _, _, hE_3, _⟩
          rw [spec_l3Entered.l1.eq_1] at hE_3; cases hE_3
        · rintro n_2 _ _ ⟨x5r, x9, w5r, T5r, hE_3, hl_w5r, rfl, rfl⟩ ih_2
          rw [spec_l3Entered.l1.eq_2] at hE_3
          refine Tri.seq ?_
          refine Tri.seq ?_
          refine Tri.reg (l := [0, 1, 2, 3]) rfl ?_
          refine F.q rfl rfl rfl (wanted_none rfl) (r_move rfl) ?_
          refine F.q rfl rfl rfl (wanted_none rfl) (r_move rfl) ?_
          refine F.q rfl rfl rfl (wanted_none rfl) (r_len Try.underlying23 rfl hl_v27_2) ?_
          refine F.q rfl rfl rfl (wanted_none rfl) (r_lss rfl rfl) ?_
          refine F.nil ?_
          refine Nrm.seq ?_
          refine Tri.cond (b := decide (x9 < (t27.length : Int))) rfl (fun g_2 => ?_) (fun g_2 => ?_)
          · replace hE_3 := if_tt g_2 hE_3
            refine Tri.skip ?_
            refine Nrm.seq ?_
            refine Tri.seq ?_
            refine Tri.block ?_
            refine Tri.seq ?_
            obtain ⟨t37, h37, hE_3⟩ := bind_some hE_3
            obtain ⟨t39, h39, hE_3⟩ := bind_some hE_3
            refine Tri.reg (l := [0, 1, 2, 3, 4, 5, 6, 7]) rfl ?_
            refine F.q rfl rfl rfl (wanted_none rfl) (r_move rfl) ?_
            refine F.q rfl rfl rfl (wanted_none rfl) (r_move rfl) ?_
            refine F.q rfl rfl rfl (wanted_none rfl) (r_move rfl) ?_
            refine F.q rfl rfl rfl (wanted_none rfl) (r_indexAddrS Try.underlying23 ti3 rfl hl_v27_2 rfl (rdl_some h37).1 (rdl_some h37).2.1) ?_
            refine F.q rfl rfl rfl (wanted_none rfl) (r_load ta3 rfl (fun w hw => cell_0 (Rd.flat ((rd_sl (i := 1) rfl) w hw) (rdl_some h37).2.2) rfl)) ?_
            refine F.q rfl rfl rfl (wanted_none rfl) (r_indexAddrS Try.underlying23 ti3 rfl hl_w5r rfl (rdl_some h39).1 (rdl_some h39).2.1) ?_
            refine F.q rfl rfl rfl (wanted_none rfl) (r_load ta3 rfl (fun w hw => cell_0 (Rd.flat ((rd_sl (i := 2) rfl) w hw) (rdl_some h39).2.2) rfl)) ?_
            refine F.q rfl rfl rfl (wanted_none rfl) (r_eql rfl rfl) ?_
            refine F.nil ?_
            refine Nrm.seq ?_
            obtain ⟨y5r, hE_4, hE_3⟩ := bind_some hE_3
            refine Tri.cut (fun e' C' => ∃ (v5_2 : Value) (S5_2 : Nat → Prop), SlLen v5_2 (y5r).length ∧ e' = [(2, .pointer (some ⟨b2_1, 0, none⟩)), (5, v5_2), (6, v6_1), (7, .int .i64 x7), (8, v27_2), (9, .int .i64 x9)] ∧ C' = Sep w noM [R.box b2_1 31 [.int .i64 a0_0, va0_1, va0_2], R.sl S5_2 v5_2 (y5r : List (Int)), R.sl S27_2 v27_2 (t27 : List (Int)), R.sl S6_1 v6_1 (y6 : List (Int))]) ?_ (fun hj_2 => ?_)
            · rintro _ _ ⟨v5_2, S5_2, hl_v5_2, rfl, rfl⟩
              refine Nrm.block ?_
              refine Nrm.seq ?_
              refine Tri.reg (l := [0, 1, 2]) rfl ?_
              refine F.q rfl rfl rfl (wanted_none rfl) (r_move rfl) ?_
              refine F.q rfl rfl rfl (wanted_none rfl) (r_add rfl rfl) ?_
              refine F.q rfl rfl rfl (wanted_none rfl) (r_assign rfl) ?_
              refine F.nil ?_
              refine Nrm.round ?_
              refine Rnd.only [2, 5, 6, 7, 8, 9] rfl ?_
              refine Rnd.pick [0, 2, 1, 3] rfl rfl ?_
              exact ih_2 _ _ ⟨y5r, w64 (x9 + 1), v5_2, S5_2, hE_3, hl_v5_2, rfl, rfl⟩
            · refine Tri.cond (b := t39 == 0) rfl (fun g_3 => ?_) (fun g_3 => ?_)
              · replace hE_4 := if_tt g_3 hE_4
                obtain ⟨t45, h45, hE_4⟩ := bind_some hE_4
                obtain ⟨t49, h49, hE_4⟩ := bind_some hE_4
                refine Tri.reg (l := [0, 1, 2, 3, 4, 5, 6, 7, 8]) rfl ?_
                refine F.q rfl rfl rfl (wanted_none rfl) (r_move rfl) ?_
                refine F.q rfl rfl rfl (wanted_none rfl) (r_move rfl) ?_
                refine F.q rfl rfl rfl (wanted_none rfl) (r_move rfl) ?_
                refine F.q rfl rfl rfl (wanted_none rfl) (r_indexAddrS Try.underlying23 ti3 rfl hl_v27_2 rfl (rdl_some h45).1 (rdl_some h45).2.1) ?_
                refine F.q rfl rfl rfl (wanted_none rfl) (r_load ta3 rfl (fun w hw => cell_0 (Rd.flat ((rd_sl (i := 1) rfl) w hw) (rdl_some h45).2.2) rfl)) ?_
                refine F.q rfl rfl rfl (wanted_none rfl) (r_move rfl) ?_
                refine F.q rfl rfl rfl (wanted_none rfl) (r_add rfl rfl) ?_
                refine F.q rfl rfl rfl (wanted_none rfl) (r_indexAddrS Try.underlying23 ti3 rfl hl_w5r rfl (rdl_some h49).1 (rdl_some h49).2.1) ?_
                refine F.ef0 rfl rfl (wanted_none rfl) (d_storeE (i := 2) (x1 := w64 (x7 + 1)) ti3 rfl rfl rfl (rdl_some h49) rfl) ?_
                rintro _ _ ⟨rfl, rfl⟩
                refine F.nil ?_
                cases hE_4
                refine Nrm.only [2, 5, 6, 7, 8, 9] rfl ?_
                refine Nrm.pick [0, 2, 1, 3] rfl rfl ?_
                exact hj_2 _ _ ⟨w5r, T5r, (len_set hl_w5r), rfl, rfl⟩
              · replace hE_4 := if_ff g_3 hE_4
                refine Tri.skip ?_
                cases hE_4
                refine Nrm.only [2, 5, 6, 7, 8, 9] rfl ?_
                refine Nrm.pick [0, 2, 1, 3] rfl rfl ?_
                exact hj_2 _ _ ⟨w5r, T5r, hl_w5r, rfl, rfl⟩
          · replace hE_3 := if_ff g_2 hE_3
            refine Tri.exit ?_
            refine Exi.then ?_
            refine Exi.then ?_
            refine Exi.same ?_
            cases hE_3
            refine Nrm.block ?_
            refine Nrm.seq ?_
            refine Tri.reg (l := [0, 1, 2]) rfl ?_
            refine F.q rfl rfl rfl (wanted_none rfl) (r_move rfl) ?_
            refine F.q rfl rfl rfl (wanted_none rfl) (r_add rfl rfl) ?_
            refine F.q rfl rfl rfl (wanted_none rfl) (r_assign rfl) ?_
            refine F.nil ?_
            refine Nrm.round ?_
            refine Rnd.only [2, 5, 6, 7] rfl ?_
            refine Rnd.pick [0, 2, 3] rfl rfl ?_
            exact ih_1 _ _ ⟨x5r, w64 (x7 + 1), w5r, T5r, hE_2, hl_w5r, rfl, rfl⟩
      · replace hE_2 := if_ff g_1 hE_2
        refine Tri.exit ?_
        refine Exi.then ?_
        refine Exi.then ?_
        refine Exi.same ?_
        cases hE_2
        refine Nrm.seq ?_
        refine Tri.seq ?_
        refine Tri.reg (l := [0, 1]) rfl ?_
        refine F.q rfl rfl rfl (wanted_none rfl) (r_move rfl) ?_
        refine F.q rfl rfl rfl (wanted_none rfl) (r_assign rfl) ?_
        refine F.nil ?_
        refine Nrm.seq ?_
        refine Tri.ret ?_
        cases h
        exact Rtn.body (.tmp rfl .nil) (fun w hw => ⟨_, _, rfl, ⟨T5, hl_w5, rfl⟩, Sep.pick (is := [1]) rfl rfl hw⟩)
  · obtain ⟨hm12, hE_1⟩ := ck hE_1
    obtain ⟨t15, h15, hE_1⟩ := bind_some hE_1
    refine Tri.drawT mixedT Sep.up [0, 1, 3, 4, 2, 5] [6, 7] (.q 0 (.q 1 (.q 3 (.q 4 (.alt 2 (.alt 5 .nil .stop) (.alt 5 (.alt 2 .nil .stop) .stop)))))) (by kernel_rfl) ?_
    refine T.q rfl rfl rfl (wanted_none rfl) (r_fieldAddr tf31_0 rfl) ?_
    refine T.q rfl rfl rfl (wanted_none rfl) (r_load ta3 rfl (fun w hw => cell_1 (box_cells (i := 0) rfl w hw) rfl)) ?_
    refine T.q rfl rfl rfl (wanted_none rfl) (r_loadA ta31 ti31 rfl rfl (fun w hw => (box_cells (i := 0) rfl w hw))) ?_
    refine T.q rfl rfl rfl (wanted_none rfl) (r_move rfl) ?_
    refine T.ef rfl rfl rfl (wanted_none rfl) (Makes.does (m_make (x0 := (0 : Int)) Try.underlying23 ti3 rfl rfl rfl hm12.1 hm12.2 (by decide))) (by rintro v12_2 _ ⟨S12_2, hl_v12_2, rfl⟩; exact upd rfl [1] rfl rfl) ?_ ?_
    · rintro v12_2 _ ⟨S12_2, hl_v12_2, rfl⟩
      refine T.ef rfl rfl rfl (wanted_none rfl) (Makes.does (m_callF (xs := _) rfl ok140 rfl rfl (fun w hw => spec_l3Rounds.ok h15 w ((fun _ hw => hr_a0_1.sep hw) w hw) ((fun _ hw => hr_a0_2.sep hw) w hw)))) (by rintro v15_2 _ ⟨_, ⟨S15_2, hl_v15_2, rfl⟩, rfl⟩; exact upd rfl [2] rfl rfl) ?_ ?_
      · rintro v15_2 _ ⟨_, ⟨S15_2, hl_v15_2, rfl⟩, rfl⟩
        refine T.nil ?_
        refine F.q rfl rfl rfl (wanted_none rfl) (r_assign rfl) ?_
        refine F.q rfl rfl rfl (wanted_none rfl) (r_assign rfl) ?_
        refine F.nil ?_
        cases hE_1
        refine Nrm.only [2, 5, 6] rfl ?_
        refine Nrm.pick [2, 1, 0] rfl rfl ?_
        exact hj_1 _ _ ⟨v12_2, S12_2, v15_2, S15_2, hl_v12_2, hl_v15_2, rfl, rfl⟩
      exact T.stop
    · refine T.ef rfl rfl rfl (wanted_none rfl) (Makes.does (m_callF (xs := _) rfl ok140 rfl rfl (fun w hw => spec_l3Rounds.ok h15 w ((fun _ hw => hr_a0_1.sep hw) w hw) ((fun _ hw => hr_a0_2.sep hw) w hw)))) (by rintro v15_3 _ ⟨_, ⟨S15_3, hl_v15_3, rfl⟩, rfl⟩; exact upd rfl [1] rfl rfl) ?_ ?_
      · rintro v15_3 _ ⟨_, ⟨S15_3, hl_v15_3, rfl⟩, rfl⟩
        refine T.ef rfl rfl rfl (wanted_none rfl) (Makes.does (m_make (x0 := (0 : Int)) Try.underlying23 ti3 rfl rfl rfl hm12.1 hm12.2 (by decide))) (by rintro v12_3 _ ⟨S12_3, hl_v12_3, rfl⟩; exact upd rfl [2] rfl rfl) ?_ ?_
        · rintro v12_3 _ ⟨S12_3, hl_v12_3, rfl⟩
          refine T.nil ?_
          refine F.q rfl rfl rfl (wanted_none rfl) (r_assign rfl) ?_
          refine F.q rfl rfl rfl (wanted_none rfl) (r_assign rfl) ?_
          refine F.nil ?_
          cases hE_1
          refine Nrm.only [2, 5, 6] rfl ?_
          refine Nrm.pick [2, 0, 1] rfl rfl ?_
          exact hj_1 _ _ ⟨v12_3, S12_3, v15_3, S15_3, hl_v12_3, hl_v15_3, rfl, rfl⟩
        exact T.stop
      exact T.stop

end Go.Proofs

/- loop.example/g01158/spec.l1Own -/

namespace Go.Proofs
open Go Go.Ga
set_option linter.unusedVariables false
set_option maxRecDepth 100000
set_option maxHeartbeats 4000000
def spec_l1Own.f (k : Nat) (a0 : List Int) : Option ((List Int)) := if (([] : List (Int)) ++ a0).length < 1099511627776 then some (([] : List (Int)) ++ a0) else none

theorem spec_l1Own.ok {k : Nat}  {a0 : List Int} {r0 : List Int} (h : spec_l1Own.f k a0 = some r0) (w : World) {va0 : Value} (hr_a0 : Rd w va0 a0) :
    Calls Try.prog 99 ([va0] : List Value).toArray w (Post (fun u ns => ∃ (Sr0 : Nat → Prop), SlLen u r0.length ∧ ns = [R.sl Sr0 u r0]) w) := by
  unfold spec_l1Own.f at h
  have hl_va0 := hr_a0.len
  refine Calls.of_tri (N := 6) Try.func99 rfl rfl rfl (Sep.nil (M := noM)) ?_
  refine Tri.seq ?_
  refine Tri.reg (l := [0]) rfl ?_
  refine F.q rfl rfl rfl (wanted_none rfl) (r_assign rfl) ?_
  refine F.nil ?_
  refine Nrm.seq ?_
  refine Tri.seq ?_
  obtain ⟨hs5, h⟩ := ck h
  refine Tri.reg (l := [0, 1, 2, 3]) rfl ?_
  refine F.m rfl rfl rfl (wanted_none rfl) (m_build0 (α := Int) Try.underlying23 ti3) ?_
  rintro v3_1 _ ⟨S3_1, hl_v3_1, rfl⟩
  refine F.q rfl rfl rfl (wanted_none rfl) (r_move rfl) ?_
  refine F.ef rfl rfl rfl (wanted_none rfl) (d_append (i := 0) Try.underlying23 Try.underlying23 ti3 rfl (by decide) rfl rfl rfl (fun _ hw => hr_a0.sep hw) hs5) ?_
  rintro v5_1 _ ⟨S5_1, rfl, hl_v5_1⟩
  refine F.q rfl rfl rfl (wanted_none rfl) (r_assign rfl) ?_
  refine F.nil ?_
  refine Nrm.seq ?_
  refine Tri.ret ?_
  cases h
  exact Rtn.body (.tmp rfl .nil) (fun w hw => ⟨_, _, rfl, ⟨S5_1, hl_v5_1, rfl⟩, Sep.pick (is := [0]) rfl rfl hw⟩)

end Go.Proofs

/- loop.example/g01158/spec.l2Own -/
namespace Go.Proofs
open Go Go.Ga
set_option linter.unusedVariables false
set_option maxRecDepth 100000
set_option maxHeartbeats 4000000
def spec_l2Own.f (k : Nat) (a0_0 : Int) (a0_1 : List (Int × Int × Int)) (a0_2 : List Int) : Option (Int × (List (Int × Int × Int)) × (List Int)) := if (([] : List (Int × Int × Int)) ++ a0_1).length < 1099511627776 then (spec_l1Own.f k a0_2).bind fun t11 => some (a0_0, ([] : List (Int × Int × Int)) ++ a0_1, t11) else none

theorem spec_l2Own.ok {k : Nat}  {a0_0 : Int} {a0_1 : List (Int × Int × Int)} {a0_2 : List Int} {r0 : Int} {r1 : List (Int × Int × Int)} {r2 : List Int} (h : spec_l2Own.f k a0_0 a0_1 a0_2 = some (r0, r1, r2)) (w : World) {va0_1 : Value} {va0_2 : Value} (hr_a0_1 : Rd w va0_1 a0_1) (hr_a0_2 : Rd w va0_2 a0_2) :
    Calls Try.prog 142 ([.agg ([.int .i64 a0_0, va0_1, va0_2].toArray)] : List Value).toArray w (Post (fun u ns => ∃ (ur1 : Value) (Sr1 : Nat → Prop) (ur2 : Value) (Sr2 : Nat → Prop), u = .agg [.int .i64 r0, ur1, ur2].toArray ∧ SlLen ur1 r1.length ∧ SlLen ur2 r2.length ∧ ns = [R.sl Sr1 ur1 r1, R.sl Sr2 ur2 r2]) w) := by
  unfold spec_l2Own.f at h
  have hl_va0_1 := hr_a0_1.len
  have hl_va0_2 := hr_a0_2.len
  refine Calls.of_tri (N := 13) Try.func142 rfl rfl rfl (Sep.nil (M := noM)) ?_
  refine Tri.seq ?_
  refine Tri.reg (l := [0, 1]) rfl ?_
  refine F.m rfl rfl rfl (wanted_none rfl) (m_boxG rfl rfl) ?_
  rintro _ _ ⟨b1_1, rfl, rfl⟩
  refine F.m rfl rfl rfl (wanted_none rfl) (m_alloc ti31) ?_
  rintro _ _ ⟨b2_1, rfl, rfl⟩
  refine F.nil ?_
  refine Nrm.seq ?_
  refine Tri.seq ?_
  obtain ⟨hs8, h⟩ := ck h
  obtain ⟨t11, h11, h⟩ := bind_some h
  refine Tri.drawB mixedT Sep.up [(0, true), (1, true), (3, true), (4, true), (6, true), (7, true), (2, false), (5, false), (8, false)] [9, 10] (by kernel_rfl) ?_
  refine B.q rfl rfl rfl (wanted_none rfl) (r_fieldAddr tf31_0 rfl) ?_
  refine B.q rfl rfl rfl (wanted_none rfl) (r_load ta3 rfl (fun w hw => cell_1 (box_cells (i := 1) rfl w hw) rfl)) ?_
  refine B.q rfl rfl rfl (wanted_none rfl) (r_fieldAddr tf31_1 rfl) ?_
  refine B.q rfl rfl rfl (wanted_none rfl) (r_load ta22 rfl (fun w hw => cell_1 (box_cells (i := 1) rfl w hw) rfl)) ?_
  refine B.q rfl rfl rfl (wanted_none rfl) (r_fieldAddr tf31_2 rfl) ?_
  refine B.q rfl rfl rfl (wanted_none rfl) (r_load ta23 rfl (fun w hw => cell_1 (box_cells (i := 1) rfl w hw) rfl)) ?_
  refine B.ef rfl rfl rfl (wanted_none rfl) (Makes.does (m_build0 (α := Int × Int × Int) Try.underlying22 ti116)) (by rintro v5_2 _ ⟨S5_2, hl_v5_2, rfl⟩; exact upd rfl [1, 2] rfl rfl) ?_
  rintro v5_2 _ ⟨S5_2, hl_v5_2, rfl⟩
  refine B.ef rfl rfl rfl (wanted_none rfl) (d_append (i := 0) Try.underlying22 Try.underlying22 ti116 rfl (by decide) rfl rfl rfl (fun _ hw => hr_a0_1.sep hw) hs8) (by rintro v8_2 _ ⟨S8_2, rfl, hl_v8_2⟩; exact upd rfl [1, 2] rfl rfl) ?_
  rintro v8_2 _ ⟨S8_2, rfl, hl_v8_2⟩
  refine B.ef rfl rfl rfl (wanted_none rfl) (Makes.does (m_callF (xs := _) rfl ok99 rfl rfl (fun w hw => spec_l1Own.ok h11 w ((fun _ hw => hr_a0_2.sep hw) w hw)))) (by rintro v11_2 _ ⟨_, ⟨S11_2, hl_v11_2, rfl⟩, rfl⟩; exact upd rfl [2, 3] rfl rfl) ?_
  rintro v11_2 _ ⟨_, ⟨S11_2, hl_v11_2, rfl⟩, rfl⟩
  refine B.nil ?_
  refine F.q rfl rfl rfl (wanted_none rfl) (r_build (pl := [(0, 1), (1, 1), (2, 1)]) (qs := [(0, [.int .i64 a0_0]), (1, [v8_2]), (2, [v11_2])]) (cs := [.int .i64 a0_0, v8_2, v11_2]) (by kernel_rfl) ti31 rfl (.cons rfl rfl (Nat.le_of_ble_eq_true rfl) (.cons (sl_cells hl_v8_2) rfl (Nat.le_of_ble_eq_true rfl) (.cons (sl_cells hl_v11_2) rfl (Nat.le_of_ble_eq_true rfl) .nil))) rfl rfl) ?_
  refine F.ef0 rfl rfl (wanted_none rfl) (d_storeG0 (i := 2) (cs2 := [.int .i64 a0_0, v8_2, v11_2]) ti31 rfl rfl rfl rfl rfl (Nat.le_of_ble_eq_true rfl) (lf_cons rfl (lf_cons (sl_leaf hl_v8_2) (lf_cons (sl_leaf hl_v11_2) lf_nil)))) ?_
  rintro _ _ ⟨rfl, rfl⟩
  refine F.nil ?_
  refine Nrm.seq ?_
  refine Tri.ret ?_
  cases h
  exact Rtn.body (.cell rfl ta31 ti31 rfl (fun _ hw => box_cells (i := 2) rfl _ hw) .nil) (fun w hw => ⟨_, _, rfl, ⟨v8_2, S8_2, v11_2, S11_2, rfl, hl_v8_2, hl_v11_2, rfl⟩, Sep.pick (is := [1, 0]) rfl rfl hw⟩)

end Go.Proofs

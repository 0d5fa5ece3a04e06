/- A part of the proof of FnExactLeansOn: what the functions of the program compute, walked on the model. No condition. -/
import Derived.Test.YtnmmbpaedkofeaaChecked
import Derived.Test.YtnmmbpaedkofeaaFnExactLeansOnB
set_option linter.unusedSimpArgs false
namespace Go.Proofs
open Go Go.Ga Go.Ga.Rp Go.Ga.Flat
theorem mixedT : Try.prog.follows .mixedOrders = true := by kernel_rfl
theorem ok100 : CallOk Try.prog 100 := .of Try.func100 rfl (by decide)
theorem ok101 : CallOk Try.prog 101 := .of Try.func101 rfl (by decide)
theorem ok102 : CallOk Try.prog 102 := .of Try.func102 rfl (by decide)
theorem ok103 : CallOk Try.prog 103 := .of Try.func103 rfl (by decide)
theorem ok104 : CallOk Try.prog 104 := .of Try.func104 rfl (by decide)
theorem ok105 : CallOk Try.prog 105 := .of Try.func105 rfl (by decide)
theorem ok106 : CallOk Try.prog 106 := .of Try.func106 rfl (by decide)
theorem ok107 : CallOk Try.prog 107 := .of Try.func107 rfl (by decide)
theorem ok108 : CallOk Try.prog 108 := .of Try.func108 rfl (by decide)
theorem ok109 : CallOk Try.prog 109 := .of Try.func109 rfl (by decide)
theorem ok110 : CallOk Try.prog 110 := .of Try.func110 rfl (by decide)
theorem ok111 : CallOk Try.prog 111 := .of Try.func111 rfl (by decide)
theorem ok112 : CallOk Try.prog 112 := .of Try.func112 rfl (by decide)
theorem ok113 : CallOk Try.prog 113 := .of Try.func113 rfl (by decide)
theorem ok114 : CallOk Try.prog 114 := .of Try.func114 rfl (by decide)
theorem ok115 : CallOk Try.prog 115 := .of Try.func115 rfl (by decide)
theorem ok116 : CallOk Try.prog 116 := .of Try.func116 rfl (by decide)
theorem ok117 : CallOk Try.prog 117 := .of Try.func117 rfl (by decide)
theorem ok118 : CallOk Try.prog 118 := .of Try.func118 rfl (by decide)
theorem ok119 : CallOk Try.prog 119 := .of Try.func119 rfl (by decide)
theorem ok120 : CallOk Try.prog 120 := .of Try.func120 rfl (by decide)
theorem ok121 : CallOk Try.prog 121 := .of Try.func121 rfl (by decide)
theorem ok122 : CallOk Try.prog 122 := .of Try.func122 rfl (by decide)
theorem ok123 : CallOk Try.prog 123 := .of Try.func123 rfl (by decide)
theorem ok124 : CallOk Try.prog 124 := .of Try.func124 rfl (by decide)
theorem ok125 : CallOk Try.prog 125 := .of Try.func125 rfl (by decide)
theorem ok126 : CallOk Try.prog 126 := .of Try.func126 rfl (by decide)
theorem ok127 : CallOk Try.prog 127 := .of Try.func127 rfl (by decide)
theorem ok128 : CallOk Try.prog 128 := .of Try.func128 rfl (by decide)
theorem ok129 : CallOk Try.prog 129 := .of Try.func129 rfl (by decide)
theorem ok130 : CallOk Try.prog 130 := .of Try.func130 rfl (by decide)
theorem ok131 : CallOk Try.prog 131 := .of Try.func131 rfl (by decide)
theorem ok132 : CallOk Try.prog 132 := .of Try.func132 rfl (by decide)
theorem ok133 : CallOk Try.prog 133 := .of Try.func133 rfl (by decide)
theorem ok134 : CallOk Try.prog 134 := .of Try.func134 rfl (by decide)
theorem ok135 : CallOk Try.prog 135 := .of Try.func135 rfl (by decide)
theorem ok136 : CallOk Try.prog 136 := .of Try.func136 rfl (by decide)
theorem ok137 : CallOk Try.prog 137 := .of Try.func137 rfl (by decide)
theorem ok138 : CallOk Try.prog 138 := .of Try.func138 rfl (by decide)
theorem ok141 : CallOk Try.prog 141 := .of Try.func141 rfl (by decide)
theorem ok142 : CallOk Try.prog 142 := .of Try.func142 rfl (by decide)
theorem ok143 : CallOk Try.prog 143 := .of Try.func143 rfl (by decide)
theorem ok144 : CallOk Try.prog 144 := .of Try.func144 rfl (by decide)
theorem ok145 : CallOk Try.prog 145 := .of Try.func145 rfl (by decide)
theorem ok146 : CallOk Try.prog 146 := .of Try.func146 rfl (by decide)
theorem ok147 : CallOk Try.prog 147 := .of Try.func147 rfl (by decide)
theorem ok148 : CallOk Try.prog 148 := .of Try.func148 rfl (by decide)
theorem ok149 : CallOk Try.prog 149 := .of Try.func149 rfl (by decide)
theorem ok15 : CallOk Try.prog 15 := .of Try.func15 rfl (by decide)
theorem ok150 : CallOk Try.prog 150 := .of Try.func150 rfl (by decide)
theorem ok151 : CallOk Try.prog 151 := .of Try.func151 rfl (by decide)
theorem ok152 : CallOk Try.prog 152 := .of Try.func152 rfl (by decide)
theorem ok153 : CallOk Try.prog 153 := .of Try.func153 rfl (by decide)
theorem ok154 : CallOk Try.prog 154 := .of Try.func154 rfl (by decide)
theorem ok155 : CallOk Try.prog 155 := .of Try.func155 rfl (by decide)
theorem ok156 : CallOk Try.prog 156 := .of Try.func156 rfl (by decide)
theorem ok157 : CallOk Try.prog 157 := .of Try.func157 rfl (by decide)
theorem ok158 : CallOk Try.prog 158 := .of Try.func158 rfl (by decide)
theorem ok159 : CallOk Try.prog 159 := .of Try.func159 rfl (by decide)
theorem ok16 : CallOk Try.prog 16 := .of Try.func16 rfl (by decide)
theorem ok160 : CallOk Try.prog 160 := .of Try.func160 rfl (by decide)
theorem ok161 : CallOk Try.prog 161 := .of Try.func161 rfl (by decide)
theorem ok162 : CallOk Try.prog 162 := .of Try.func162 rfl (by decide)
theorem ok164 : CallOk Try.prog 164 := .of Try.func164 rfl (by decide)
theorem ok165 : CallOk Try.prog 165 := .of Try.func165 rfl (by decide)
theorem ok166 : CallOk Try.prog 166 := .of Try.func166 rfl (by decide)
theorem ok168 : CallOk Try.prog 168 := .of Try.func168 rfl (by decide)
theorem ok169 : CallOk Try.prog 169 := .of Try.func169 rfl (by decide)
theorem ok17 : CallOk Try.prog 17 := .of Try.func17 rfl (by decide)
theorem ok170 : CallOk Try.prog 170 := .of Try.func170 rfl (by decide)
theorem ok171 : CallOk Try.prog 171 := .of Try.func171 rfl (by decide)
theorem ok172 : CallOk Try.prog 172 := .of Try.func172 rfl (by decide)
theorem ok174 : CallOk Try.prog 174 := .of Try.func174 rfl (by decide)
theorem ok18 : CallOk Try.prog 18 := .of Try.func18 rfl (by decide)
theorem ok184 : CallOk Try.prog 184 := .of Try.func184 rfl (by decide)
theorem ok186 : CallOk Try.prog 186 := .of Try.func186 rfl (by decide)
theorem ok19 : CallOk Try.prog 19 := .of Try.func19 rfl (by decide)
theorem ok20 : CallOk Try.prog 20 := .of Try.func20 rfl (by decide)
theorem ok21 : CallOk Try.prog 21 := .of Try.func21 rfl (by decide)
theorem ok22 : CallOk Try.prog 22 := .of Try.func22 rfl (by decide)
theorem ok23 : CallOk Try.prog 23 := .of Try.func23 rfl (by decide)
theorem ok24 : CallOk Try.prog 24 := .of Try.func24 rfl (by decide)
theorem ok25 : CallOk Try.prog 25 := .of Try.func25 rfl (by decide)
theorem ok26 : CallOk Try.prog 26 := .of Try.func26 rfl (by decide)
theorem ok27 : CallOk Try.prog 27 := .of Try.func27 rfl (by decide)
theorem ok28 : CallOk Try.prog 28 := .of Try.func28 rfl (by decide)
theorem ok29 : CallOk Try.prog 29 := .of Try.func29 rfl (by decide)
theorem ok30 : CallOk Try.prog 30 := .of Try.func30 rfl (by decide)
theorem ok31 : CallOk Try.prog 31 := .of Try.func31 rfl (by decide)
theorem ok32 : CallOk Try.prog 32 := .of Try.func32 rfl (by decide)
theorem ok33 : CallOk Try.prog 33 := .of Try.func33 rfl (by decide)
theorem ok34 : CallOk Try.prog 34 := .of Try.func34 rfl (by decide)
theorem ok35 : CallOk Try.prog 35 := .of Try.func35 rfl (by decide)
theorem ok36 : CallOk Try.prog 36 := .of Try.func36 rfl (by decide)
theorem ok37 : CallOk Try.prog 37 := .of Try.func37 rfl (by decide)
theorem ok39 : CallOk Try.prog 39 := .of Try.func39 rfl (by decide)
theorem ok40 : CallOk Try.prog 40 := .of Try.func40 rfl (by decide)
theorem ok42 : CallOk Try.prog 42 := .of Try.func42 rfl (by decide)
theorem ok43 : CallOk Try.prog 43 := .of Try.func43 rfl (by decide)
theorem ok44 : CallOk Try.prog 44 := .of Try.func44 rfl (by decide)
theorem ok45 : CallOk Try.prog 45 := .of Try.func45 rfl (by decide)
theorem ok46 : CallOk Try.prog 46 := .of Try.func46 rfl (by decide)
theorem ok47 : CallOk Try.prog 47 := .of Try.func47 rfl (by decide)
theorem ok48 : CallOk Try.prog 48 := .of Try.func48 rfl (by decide)
theorem ok49 : CallOk Try.prog 49 := .of Try.func49 rfl (by decide)
theorem ok50 : CallOk Try.prog 50 := .of Try.func50 rfl (by decide)
theorem ok51 : CallOk Try.prog 51 := .of Try.func51 rfl (by decide)
theorem ok52 : CallOk Try.prog 52 := .of Try.func52 rfl (by decide)
theorem ok53 : CallOk Try.prog 53 := .of Try.func53 rfl (by decide)
theorem ok54 : CallOk Try.prog 54 := .of Try.func54 rfl (by decide)
theorem ok55 : CallOk Try.prog 55 := .of Try.func55 rfl (by decide)
theorem ok56 : CallOk Try.prog 56 := .of Try.func56 rfl (by decide)
theorem ok57 : CallOk Try.prog 57 := .of Try.func57 rfl (by decide)
theorem ok58 : CallOk Try.prog 58 := .of Try.func58 rfl (by decide)
theorem ok59 : CallOk Try.prog 59 := .of Try.func59 rfl (by decide)
theorem ok60 : CallOk Try.prog 60 := .of Try.func60 rfl (by decide)
theorem ok61 : CallOk Try.prog 61 := .of Try.func61 rfl (by decide)
theorem ok62 : CallOk Try.prog 62 := .of Try.func62 rfl (by decide)
theorem ok63 : CallOk Try.prog 63 := .of Try.func63 rfl (by decide)
theorem ok64 : CallOk Try.prog 64 := .of Try.func64 rfl (by decide)
theorem ok65 : CallOk Try.prog 65 := .of Try.func65 rfl (by decide)
theorem ok66 : CallOk Try.prog 66 := .of Try.func66 rfl (by decide)
theorem ok67 : CallOk Try.prog 67 := .of Try.func67 rfl (by decide)
theorem ok68 : CallOk Try.prog 68 := .of Try.func68 rfl (by decide)
theorem ok69 : CallOk Try.prog 69 := .of Try.func69 rfl (by decide)
theorem ok70 : CallOk Try.prog 70 := .of Try.func70 rfl (by decide)
theorem ok71 : CallOk Try.prog 71 := .of Try.func71 rfl (by decide)
theorem ok72 : CallOk Try.prog 72 := .of Try.func72 rfl (by decide)
theorem ok73 : CallOk Try.prog 73 := .of Try.func73 rfl (by decide)
theorem ok74 : CallOk Try.prog 74 := .of Try.func74 rfl (by decide)
theorem ok75 : CallOk Try.prog 75 := .of Try.func75 rfl (by decide)
theorem ok76 : CallOk Try.prog 76 := .of Try.func76 rfl (by decide)
theorem ok77 : CallOk Try.prog 77 := .of Try.func77 rfl (by decide)
theorem ok78 : CallOk Try.prog 78 := .of Try.func78 rfl (by decide)
theorem ok79 : CallOk Try.prog 79 := .of Try.func79 rfl (by decide)
theorem ok80 : CallOk Try.prog 80 := .of Try.func80 rfl (by decide)
theorem ok81 : CallOk Try.prog 81 := .of Try.func81 rfl (by decide)
theorem ok82 : CallOk Try.prog 82 := .of Try.func82 rfl (by decide)
theorem ok83 : CallOk Try.prog 83 := .of Try.func83 rfl (by decide)
theorem ok84 : CallOk Try.prog 84 := .of Try.func84 rfl (by decide)
theorem ok85 : CallOk Try.prog 85 := .of Try.func85 rfl (by decide)
theorem ok86 : CallOk Try.prog 86 := .of Try.func86 rfl (by decide)
theorem ok87 : CallOk Try.prog 87 := .of Try.func87 rfl (by decide)
theorem ok88 : CallOk Try.prog 88 := .of Try.func88 rfl (by decide)
theorem ok89 : CallOk Try.prog 89 := .of Try.func89 rfl (by decide)
theorem ok90 : CallOk Try.prog 90 := .of Try.func90 rfl (by decide)
theorem ok91 : CallOk Try.prog 91 := .of Try.func91 rfl (by decide)
theorem ok93 : CallOk Try.prog 93 := .of Try.func93 rfl (by decide)
theorem ok94 : CallOk Try.prog 94 := .of Try.func94 rfl (by decide)
theorem ok95 : CallOk Try.prog 95 := .of Try.func95 rfl (by decide)
theorem ok96 : CallOk Try.prog 96 := .of Try.func96 rfl (by decide)
theorem ok97 : CallOk Try.prog 97 := .of Try.func97 rfl (by decide)
theorem ok98 : CallOk Try.prog 98 := .of Try.func98 rfl (by decide)
theorem ok99 : CallOk Try.prog 99 := .of Try.func99 rfl (by decide)
theorem on38 {w0 : World} {M : Nat → Prop} {rs rest : List Res} {S : Nat → Prop} {v : Value} {l : List (List Int)} {i : Nat} {x : List Int} (is js : List Nat) (hp : Ga.pick rs (is ++ js) = some (R.sl S v l :: rest)) (hn : noDup (is ++ js) = true) (hx : l[i]? = some x) :
    ∀ w, Sep w0 M rs w → ∃ C', C' w ∧ ∃ (v0 : Value) (S0 : Nat → Prop) (Sr : Nat → Prop), SlLen v0 (x).length ∧ (∀ b, S b ↔ (S0 b) ∨ Sr b) ∧ C' = Sep w0 M (R.sl S0 v0 x :: R.hole Sr v l i [v0] :: rest) := by
  intro w hw
  obtain ⟨cs, Se, Sr, ho, hh, h1, h2, h3⟩ := SlOwn.open (show SlOwn w S v l from (hw.pick hp hn).ok _ (List.mem_cons_self ..)) hx
  obtain ⟨v0, rfl, f0⟩ := ho
  have hs0 : ∀ b, Se b → Se b := fun b hb => hb
  have hw1 : Sep w0 M ([R.sl S v l] ++ rest) w := hw.pick hp hn
  refine ⟨_, Sep.repl (ns := [R.sl Se v0 x, R.hole (fun b => S b ∧ ¬ (Se b)) v l i [v0]]) hw1 ?_ ?_ ?_, v0, Se, (fun b => S b ∧ ¬ (Se b)), (SlOwn.rd f0).len, fun b => ⟨fun hb => ?_, fun hb => ?_⟩, rfl⟩
  · intro r hr; simp only [List.mem_cons, List.not_mem_nil, or_false] at hr; rcases hr with rfl | rfl
    · exact f0
    · exact hh.mono (fun b hb => ⟨h2 b hb, fun h => h3 b (hs0 b h) hb⟩)
  · refine .cons (fun s hs b hb hb2 => ?_) (.cons (fun s hs => by cases hs) .nil)
    rw [List.mem_singleton.1 hs] at hb2; exact hb2.2 hb
  · intro r hr b hb; simp only [List.mem_cons, List.not_mem_nil, or_false] at hr; refine ⟨_, List.mem_cons_self .., ?_⟩; rcases hr with rfl | rfl
    · exact h1 b (hs0 b hb)
    · exact hb.1
  · by_cases hc : Se b
    · exact .inl hc
    · exact .inr ⟨hb, hc⟩
  · rcases hb with hb | hb
    · exact h1 b (hs0 b hb)
    · exact hb.1
theorem on55 {w0 : World} {M : Nat → Prop} {rs rest : List Res} {S : Nat → Prop} {v : Value} {l : List (Int × List (Int × Int × Int) × List Int)} {i : Nat} {x : Int × List (Int × Int × Int) × List Int} (is js : List Nat) (hp : Ga.pick rs (is ++ js) = some (R.sl S v l :: rest)) (hn : noDup (is ++ js) = true) (hx : l[i]? = some x) :
    ∀ w, Sep w0 M rs w → ∃ C', C' w ∧ ∃ (v1 : Value) (S1 : Nat → Prop) (v2 : Value) (S2 : Nat → Prop) (Sr : Nat → Prop), SlLen v1 (x.2.1).length ∧ SlLen v2 (x.2.2).length ∧ (∀ b, S b ↔ (S1 b ∨ S2 b) ∨ Sr b) ∧ C' = Sep w0 M (R.sl S1 v1 x.2.1 :: R.sl S2 v2 x.2.2 :: R.hole Sr v l i [.int .i64 x.1, v1, v2] :: rest) := by
  intro w hw
  obtain ⟨cs, Se, Sr, ho, hh, h1, h2, h3⟩ := SlOwn.open (show SlOwn w S v l from (hw.pick hp hn).ok _ (List.mem_cons_self ..)) hx
  obtain ⟨c0, d0, rfl, S0, U0, hd0, ha0, hb0, f0, g1⟩ := ho
  obtain ⟨c1, d1, rfl, S1, U1, hd1, ha1, hb1, ⟨v1, rfl, f1⟩, g2⟩ := g1
  obtain ⟨v2, rfl, f2⟩ := g2
  obtain rfl := Flat.own_iff.1 f0
  have hs1 : ∀ b, S1 b → Se b := fun b hb => hb0 b (ha1 b hb)
  have hs2 : ∀ b, U1 b → Se b := fun b hb => hb0 b (hb1 b hb)
  have hdis : ∀ b, S1 b → U1 b → False := fun b hj hq => hd1 b hj (hq)
  have hw1 : Sep w0 M ([R.sl S v l] ++ rest) w := hw.pick hp hn
  refine ⟨_, Sep.repl (ns := [R.sl S1 v1 x.2.1, R.sl U1 v2 x.2.2, R.hole (fun b => S b ∧ ¬ (S1 b ∨ U1 b)) v l i [.int .i64 x.1, v1, v2]]) hw1 ?_ ?_ ?_, v1, S1, v2, U1, (fun b => S b ∧ ¬ (S1 b ∨ U1 b)), (SlOwn.rd f1).len, (SlOwn.rd f2).len, fun b => ⟨fun hb => ?_, fun hb => ?_⟩, rfl⟩
  · intro r hr; simp only [List.mem_cons, List.not_mem_nil, or_false] at hr; rcases hr with rfl | rfl | rfl
    · exact f1
    · exact f2
    · exact hh.mono (fun b hb => ⟨h2 b hb, fun h => by rcases h with h | h; exact h3 b (hs1 b h) hb; exact h3 b (hs2 b h) hb⟩)
  · refine .cons (fun s hs b hb hb2 => ?_) (.cons (fun s hs b hb hb2 => ?_) (.cons (fun s hs => by cases hs) .nil))
    · simp only [List.mem_cons, List.not_mem_nil, or_false] at hs; rcases hs with rfl | rfl
      · exact hdis b hb hb2
      · exact hb2.2 (.inl hb)
    · rw [List.mem_singleton.1 hs] at hb2; exact hb2.2 (.inr hb)
  · intro r hr b hb; simp only [List.mem_cons, List.not_mem_nil, or_false] at hr; refine ⟨_, List.mem_cons_self .., ?_⟩; rcases hr with rfl | rfl | rfl
    · exact h1 b (hs1 b hb)
    · exact h1 b (hs2 b hb)
    · exact hb.1
  · by_cases hc : S1 b ∨ U1 b
    · exact .inl hc
    · exact .inr ⟨hb, hc⟩
  · rcases hb with (hb | hb) | hb
    · exact h1 b (hs1 b hb)
    · exact h1 b (hs2 b hb)
    · exact hb.1
theorem op38 {w : World} {cs : List Value} {t : List Int} (h : rep w (fun _ => True) cs t) : ∃ v0 : Value, cs = [v0] ∧ Rd w v0 t := by
  obtain ⟨v0, rfl, h0⟩ := h
  exact ⟨v0, rfl, h0⟩
theorem op51 {w : World} {cs : List Value} {t : Int × List (Int × Int × Int) × List Int} (h : rep w (fun _ => True) cs t) : ∃ v1 v2 : Value, cs = [.int .i64 t.1, v1, v2] ∧ Rd w v1 t.2.1 ∧ Rd w v2 t.2.2 := by
  obtain ⟨_, _, rfl, h0, ⟨_, _, rfl, ⟨v1, rfl, h1⟩, ⟨v2, rfl, h2⟩⟩⟩ := h
  rw [Flat.rp h0]
  exact ⟨v1, v2, rfl, h1, h2⟩
theorem op55 {w : World} {cs : List Value} {t : Int × List (Int × Int × Int) × List Int} (h : rep w (fun _ => True) cs t) : ∃ v1 v2 : Value, cs = [.int .i64 t.1, v1, v2] ∧ Rd w v1 t.2.1 ∧ Rd w v2 t.2.2 := by
  obtain ⟨_, _, rfl, h0, ⟨_, _, rfl, ⟨v1, rfl, h1⟩, ⟨v2, rfl, h2⟩⟩⟩ := h
  rw [Flat.rp h0]
  exact ⟨v1, v2, rfl, h1, h2⟩
theorem ta112 : TAgg Try.prog 112 true := .of (by kernel_rfl)
theorem ta114 : TAgg Try.prog 114 true := .of (by kernel_rfl)
theorem ta122 : TAgg Try.prog 122 true := .of (by kernel_rfl)
theorem ta140 : TAgg Try.prog 140 true := .of (by kernel_rfl)
theorem ta22 : TAgg Try.prog 22 false := .of (by kernel_rfl)
theorem ta23 : TAgg Try.prog 23 false := .of (by kernel_rfl)
theorem ta25 : TAgg Try.prog 25 true := .of (by kernel_rfl)
theorem ta29 : TAgg Try.prog 29 false := .of (by kernel_rfl)
theorem ta3 : TAgg Try.prog 3 false := .of (by kernel_rfl)
theorem ta31 : TAgg Try.prog 31 true := .of (by kernel_rfl)
theorem ta38 : TAgg Try.prog 38 false := .of (by kernel_rfl)
theorem ta4 : TAgg Try.prog 4 false := .of (by kernel_rfl)
theorem ta49 : TAgg Try.prog 49 false := .of (by kernel_rfl)
theorem ta51 : TAgg Try.prog 51 true := .of (by kernel_rfl)
theorem ta53 : TAgg Try.prog 53 true := .of (by kernel_rfl)
theorem ta55 : TAgg Try.prog 55 true := .of (by kernel_rfl)
theorem ta57 : TAgg Try.prog 57 true := .of (by kernel_rfl)
theorem ta83 : TAgg Try.prog 83 true := .of (by kernel_rfl)
theorem ta88 : TAgg Try.prog 88 true := .of (by kernel_rfl)
theorem tf25_0 : TField Try.prog 25 0 0 := .of (k := 0) (by kernel_rfl)
theorem tf25_1 : TField Try.prog 25 1 1 := .of (k := 0) (by kernel_rfl)
theorem tf31_0 : TField Try.prog 31 0 0 := .of (k := 0) (by kernel_rfl)
theorem tf31_1 : TField Try.prog 31 1 1 := .of (k := 0) (by kernel_rfl)
theorem tf51_0 : TField Try.prog 51 0 0 := .of (k := 0) (by kernel_rfl)
theorem tf51_1 : TField Try.prog 51 1 1 := .of (k := 0) (by kernel_rfl)
theorem tf51_2 : TField Try.prog 51 2 2 := .of (k := 0) (by kernel_rfl)
theorem tf53_0 : TField Try.prog 53 0 0 := .of (k := 2) (by kernel_rfl)
theorem tf53_1 : TField Try.prog 53 1 3 := .of (k := 0) (by kernel_rfl)
theorem tf55_0 : TField Try.prog 55 0 0 := .of (k := 0) (by kernel_rfl)
theorem tf55_1 : TField Try.prog 55 1 1 := .of (k := 0) (by kernel_rfl)
theorem tf55_2 : TField Try.prog 55 2 2 := .of (k := 0) (by kernel_rfl)
theorem tf57_0 : TField Try.prog 57 0 0 := .of (k := 2) (by kernel_rfl)
theorem tf57_1 : TField Try.prog 57 1 3 := .of (k := 0) (by kernel_rfl)
theorem tf83_0 : TField Try.prog 83 0 0 := .of (k := 0) (by kernel_rfl)
theorem tf83_1 : TField Try.prog 83 1 1 := .of (k := 0) (by kernel_rfl)
theorem tf83_2 : TField Try.prog 83 2 2 := .of (k := 0) (by kernel_rfl)
theorem tf88_0 : TField Try.prog 88 0 0 := .of (k := 0) (by kernel_rfl)
theorem tf88_1 : TField Try.prog 88 1 1 := .of (k := 0) (by kernel_rfl)
theorem ti112 : TInfo Try.prog 112 64 512 (.agg (encA (Arr.rep 64 0)).toArray) := .of (by kernel_rfl)
theorem ti114 : TInfo Try.prog 114 768 6144 (.agg (encA (Arr.rep 768 0)).toArray) := .of (by kernel_rfl)
theorem ti122 : TInfo Try.prog 122 2 16 (.agg #[.int .i64 0, .int .i64 0]) := .of (by kernel_rfl)
theorem ti140 : TInfo Try.prog 140 3 24 (.agg #[.int .i64 0, .int .i64 0, .int .i64 0]) := .of (by kernel_rfl)
theorem ti173 : TInfo Try.prog 173 1 8 (.int .u64 0) := .of (by kernel_rfl)
theorem ti23 : TInfo Try.prog 23 1 24 (.slice none 0 0) := .of (by kernel_rfl)
theorem ti25 : TInfo Try.prog 25 2 48 (.agg #[.slice none 0 0, .slice none 0 0]) := .of (by kernel_rfl)
theorem ti29 : TInfo Try.prog 29 1 24 (.slice none 0 0) := .of (by kernel_rfl)
theorem ti3 : TInfo Try.prog 3 1 8 (.int .i64 0) := .of (by kernel_rfl)
theorem ti31 : TInfo Try.prog 31 2 48 (.agg #[.slice none 0 0, .slice none 0 0]) := .of (by kernel_rfl)
theorem ti38 : TInfo Try.prog 38 1 24 (.slice none 0 0) := .of (by kernel_rfl)
theorem ti4 : TInfo Try.prog 4 1 1 (.bool false) := .of (by kernel_rfl)
theorem ti49 : TInfo Try.prog 49 1 24 (.slice none 0 0) := .of (by kernel_rfl)
theorem ti51 : TInfo Try.prog 51 3 56 (.agg #[.int .i64 0, .slice none 0 0, .slice none 0 0]) := .of (by kernel_rfl)
theorem ti53 : TInfo Try.prog 53 4 80 (.agg #[.int .i64 0, .slice none 0 0, .slice none 0 0, .slice none 0 0]) := .of (by kernel_rfl)
theorem ti55 : TInfo Try.prog 55 3 56 (.agg #[.int .i64 0, .slice none 0 0, .slice none 0 0]) := .of (by kernel_rfl)
theorem ti57 : TInfo Try.prog 57 4 80 (.agg #[.int .i64 0, .slice none 0 0, .slice none 0 0, .slice none 0 0]) := .of (by kernel_rfl)
theorem ti83 : TInfo Try.prog 83 3 72 (.agg #[.slice none 0 0, .slice none 0 0, .slice none 0 0]) := .of (by kernel_rfl)
theorem ti88 : TInfo Try.prog 88 2 48 (.agg #[.slice none 0 0, .slice none 0 0]) := .of (by kernel_rfl)
end Go.Proofs

/- loop.example/g01158/laws.szIntS -/

namespace Go.Proofs
open Go Go.Ga
set_option linter.unusedVariables false
set_option maxRecDepth 100000
set_option maxHeartbeats 4000000
def laws_szIntS.f (k : Nat) (a0 : List Int) (a1 : Int) : Option (Int) := (if (decide ((w64 (a1 - (a0.length : Int))) < 0)) = true then some (-1) else some (w64 (a1 - (a0.length : Int))))

theorem laws_szIntS.ok {k : Nat}  {a0 : List Int} {a1 : Int} {r0 : Int} (h : laws_szIntS.f k a0 a1 = some r0) (w : World) {va0 : Value} (hr_a0 : Rd w va0 a0) :
    Calls Try.prog 82 ([va0, .int .i64 a1] : List Value).toArray w (fun e w' => e = .returned (.int .i64 r0) ∧ Ext w w') := by
  unfold laws_szIntS.f at h
  have hl_va0 := hr_a0.len
  refine Calls.of_tri (N := 12) Try.func82 rfl rfl rfl (Sep.nil (M := noM)) ?_
  refine Tri.seq ?_
  refine Tri.reg (l := [0]) rfl ?_
  refine F.q rfl rfl rfl (wanted_none rfl) (r_assign rfl) ?_
  refine F.nil ?_
  refine Nrm.seq ?_
  refine Tri.seq ?_
  refine Tri.reg (l := [0, 1, 2, 3, 4]) rfl ?_
  refine F.q rfl rfl rfl (wanted_none rfl) (r_move rfl) ?_
  refine F.q rfl rfl rfl (wanted_none rfl) (r_move rfl) ?_
  refine F.q rfl rfl rfl (wanted_none rfl) (r_len Try.underlying38 rfl hl_va0) ?_
  refine F.q rfl rfl rfl (wanted_none rfl) (r_sub rfl rfl) ?_
  refine F.q rfl rfl rfl (wanted_none rfl) (r_assign rfl) ?_
  refine F.nil ?_
  refine Nrm.seq ?_
  refine Tri.seq ?_
  refine Tri.seq ?_
  refine Tri.reg (l := [0, 1]) rfl ?_
  refine F.q rfl rfl rfl (wanted_none rfl) (r_move rfl) ?_
  refine F.q rfl rfl rfl (wanted_none rfl) (r_lss rfl rfl) ?_
  refine F.nil ?_
  refine Nrm.seq ?_
  refine Tri.cond (b := decide ((w64 (a1 - (a0.length : Int))) < 0)) rfl (fun g_1 => ?_) (fun g_1 => ?_)
  · replace h := if_tt g_1 h
    refine Tri.seq ?_
    refine Tri.reg (l := [0]) rfl ?_
    refine F.q rfl rfl rfl (wanted_none rfl) (r_assign rfl) ?_
    refine F.nil ?_
    refine Nrm.seq ?_
    refine Tri.ret ?_
    refine Rtn.then ?_
    cases h
    exact Rtn.body (.tmp rfl .nil) (fun w hw => ⟨rfl, hw.ext⟩)
  · replace h := if_ff g_1 h
    refine Tri.skip ?_
    refine Nrm.seq ?_
    refine Tri.seq ?_
    refine Tri.reg (l := [0, 1]) rfl ?_
    refine F.q rfl rfl rfl (wanted_none rfl) (r_move rfl) ?_
    refine F.q rfl rfl rfl (wanted_none rfl) (r_assign rfl) ?_
    refine F.nil ?_
    refine Nrm.seq ?_
    refine Tri.ret ?_
    cases h
    exact Rtn.body (.tmp rfl .nil) (fun w hw => ⟨rfl, hw.ext⟩)

end Go.Proofs

/- loop.example/g01158/laws.szIntA3S -/

namespace Go.Proofs
open Go Go.Ga
set_option linter.unusedVariables false
set_option maxRecDepth 100000
set_option maxHeartbeats 4000000
def laws_szIntA3S.f (k : Nat) (a0 : List (Int × Int × Int)) (a1 : Int) : Option (Int) := (if (decide ((w64 (a1 - (a0.length : Int))) < 0)) = true then some (-1) else some (w64 (a1 - (a0.length : Int))))

theorem laws_szIntA3S.ok {k : Nat}  {a0 : List (Int × Int × Int)} {a1 : Int} {r0 : Int} (h : laws_szIntA3S.f k a0 a1 = some r0) (w : World) {va0 : Value} (hr_a0 : Rd w va0 a0) :
    Calls Try.prog 134 ([va0, .int .i64 a1] : List Value).toArray w (fun e w' => e = .returned (.int .i64 r0) ∧ Ext w w') := by
  unfold laws_szIntA3S.f at h
  have hl_va0 := hr_a0.len
  refine Calls.of_tri (N := 12) Try.func134 rfl rfl rfl (Sep.nil (M := noM)) ?_
  refine Tri.seq ?_
  refine Tri.reg (l := [0]) rfl ?_
  refine F.q rfl rfl rfl (wanted_none rfl) (r_assign rfl) ?_
  refine F.nil ?_
  refine Nrm.seq ?_
  refine Tri.seq ?_
  refine Tri.reg (l := [0, 1, 2, 3, 4]) rfl ?_
  refine F.q rfl rfl rfl (wanted_none rfl) (r_move rfl) ?_
  refine F.q rfl rfl rfl (wanted_none rfl) (r_move rfl) ?_
  refine F.q rfl rfl rfl (wanted_none rfl) (r_len Try.underlying49 rfl hl_va0) ?_
  refine F.q rfl rfl rfl (wanted_none rfl) (r_sub rfl rfl) ?_
  refine F.q rfl rfl rfl (wanted_none rfl) (r_assign rfl) ?_
  refine F.nil ?_
  refine Nrm.seq ?_
  refine Tri.seq ?_
  refine Tri.seq ?_
  refine Tri.reg (l := [0, 1]) rfl ?_
  refine F.q rfl rfl rfl (wanted_none rfl) (r_move rfl) ?_
  refine F.q rfl rfl rfl (wanted_none rfl) (r_lss rfl rfl) ?_
  refine F.nil ?_
  refine Nrm.seq ?_
  refine Tri.cond (b := decide ((w64 (a1 - (a0.length : Int))) < 0)) rfl (fun g_1 => ?_) (fun g_1 => ?_)
  · replace h := if_tt g_1 h
    refine Tri.seq ?_
    refine Tri.reg (l := [0]) rfl ?_
    refine F.q rfl rfl rfl (wanted_none rfl) (r_assign rfl) ?_
    refine F.nil ?_
    refine Nrm.seq ?_
    refine Tri.ret ?_
    refine Rtn.then ?_
    cases h
    exact Rtn.body (.tmp rfl .nil) (fun w hw => ⟨rfl, hw.ext⟩)
  · replace h := if_ff g_1 h
    refine Tri.skip ?_
    refine Nrm.seq ?_
    refine Tri.seq ?_
    refine Tri.reg (l := [0, 1]) rfl ?_
    refine F.q rfl rfl rfl (wanted_none rfl) (r_move rfl) ?_
    refine F.q rfl rfl rfl (wanted_none rfl) (r_assign rfl) ?_
    refine F.nil ?_
    refine Nrm.seq ?_
    refine Tri.ret ?_
    cases h
    exact Rtn.body (.tmp rfl .nil) (fun w hw => ⟨rfl, hw.ext⟩)

end Go.Proofs

/- loop.example/g01158/laws.szMaze -/
namespace Go.Proofs
open Go Go.Ga
set_option linter.unusedVariables false
set_option maxRecDepth 100000
set_option maxHeartbeats 4000000
def laws_szMaze.f (k : Nat) (a0_0 : Int) (a0_1 : List (Int × Int × Int)) (a0_2 : List Int) (a1 : Int) : Option (Int) := (laws_szIntA3S.f k a0_1 a1).bind fun t8 => (if (decide (t8 < 0)) = true then some (-1) else (laws_szIntS.f k a0_2 t8).bind fun t14 => (if (decide (t14 < 0)) = true then some (-1) else some t14))

theorem laws_szMaze.ok {k : Nat}  {a0_0 : Int} {a0_1 : List (Int × Int × Int)} {a0_2 : List Int} {a1 : Int} {r0 : Int} (h : laws_szMaze.f k a0_0 a0_1 a0_2 a1 = some r0) (w : World) {va0_1 : Value} {va0_2 : Value} (hr_a0_1 : Rd w va0_1 a0_1) (hr_a0_2 : Rd w va0_2 a0_2) :
    Calls Try.prog 81 ([.agg ([.int .i64 a0_0, va0_1, va0_2].toArray), .int .i64 a1] : List Value).toArray w (fun e w' => e = .returned (.int .i64 r0) ∧ Ext w w') := by
  unfold laws_szMaze.f at h
  have hl_va0_1 := hr_a0_1.len
  have hl_va0_2 := hr_a0_2.len
  refine Calls.of_tri (N := 18) Try.func81 rfl rfl rfl (Sep.nil (M := noM)) ?_
  refine Tri.seq ?_
  refine Tri.reg (l := [0, 1]) rfl ?_
  refine F.m rfl rfl rfl (wanted_none rfl) (m_boxG rfl rfl) ?_
  rintro _ _ ⟨b2_1, rfl, rfl⟩
  refine F.q rfl rfl rfl (wanted_none rfl) (r_assign rfl) ?_
  refine F.nil ?_
  refine Nrm.seq ?_
  refine Tri.seq ?_
  obtain ⟨t8, h8, h⟩ := bind_some h
  refine Tri.reg (l := [0, 1, 2, 3, 4]) rfl ?_
  refine F.q rfl rfl rfl (wanted_none rfl) (r_fieldAddr tf51_1 rfl) ?_
  refine F.q rfl rfl rfl (wanted_none rfl) (r_load ta49 rfl (fun w hw => cell_1 (box_cells (i := 0) rfl w hw) rfl)) ?_
  refine F.q rfl rfl rfl (wanted_none rfl) (r_move rfl) ?_
  refine F.qc rfl rfl rfl (wanted_none rfl) (q_callF (xs := _) rfl ok134 rfl rfl (fun w hw => laws_szIntA3S.ok h8 w ((fun _ hw => hr_a0_1.sep hw) w hw))) ?_
  refine F.q rfl rfl rfl (wanted_none rfl) (r_assign rfl) ?_
  refine F.nil ?_
  refine Nrm.seq ?_
  refine Tri.seq ?_
  refine Tri.seq ?_
  refine Tri.reg (l := [0, 1]) rfl ?_
  refine F.q rfl rfl rfl (wanted_none rfl) (r_move rfl) ?_
  refine F.q rfl rfl rfl (wanted_none rfl) (r_lss rfl rfl) ?_
  refine F.nil ?_
  refine Nrm.seq ?_
  refine Tri.cond (b := decide (t8 < 0)) rfl (fun g_1 => ?_) (fun g_1 => ?_)
  · replace h := if_tt g_1 h
    refine Tri.seq ?_
    refine Tri.reg (l := [0]) rfl ?_
    refine F.q rfl rfl rfl (wanted_none rfl) (r_assign rfl) ?_
    refine F.nil ?_
    refine Nrm.seq ?_
    refine Tri.ret ?_
    refine Rtn.then ?_
    cases h
    exact Rtn.body (.tmp rfl .nil) (fun w hw => ⟨rfl, hw.ext⟩)
  · replace h := if_ff g_1 h
    refine Tri.skip ?_
    refine Nrm.seq ?_
    refine Tri.seq ?_
    obtain ⟨t14, h14, h⟩ := bind_some h
    refine Tri.reg (l := [0, 1, 2, 3, 4]) rfl ?_
    refine F.q rfl rfl rfl (wanted_none rfl) (r_fieldAddr tf51_2 rfl) ?_
    refine F.q rfl rfl rfl (wanted_none rfl) (r_load ta38 rfl (fun w hw => cell_1 (box_cells (i := 0) rfl w hw) rfl)) ?_
    refine F.q rfl rfl rfl (wanted_none rfl) (r_move rfl) ?_
    refine F.qc rfl rfl rfl (wanted_none rfl) (q_callF (xs := _) rfl ok82 rfl rfl (fun w hw => laws_szIntS.ok h14 w ((fun _ hw => hr_a0_2.sep hw) w hw))) ?_
    refine F.q rfl rfl rfl (wanted_none rfl) (r_assign rfl) ?_
    refine F.nil ?_
    refine Nrm.seq ?_
    refine Tri.seq ?_
    refine Tri.seq ?_
    refine Tri.reg (l := [0, 1]) rfl ?_
    refine F.q rfl rfl rfl (wanted_none rfl) (r_move rfl) ?_
    refine F.q rfl rfl rfl (wanted_none rfl) (r_lss rfl rfl) ?_
    refine F.nil ?_
    refine Nrm.seq ?_
    refine Tri.cond (b := decide (t14 < 0)) rfl (fun g_2 => ?_) (fun g_2 => ?_)
    · replace h := if_tt g_2 h
      refine Tri.seq ?_
      refine Tri.reg (l := [0]) rfl ?_
      refine F.q rfl rfl rfl (wanted_none rfl) (r_assign rfl) ?_
      refine F.nil ?_
      refine Nrm.seq ?_
      refine Tri.ret ?_
      refine Rtn.then ?_
      cases h
      exact Rtn.body (.tmp rfl .nil) (fun w hw => ⟨rfl, hw.ext⟩)
    · replace h := if_ff g_2 h
      refine Tri.skip ?_
      refine Nrm.seq ?_
      refine Tri.seq ?_
      refine Tri.reg (l := [0, 1]) rfl ?_
      refine F.q rfl rfl rfl (wanted_none rfl) (r_move rfl) ?_
      refine F.q rfl rfl rfl (wanted_none rfl) (r_assign rfl) ?_
      refine F.nil ?_
      refine Nrm.seq ?_
      refine Tri.ret ?_
      cases h
      exact Rtn.body (.tmp rfl .nil) (fun w hw => ⟨rfl, hw.ext⟩)

end Go.Proofs

/- loop.example/g01158/laws.szMazeS -/
namespace Go.Proofs
open Go Go.Ga
set_option linter.unusedVariables false
set_option maxRecDepth 100000
set_option maxHeartbeats 4000000
def laws_szMazeS.l0 (k : Nat) (a0 : List (Int × List (Int × Int × Int) × List Int)) : Nat → Int → Int → Option ((Int) ⊕ (Int))
  | 0, _, _ => none
  | n + 1, x1, x5 => (if (decide (x5 < (a0.length : Int))) = true then (rdl a0 x5).bind fun t20 => (laws_szMaze.f k t20.1 t20.2.1 t20.2.2 x1).bind fun t23 => (if (decide (t23 < 0)) = true then some (Sum.inr (-1)) else laws_szMazeS.l0 k a0 n t23 (w64 (x5 + 1))) else some (Sum.inl x1))

def laws_szMazeS.f (k : Nat) (a0 : List (Int × List (Int × Int × Int) × List Int)) (a1 : Int) : Option (Int) := (if (decide ((w64 (a1 - (a0.length : Int))) < 0)) = true then some (-1) else (laws_szMazeS.l0 k a0 k (w64 (a1 - (a0.length : Int))) 0).bind fun s => Lr s some fun x1 => some x1)

theorem laws_szMazeS.ok {k : Nat}  {a0 : List (Int × List (Int × Int × Int) × List Int)} {a1 : Int} {r0 : Int} (h : laws_szMazeS.f k a0 a1 = some r0) (w : World) {va0 : Value} (hr_a0 : Rd w va0 a0) :
    Calls Try.prog 59 ([va0, .int .i64 a1] : List Value).toArray w (fun e w' => e = .returned (.int .i64 r0) ∧ Ext w w') := by
  unfold laws_szMazeS.f at h
  have hl_va0 := hr_a0.len
  refine Calls.of_tri (N := 27) Try.func59 rfl rfl rfl (Sep.nil (M := noM)) ?_
  refine Tri.seq ?_
  refine Tri.reg (l := [0]) rfl ?_
  refine F.q rfl rfl rfl (wanted_none rfl) (r_assign rfl) ?_
  refine F.nil ?_
  refine Nrm.seq ?_
  refine Tri.seq ?_
  refine Tri.reg (l := [0, 1, 2, 3, 4]) rfl ?_
  refine F.q rfl rfl rfl (wanted_none rfl) (r_move rfl) ?_
  refine F.q rfl rfl rfl (wanted_none rfl) (r_move rfl) ?_
  refine F.q rfl rfl rfl (wanted_none rfl) (r_len Try.underlying22 rfl hl_va0) ?_
  refine F.q rfl rfl rfl (wanted_none rfl) (r_sub rfl rfl) ?_
  refine F.q rfl rfl rfl (wanted_none rfl) (r_assign rfl) ?_
  refine F.nil ?_
  refine Nrm.seq ?_
  refine Tri.seq ?_
  refine Tri.seq ?_
  refine Tri.reg (l := [0, 1]) rfl ?_
  refine F.q rfl rfl rfl (wanted_none rfl) (r_move rfl) ?_
  refine F.q rfl rfl rfl (wanted_none rfl) (r_lss rfl rfl) ?_
  refine F.nil ?_
  refine Nrm.seq ?_
  refine Tri.cond (b := decide ((w64 (a1 - (a0.length : Int))) < 0)) rfl (fun g_1 => ?_) (fun g_1 => ?_)
  · replace h := if_tt g_1 h
    refine Tri.seq ?_
    refine Tri.reg (l := [0]) rfl ?_
    refine F.q rfl rfl rfl (wanted_none rfl) (r_assign rfl) ?_
    refine F.nil ?_
    refine Nrm.seq ?_
    refine Tri.ret ?_
    refine Rtn.then ?_
    cases h
    exact Rtn.body (.tmp rfl .nil) (fun w hw => ⟨rfl, hw.ext⟩)
  · replace h := if_ff g_1 h
    refine Tri.skip ?_
    refine Nrm.seq ?_
    refine Tri.seq ?_
    refine Tri.seq ?_
    refine Tri.reg (l := [0]) rfl ?_
    refine F.q rfl rfl rfl (wanted_none rfl) (r_assign rfl) ?_
    refine F.nil ?_
    refine Nrm.seq ?_
    obtain ⟨s0, hE_1, h⟩ := bind_some h
    refine Tri.block ?_
    refine Tri.only [0, 1, 5] rfl ?_
    refine Tri.pick [] rfl rfl ?_
    refine Tri.rounds (fun n e' C' => ∃ (x1' : Int) (x5' : Int), laws_szMazeS.l0 k a0 n x1' x5' = some s0 ∧ e' = [(0, va0), (1, .int .i64 x1'), (5, .int .i64 x5')] ∧ C' = Sep w noM []) k ?_ ?_ ?_
    · exact ⟨w64 (a1 - (a0.length : Int)), 0, hE_1, rfl, rfl⟩
    · rintro _ _ ⟨_, _, hE_1, _⟩
      rw [laws_szMazeS.l0.eq_1] at hE_1; cases hE_1
    · rintro n_1 _ _ ⟨x1, x5, hE_1, rfl, rfl⟩ ih_1
      rw [laws_szMazeS.l0.eq_2] at hE_1
      refine Tri.seq ?_
      refine Tri.seq ?_
      refine Tri.reg (l := [0, 1, 2, 3]) rfl ?_
      refine F.q rfl rfl rfl (wanted_none rfl) (r_move rfl) ?_
      refine F.q rfl rfl rfl (wanted_none rfl) (r_move rfl) ?_
      refine F.q rfl rfl rfl (wanted_none rfl) (r_len Try.underlying22 rfl hl_va0) ?_
      refine F.q rfl rfl rfl (wanted_none rfl) (r_lss rfl rfl) ?_
      refine F.nil ?_
      refine Nrm.seq ?_
      refine Tri.cond (b := decide (x5 < (a0.length : Int))) rfl (fun g_2 => ?_) (fun g_2 => ?_)
      · replace hE_1 := if_tt g_2 hE_1
        refine Tri.skip ?_
        refine Nrm.seq ?_
        refine Tri.seq ?_
        refine Tri.block ?_
        refine Tri.seq ?_
        obtain ⟨t20, h20, hE_1⟩ := bind_some hE_1
        obtain ⟨_, hc20, hp20⟩ := Rd.elem hr_a0 (rdl_some h20).2.2
        obtain ⟨v20_1, v20_2, rfl, hr_v20_1, hr_v20_2⟩ := op51 hp20
        have hl_v20_1 := hr_v20_1.len
        have hl_v20_2 := hr_v20_2.len
        obtain ⟨t23, h23, hE_1⟩ := bind_some hE_1
        refine Tri.reg (l := [0, 1, 2, 3, 4, 5, 6]) rfl ?_
        refine F.q rfl rfl rfl (wanted_none rfl) (r_move rfl) ?_
        refine F.q rfl rfl rfl (wanted_none rfl) (r_move rfl) ?_
        refine F.q rfl rfl rfl (wanted_none rfl) (r_indexAddrS Try.underlying22 ti51 rfl hl_va0 rfl (rdl_some h20).1 (rdl_some h20).2.1) ?_
        refine F.q rfl rfl rfl (wanted_none rfl) (r_loadA ta51 ti51 rfl rfl (fun w hw => (hc20.sep hw))) ?_
        refine F.q rfl rfl rfl (wanted_none rfl) (r_move rfl) ?_
        refine F.qc rfl rfl rfl (wanted_none rfl) (q_callF (xs := _) rfl ok81 rfl rfl (fun w hw => laws_szMaze.ok h23 w ((fun _ hw => hr_v20_1.sep hw) w hw) ((fun _ hw => hr_v20_2.sep hw) w hw))) ?_
        refine F.q rfl rfl rfl (wanted_none rfl) (r_assign rfl) ?_
        refine F.nil ?_
        refine Nrm.seq ?_
        refine Tri.seq ?_
        refine Tri.reg (l := [0, 1]) rfl ?_
        refine F.q rfl rfl rfl (wanted_none rfl) (r_move rfl) ?_
        refine F.q rfl rfl rfl (wanted_none rfl) (r_lss rfl rfl) ?_
        refine F.nil ?_
        refine Nrm.seq ?_
        refine Tri.cond (b := decide (t23 < 0)) rfl (fun g_3 => ?_) (fun g_3 => ?_)
        · replace hE_1 := if_tt g_3 hE_1
          refine Tri.seq ?_
          refine Tri.reg (l := [0]) rfl ?_
          refine F.q rfl rfl rfl (wanted_none rfl) (r_assign rfl) ?_
          refine F.nil ?_
          refine Nrm.seq ?_
          refine Tri.ret ?_
          refine Rtn.block ?_
          refine Rtn.then ?_
          refine Rtn.then ?_
          refine Rtn.block ?_
          refine Rtn.then ?_
          cases hE_1
          replace h := Lr_inr h
          cases h
          exact Rtn.body (.tmp rfl .nil) (fun w hw => ⟨rfl, hw.ext⟩)
        · replace hE_1 := if_ff g_3 hE_1
          refine Tri.skip ?_
          refine Nrm.block ?_
          refine Nrm.seq ?_
          refine Tri.reg (l := [0, 1, 2]) rfl ?_
          refine F.q rfl rfl rfl (wanted_none rfl) (r_move rfl) ?_
          refine F.q rfl rfl rfl (wanted_none rfl) (r_add rfl rfl) ?_
          refine F.q rfl rfl rfl (wanted_none rfl) (r_assign rfl) ?_
          refine F.nil ?_
          refine Nrm.round ?_
          refine Rnd.only [0, 1, 5] rfl ?_
          refine Rnd.pick [] rfl rfl ?_
          exact ih_1 _ _ ⟨t23, w64 (x5 + 1), hE_1, rfl, rfl⟩
      · replace hE_1 := if_ff g_2 hE_1
        refine Tri.exit ?_
        refine Exi.then ?_
        refine Exi.then ?_
        refine Exi.same ?_
        cases hE_1
        replace h := Lr_inl h
        refine Nrm.seq ?_
        refine Tri.seq ?_
        refine Tri.reg (l := [0, 1]) rfl ?_
        refine F.q rfl rfl rfl (wanted_none rfl) (r_move rfl) ?_
        refine F.q rfl rfl rfl (wanted_none rfl) (r_assign rfl) ?_
        refine F.nil ?_
        refine Nrm.seq ?_
        refine Tri.ret ?_
        cases h
        exact Rtn.body (.tmp rfl .nil) (fun w hw => ⟨rfl, hw.ext⟩)

end Go.Proofs

/- loop.example/g01158/laws.szIntSS -/
namespace Go.Proofs
open Go Go.Ga
set_option linter.unusedVariables false
set_option maxRecDepth 100000
set_option maxHeartbeats 4000000
def laws_szIntSS.l0 (k : Nat) (a0 : List (List Int)) : Nat → Int → Int → Option ((Int) ⊕ (Int))
  | 0, _, _ => none
  | n + 1, x1, x5 => (if (decide (x5 < (a0.length : Int))) = true then (rdl a0 x5).bind fun t20 => (laws_szIntS.f k t20 x1).bind fun t23 => (if (decide (t23 < 0)) = true then some (Sum.inr (-1)) else laws_szIntSS.l0 k a0 n t23 (w64 (x5 + 1))) else some (Sum.inl x1))

def laws_szIntSS.f (k : Nat) (a0 : List (List Int)) (a1 : Int) : Option (Int) := (if (decide ((w64 (a1 - (a0.length : Int))) < 0)) = true then some (-1) else (laws_szIntSS.l0 k a0 k (w64 (a1 - (a0.length : Int))) 0).bind fun s => Lr s some fun x1 => some x1)

theorem laws_szIntSS.ok {k : Nat}  {a0 : List (List Int)} {a1 : Int} {r0 : Int} (h : laws_szIntSS.f k a0 a1 = some r0) (w : World) {va0 : Value} (hr_a0 : Rd w va0 a0) :
    Calls Try.prog 60 ([va0, .int .i64 a1] : List Value).toArray w (fun e w' => e = .returned (.int .i64 r0) ∧ Ext w w') := by
  unfold laws_szIntSS.f at h
  have hl_va0 := hr_a0.len
  refine Calls.of_tri (N := 27) Try.func60 rfl rfl rfl (Sep.nil (M := noM)) ?_
  refine Tri.seq ?_
  refine Tri.reg (l := [0]) rfl ?_
  refine F.q rfl rfl rfl (wanted_none rfl) (r_assign rfl) ?_
  refine F.nil ?_
  refine Nrm.seq ?_
  refine Tri.seq ?_
  refine Tri.reg (l := [0, 1, 2, 3, 4]) rfl ?_
  refine F.q rfl rfl rfl (wanted_none rfl) (r_move rfl) ?_
  refine F.q rfl rfl rfl (wanted_none rfl) (r_move rfl) ?_
  refine F.q rfl rfl rfl (wanted_none rfl) (r_len Try.underlying23 rfl hl_va0) ?_
  refine F.q rfl rfl rfl (wanted_none rfl) (r_sub rfl rfl) ?_
  refine F.q rfl rfl rfl (wanted_none rfl) (r_assign rfl) ?_
  refine F.nil ?_
  refine Nrm.seq ?_
  refine Tri.seq ?_
  refine Tri.seq ?_
  refine Tri.reg (l := [0, 1]) rfl ?_
  refine F.q rfl rfl rfl (wanted_none rfl) (r_move rfl) ?_
  refine F.q rfl rfl rfl (wanted_none rfl) (r_lss rfl rfl) ?_
  refine F.nil ?_
  refine Nrm.seq ?_
  refine Tri.cond (b := decide ((w64 (a1 - (a0.length : Int))) < 0)) rfl (fun g_1 => ?_) (fun g_1 => ?_)
  · replace h := if_tt g_1 h
    refine Tri.seq ?_
    refine Tri.reg (l := [0]) rfl ?_
    refine F.q rfl rfl rfl (wanted_none rfl) (r_assign rfl) ?_
    refine F.nil ?_
    refine Nrm.seq ?_
    refine Tri.ret ?_
    refine Rtn.then ?_
    cases h
    exact Rtn.body (.tmp rfl .nil) (fun w hw => ⟨rfl, hw.ext⟩)
  · replace h := if_ff g_1 h
    refine Tri.skip ?_
    refine Nrm.seq ?_
    refine Tri.seq ?_
    refine Tri.seq ?_
    refine Tri.reg (l := [0]) rfl ?_
    refine F.q rfl rfl rfl (wanted_none rfl) (r_assign rfl) ?_
    refine F.nil ?_
    refine Nrm.seq ?_
    obtain ⟨s0, hE_1, h⟩ := bind_some h
    refine Tri.block ?_
    refine Tri.only [0, 1, 5] rfl ?_
    refine Tri.pick [] rfl rfl ?_
    refine Tri.rounds (fun n e' C' => ∃ (x1' : Int) (x5' : Int), laws_szIntSS.l0 k a0 n x1' x5' = some s0 ∧ e' = [(0, va0), (1, .int .i64 x1'), (5, .int .i64 x5')] ∧ C' = Sep w noM []) k ?_ ?_ ?_
    · exact ⟨w64 (a1 - (a0.length : Int)), 0, hE_1, rfl, rfl⟩
    · rintro _ _ ⟨_, _, hE_1, _⟩
      rw [laws_szIntSS.l0.eq_1] at hE_1; cases hE_1
    · rintro n_1 _ _ ⟨x1, x5, hE_1, rfl, rfl⟩ ih_1
      rw [laws_szIntSS.l0.eq_2] at hE_1
      refine Tri.seq ?_
      refine Tri.seq ?_
      refine Tri.reg (l := [0, 1, 2, 3]) rfl ?_
      refine F.q rfl rfl rfl (wanted_none rfl) (r_move rfl) ?_
      refine F.q rfl rfl rfl (wanted_none rfl) (r_move rfl) ?_
      refine F.q rfl rfl rfl (wanted_none rfl) (r_len Try.underlying23 rfl hl_va0) ?_
      refine F.q rfl rfl rfl (wanted_none rfl) (r_lss rfl rfl) ?_
      refine F.nil ?_
      refine Nrm.seq ?_
      refine Tri.cond (b := decide (x5 < (a0.length : Int))) rfl (fun g_2 => ?_) (fun g_2 => ?_)
      · replace hE_1 := if_tt g_2 hE_1
        refine Tri.skip ?_
        refine Nrm.seq ?_
        refine Tri.seq ?_
        refine Tri.block ?_
        refine Tri.seq ?_
        obtain ⟨t20, h20, hE_1⟩ := bind_some hE_1
        obtain ⟨_, hc20, hp20⟩ := Rd.elem hr_a0 (rdl_some h20).2.2
        obtain ⟨v20_0, rfl, hr_v20_0⟩ := op38 hp20
        have hl_v20_0 := hr_v20_0.len
        obtain ⟨t23, h23, hE_1⟩ := bind_some hE_1
        refine Tri.reg (l := [0, 1, 2, 3, 4, 5, 6]) rfl ?_
        refine F.q rfl rfl rfl (wanted_none rfl) (r_move rfl) ?_
        refine F.q rfl rfl rfl (wanted_none rfl) (r_move rfl) ?_
        refine F.q rfl rfl rfl (wanted_none rfl) (r_indexAddrS Try.underlying23 ti38 rfl hl_va0 rfl (rdl_some h20).1 (rdl_some h20).2.1) ?_
        refine F.q rfl rfl rfl (wanted_none rfl) (r_load ta38 rfl (fun w hw => cell_0 (hc20.sep hw) rfl)) ?_
        refine F.q rfl rfl rfl (wanted_none rfl) (r_move rfl) ?_
        refine F.qc rfl rfl rfl (wanted_none rfl) (q_callF (xs := _) rfl ok82 rfl rfl (fun w hw => laws_szIntS.ok h23 w ((fun _ hw => hr_v20_0.sep hw) w hw))) ?_
        refine F.q rfl rfl rfl (wanted_none rfl) (r_assign rfl) ?_
        refine F.nil ?_
        refine Nrm.seq ?_
        refine Tri.seq ?_
        refine Tri.reg (l := [0, 1]) rfl ?_
        refine F.q rfl rfl rfl (wanted_none rfl) (r_move rfl) ?_
        refine F.q rfl rfl rfl (wanted_none rfl) (r_lss rfl rfl) ?_
        refine F.nil ?_
        refine Nrm.seq ?_
        refine Tri.cond (b := decide (t23 < 0)) rfl (fun g_3 => ?_) (fun g_3 => ?_)
        · replace hE_1 := if_tt g_3 hE_1
          refine Tri.seq ?_
          refine Tri.reg (l := [0]) rfl ?_
          refine F.q rfl rfl rfl (wanted_none rfl) (r_assign rfl) ?_
          refine F.nil ?_
          refine Nrm.seq ?_
          refine Tri.ret ?_
          refine Rtn.block ?_
          refine Rtn.then ?_
          refine Rtn.then ?_
          refine Rtn.block ?_
          refine Rtn.then ?_
          cases hE_1
          replace h := Lr_inr h
          cases h
          exact Rtn.body (.tmp rfl .nil) (fun w hw => ⟨rfl, hw.ext⟩)
        · replace hE_1 := if_ff g_3 hE_1
          refine Tri.skip ?_
          refine Nrm.block ?_
          refine Nrm.seq ?_
          refine Tri.reg (l := [0, 1, 2]) rfl ?_
          refine F.q rfl rfl rfl (wanted_none rfl) (r_move rfl) ?_
          refine F.q rfl rfl rfl (wanted_none rfl) (r_add rfl rfl) ?_
          refine F.q rfl rfl rfl (wanted_none rfl) (r_assign rfl) ?_
          refine F.nil ?_
          refine Nrm.round ?_
          refine Rnd.only [0, 1, 5] rfl ?_
          refine Rnd.pick [] rfl rfl ?_
          exact ih_1 _ _ ⟨t23, w64 (x5 + 1), hE_1, rfl, rfl⟩
      · replace hE_1 := if_ff g_2 hE_1
        refine Tri.exit ?_
        refine Exi.then ?_
        refine Exi.then ?_
        refine Exi.same ?_
        cases hE_1
        replace h := Lr_inl h
        refine Nrm.seq ?_
        refine Tri.seq ?_
        refine Tri.reg (l := [0, 1]) rfl ?_
        refine F.q rfl rfl rfl (wanted_none rfl) (r_move rfl) ?_
        refine F.q rfl rfl rfl (wanted_none rfl) (r_assign rfl) ?_
        refine F.nil ?_
        refine Nrm.seq ?_
        refine Tri.ret ?_
        cases h
        exact Rtn.body (.tmp rfl .nil) (fun w hw => ⟨rfl, hw.ext⟩)

end Go.Proofs

/- loop.example/g01158/laws.szWorlds -/
namespace Go.Proofs
open Go Go.Ga
set_option linter.unusedVariables false
set_option maxRecDepth 100000
set_option maxHeartbeats 4000000
def laws_szWorlds.f (k : Nat) (a0_0 : List (Int × List (Int × Int × Int) × List Int)) (a0_1 : List (List Int)) (a1 : Int) : Option (Int) := (laws_szMazeS.f k a0_0 a1).bind fun t8 => (if (decide (t8 < 0)) = true then some (-1) else (laws_szIntSS.f k a0_1 t8).bind fun t14 => (if (decide (t14 < 0)) = true then some (-1) else some t14))

theorem laws_szWorlds.ok {k : Nat}  {a0_0 : List (Int × List (Int × Int × Int) × List Int)} {a0_1 : List (List Int)} {a1 : Int} {r0 : Int} (h : laws_szWorlds.f k a0_0 a0_1 a1 = some r0) (w : World) {va0_0 : Value} {va0_1 : Value} (hr_a0_0 : Rd w va0_0 a0_0) (hr_a0_1 : Rd w va0_1 a0_1) :
    Calls Try.prog 15 ([.agg ([va0_0, va0_1].toArray), .int .i64 a1] : List Value).toArray w (fun e w' => e = .returned (.int .i64 r0) ∧ Ext w w') := by
  unfold laws_szWorlds.f at h
  have hl_va0_0 := hr_a0_0.len
  have hl_va0_1 := hr_a0_1.len
  refine Calls.of_tri (N := 18) Try.func15 rfl rfl rfl (Sep.nil (M := noM)) ?_
  refine Tri.seq ?_
  refine Tri.reg (l := [0, 1]) rfl ?_
  refine F.m rfl rfl rfl (wanted_none rfl) (m_boxG rfl rfl) ?_
  rintro _ _ ⟨b2_1, rfl, rfl⟩
  refine F.q rfl rfl rfl (wanted_none rfl) (r_assign rfl) ?_
  refine F.nil ?_
  refine Nrm.seq ?_
  refine Tri.seq ?_
  obtain ⟨t8, h8, h⟩ := bind_some h
  refine Tri.reg (l := [0, 1, 2, 3, 4]) rfl ?_
  refine F.q rfl rfl rfl (wanted_none rfl) (r_fieldAddr tf25_0 rfl) ?_
  refine F.q rfl rfl rfl (wanted_none rfl) (r_load ta22 rfl (fun w hw => cell_1 (box_cells (i := 0) rfl w hw) rfl)) ?_
  refine F.q rfl rfl rfl (wanted_none rfl) (r_move rfl) ?_
  refine F.qc rfl rfl rfl (wanted_none rfl) (q_callF (xs := _) rfl ok59 rfl rfl (fun w hw => laws_szMazeS.ok h8 w ((fun _ hw => hr_a0_0.sep hw) w hw))) ?_
  refine F.q rfl rfl rfl (wanted_none rfl) (r_assign rfl) ?_
  refine F.nil ?_
  refine Nrm.seq ?_
  refine Tri.seq ?_
  refine Tri.seq ?_
  refine Tri.reg (l := [0, 1]) rfl ?_
  refine F.q rfl rfl rfl (wanted_none rfl) (r_move rfl) ?_
  refine F.q rfl rfl rfl (wanted_none rfl) (r_lss rfl rfl) ?_
  refine F.nil ?_
  refine Nrm.seq ?_
  refine Tri.cond (b := decide (t8 < 0)) rfl (fun g_1 => ?_) (fun g_1 => ?_)
  · replace h := if_tt g_1 h
    refine Tri.seq ?_
    refine Tri.reg (l := [0]) rfl ?_
    refine F.q rfl rfl rfl (wanted_none rfl) (r_assign rfl) ?_
    refine F.nil ?_
    refine Nrm.seq ?_
    refine Tri.ret ?_
    refine Rtn.then ?_
    cases h
    exact Rtn.body (.tmp rfl .nil) (fun w hw => ⟨rfl, hw.ext⟩)
  · replace h := if_ff g_1 h
    refine Tri.skip ?_
    refine Nrm.seq ?_
    refine Tri.seq ?_
    obtain ⟨t14, h14, h⟩ := bind_some h
    refine Tri.reg (l := [0, 1, 2, 3, 4]) rfl ?_
    refine F.q rfl rfl rfl (wanted_none rfl) (r_fieldAddr tf25_1 rfl) ?_
    refine F.q rfl rfl rfl (wanted_none rfl) (r_load ta23 rfl (fun w hw => cell_1 (box_cells (i := 0) rfl w hw) rfl)) ?_
    refine F.q rfl rfl rfl (wanted_none rfl) (r_move rfl) ?_
    refine F.qc rfl rfl rfl (wanted_none rfl) (q_callF (xs := _) rfl ok60 rfl rfl (fun w hw => laws_szIntSS.ok h14 w ((fun _ hw => hr_a0_1.sep hw) w hw))) ?_
    refine F.q rfl rfl rfl (wanted_none rfl) (r_assign rfl) ?_
    refine F.nil ?_
    refine Nrm.seq ?_
    refine Tri.seq ?_
    refine Tri.seq ?_
    refine Tri.reg (l := [0, 1]) rfl ?_
    refine F.q rfl rfl rfl (wanted_none rfl) (r_move rfl) ?_
    refine F.q rfl rfl rfl (wanted_none rfl) (r_lss rfl rfl) ?_
    refine F.nil ?_
    refine Nrm.seq ?_
    refine Tri.cond (b := decide (t14 < 0)) rfl (fun g_2 => ?_) (fun g_2 => ?_)
    · replace h := if_tt g_2 h
      refine Tri.seq ?_
      refine Tri.reg (l := [0]) rfl ?_
      refine F.q rfl rfl rfl (wanted_none rfl) (r_assign rfl) ?_
      refine F.nil ?_
      refine Nrm.seq ?_
      refine Tri.ret ?_
      refine Rtn.then ?_
      cases h
      exact Rtn.body (.tmp rfl .nil) (fun w hw => ⟨rfl, hw.ext⟩)
    · replace h := if_ff g_2 h
      refine Tri.skip ?_
      refine Nrm.seq ?_
      refine Tri.seq ?_
      refine Tri.reg (l := [0, 1]) rfl ?_
      refine F.q rfl rfl rfl (wanted_none rfl) (r_move rfl) ?_
      refine F.q rfl rfl rfl (wanted_none rfl) (r_assign rfl) ?_
      refine F.nil ?_
      refine Nrm.seq ?_
      refine Tri.ret ?_
      cases h
      exact Rtn.body (.tmp rfl .nil) (fun w hw => ⟨rfl, hw.ext⟩)

end Go.Proofs

/- loop.example/g01158/laws.toIntS -/

namespace Go.Proofs
open Go Go.Ga
set_option linter.unusedVariables false
set_option maxRecDepth 100000
set_option maxHeartbeats 4000000
def laws_toIntS.l0 (k : Nat) (a0 : List Int) : Nat → (List (Int)) → Int → Option ((List (Int)))
  | 0, _, _ => none
  | n + 1, x3, x4 => (if (decide (x4 < (a0.length : Int))) = true then (rdl a0 x4).bind fun t18 => (rdl x3 x4).bind fun t20 => laws_toIntS.l0 k a0 n (x3.set x4.toNat t18) (w64 (x4 + 1)) else some x3)

def laws_toIntS.f (k : Nat) (a0 : List Int) : Option ((List Int)) := if 0 ≤ (a0.length : Int) ∧ (a0.length : Int) < 1099511627776 then (laws_toIntS.l0 k a0 k (List.replicate ((a0.length : Int)).toNat (0 : Int)) 0).bind fun x3 => some x3 else none

theorem laws_toIntS.ok {k : Nat}  {a0 : List Int} {r0 : List Int} (h : laws_toIntS.f k a0 = some r0) (w : World) {va0 : Value} (hr_a0 : Rd w va0 a0) :
    Calls Try.prog 32 ([va0] : List Value).toArray w (Post (fun u ns => ∃ (Sr0 : Nat → Prop), SlLen u r0.length ∧ ns = [R.sl Sr0 u r0]) w) := by
  unfold laws_toIntS.f at h
  have hl_va0 := hr_a0.len
  refine Calls.of_tri (N := 22) Try.func32 rfl rfl rfl (Sep.nil (M := noM)) ?_
  refine Tri.seq ?_
  refine Tri.reg (l := [0]) rfl ?_
  refine F.q rfl rfl rfl (wanted_none rfl) (r_assign rfl) ?_
  refine F.nil ?_
  refine Nrm.seq ?_
  refine Tri.seq ?_
  obtain ⟨hm7, h⟩ := ck h
  refine Tri.reg (l := [0, 1, 2, 3]) rfl ?_
  refine F.q rfl rfl rfl (wanted_none rfl) (r_move rfl) ?_
  refine F.q rfl rfl rfl (wanted_none rfl) (r_len Try.underlying38 rfl hl_va0) ?_
  refine F.m rfl rfl rfl (wanted_none rfl) (m_make (x0 := (0 : Int)) Try.underlying38 ti3 rfl rfl rfl hm7.1 hm7.2 (by decide)) ?_
  rintro v7_1 _ ⟨S7_1, hl_v7_1, rfl⟩
  refine F.q rfl rfl rfl (wanted_none rfl) (r_assign rfl) ?_
  refine F.nil ?_
  refine Nrm.seq ?_
  refine Tri.seq ?_
  refine Tri.seq ?_
  refine Tri.reg (l := [0]) rfl ?_
  refine F.q rfl rfl rfl (wanted_none rfl) (r_assign rfl) ?_
  refine F.nil ?_
  refine Nrm.seq ?_
  obtain ⟨x3, hE_1, h⟩ := bind_some h
  refine Tri.block ?_
  refine Tri.only [0, 3, 4] rfl ?_
  refine Tri.pick [0] rfl rfl ?_
  refine Tri.rounds (fun n e' C' => ∃ (x3' : List (Int)) (x4' : Int), laws_toIntS.l0 k a0 n x3' x4' = some x3 ∧ SlLen v7_1 (x3').length ∧ e' = [(0, va0), (3, v7_1), (4, .int .i64 x4')] ∧ C' = Sep w noM [R.sl S7_1 v7_1 (x3' : List (Int))]) k ?_ ?_ ?_
  · exact ⟨List.replicate ((a0.length : Int)).toNat (0 : Int), 0, hE_1, hl_v7_1, rfl, rfl⟩
  · rintro _ _ ⟨_, _, hE_1, _⟩
    rw [laws_toIntS.l0.eq_1] at hE_1; cases hE_1
  · rintro n_1 _ _ ⟨x3, x4, hE_1, hl_x3, rfl, rfl⟩ ih_1
    rw [laws_toIntS.l0.eq_2] at hE_1
    refine Tri.seq ?_
    refine Tri.seq ?_
    refine Tri.reg (l := [0, 1, 2, 3]) rfl ?_
    refine F.q rfl rfl rfl (wanted_none rfl) (r_move rfl) ?_
    refine F.q rfl rfl rfl (wanted_none rfl) (r_move rfl) ?_
    refine F.q rfl rfl rfl (wanted_none rfl) (r_len Try.underlying38 rfl hl_va0) ?_
    refine F.q rfl rfl rfl (wanted_none rfl) (r_lss rfl rfl) ?_
    refine F.nil ?_
    refine Nrm.seq ?_
    refine Tri.cond (b := decide (x4 < (a0.length : Int))) rfl (fun g_1 => ?_) (fun g_1 => ?_)
    · replace hE_1 := if_tt g_1 hE_1
      refine Tri.skip ?_
      refine Nrm.seq ?_
      refine Tri.seq ?_
      refine Tri.block ?_
      obtain ⟨t18, h18, hE_1⟩ := bind_some hE_1
      obtain ⟨t20, h20, hE_1⟩ := bind_some hE_1
      refine Tri.reg (l := [0, 1, 2, 3, 4, 5, 6, 7]) rfl ?_
      refine F.q rfl rfl rfl (wanted_none rfl) (r_move rfl) ?_
      refine F.q rfl rfl rfl (wanted_none rfl) (r_move rfl) ?_
      refine F.q rfl rfl rfl (wanted_none rfl) (r_move rfl) ?_
      refine F.q rfl rfl rfl (wanted_none rfl) (r_move rfl) ?_
      refine F.q rfl rfl rfl (wanted_none rfl) (r_indexAddrS Try.underlying38 ti3 rfl hl_va0 rfl (rdl_some h18).1 (rdl_some h18).2.1) ?_
      refine F.q rfl rfl rfl (wanted_none rfl) (r_load ta3 rfl (fun w hw => cell_0 (Rd.flat ((fun _ hw => hr_a0.sep hw) w hw) (rdl_some h18).2.2) rfl)) ?_
      refine F.q rfl rfl rfl (wanted_none rfl) (r_indexAddrS Try.underlying38 ti3 rfl hl_x3 rfl (rdl_some h20).1 (rdl_some h20).2.1) ?_
      refine F.ef0 rfl rfl (wanted_none rfl) (d_storeE (i := 0) (x1 := t18) ti3 rfl rfl rfl (rdl_some h20) rfl) ?_
      rintro _ _ ⟨rfl, rfl⟩
      refine F.nil ?_
      refine Nrm.block ?_
      refine Nrm.seq ?_
      refine Tri.reg (l := [0, 1, 2]) rfl ?_
      refine F.q rfl rfl rfl (wanted_none rfl) (r_move rfl) ?_
      refine F.q rfl rfl rfl (wanted_none rfl) (r_add rfl rfl) ?_
      refine F.q rfl rfl rfl (wanted_none rfl) (r_assign rfl) ?_
      refine F.nil ?_
      refine Nrm.round ?_
      refine Rnd.only [0, 3, 4] rfl ?_
      refine Rnd.pick [0] rfl rfl ?_
      exact ih_1 _ _ ⟨x3.set x4.toNat t18, w64 (x4 + 1), hE_1, (len_set hl_x3), rfl, rfl⟩
    · replace hE_1 := if_ff g_1 hE_1
      refine Tri.exit ?_
      refine Exi.then ?_
      refine Exi.then ?_
      refine Exi.same ?_
      cases hE_1
      refine Nrm.seq ?_
      refine Tri.seq ?_
      refine Tri.reg (l := [0, 1]) rfl ?_
      refine F.q rfl rfl rfl (wanted_none rfl) (r_move rfl) ?_
      refine F.q rfl rfl rfl (wanted_none rfl) (r_assign rfl) ?_
      refine F.nil ?_
      refine Nrm.seq ?_
      refine Tri.ret ?_
      cases h
      exact Rtn.body (.tmp rfl .nil) (fun w hw => ⟨_, _, rfl, ⟨S7_1, hl_x3, rfl⟩, Sep.pick (is := [0]) rfl rfl hw⟩)

end Go.Proofs

/- loop.example/g01158/laws.toIntA3 -/

namespace Go.Proofs
open Go Go.Ga
set_option linter.unusedVariables false
set_option maxRecDepth 100000
set_option maxHeartbeats 4000000
def laws_toIntA3.l0 (k : Nat) (a0_0 : Int) (a0_1 : Int) (a0_2 : Int) : Nat → Int → Int → Int → Int → Option (Int × Int × Int)
  | 0, _, _, _, _ => none
  | n + 1, x4, xb3_1_0, xb3_1_1, xb3_1_2 => (if (decide (x4 < 3)) = true then (rdl [a0_0, a0_1, a0_2] x4).bind fun t11 => (rdl [xb3_1_0, xb3_1_1, xb3_1_2] x4).bind fun t13 => laws_toIntA3.l0 k a0_0 a0_1 a0_2 n (w64 (x4 + 1)) (if x4 = 0 then t11 else xb3_1_0) (if x4 = 1 then t11 else xb3_1_1) (if x4 = 2 then t11 else xb3_1_2) else some (xb3_1_0, xb3_1_1, xb3_1_2))

def laws_toIntA3.f (k : Nat) (a0_0 : Int) (a0_1 : Int) (a0_2 : Int) : Option (Int × Int × Int) := (laws_toIntA3.l0 k a0_0 a0_1 a0_2 k 0 0 0 0).bind fun (xb3_1_0, xb3_1_1, xb3_1_2) => some (xb3_1_0, xb3_1_1, xb3_1_2)

theorem laws_toIntA3.ok {k : Nat}  {a0_0 : Int} {a0_1 : Int} {a0_2 : Int} {r0 : Int} {r1 : Int} {r2 : Int} (h : laws_toIntA3.f k a0_0 a0_1 a0_2 = some (r0, r1, r2)) (w : World) :
    Calls Try.prog 165 ([.agg ([.int .i64 a0_0, .int .i64 a0_1, .int .i64 a0_2].toArray)] : List Value).toArray w (fun e w' => e = .returned (.agg [.int .i64 r0, .int .i64 r1, .int .i64 r2].toArray) ∧ Ext w w') := by
  unfold laws_toIntA3.f at h
  refine Calls.of_tri (N := 15) Try.func165 rfl rfl rfl (Sep.nil (M := noM)) ?_
  refine Tri.seq ?_
  refine Tri.reg (l := [0, 1]) rfl ?_
  refine F.m rfl rfl rfl (wanted_none rfl) (m_boxG rfl rfl) ?_
  rintro _ _ ⟨b1_1, rfl, rfl⟩
  refine F.m rfl rfl rfl (wanted_none rfl) (m_alloc ti140) ?_
  rintro _ _ ⟨b2_1, rfl, rfl⟩
  refine F.nil ?_
  refine Nrm.seq ?_
  refine Tri.seq ?_
  refine Tri.reg (l := [0]) rfl ?_
  refine F.m rfl rfl rfl (wanted_none rfl) (m_alloc ti140) ?_
  rintro _ _ ⟨b3_1, rfl, rfl⟩
  refine F.nil ?_
  refine Nrm.seq ?_
  refine Tri.seq ?_
  refine Tri.seq ?_
  refine Tri.reg (l := [0]) rfl ?_
  refine F.q rfl rfl rfl (wanted_none rfl) (r_assign rfl) ?_
  refine F.nil ?_
  refine Nrm.seq ?_
  obtain ⟨⟨xb3_1_0, xb3_1_1, xb3_1_2⟩, hE_1, h⟩ := bind_some h
  refine Tri.block ?_
  refine Tri.only [1, 2, 3, 4] rfl ?_
  refine Tri.pick [0, 1, 2] rfl rfl ?_
  refine Tri.rounds (fun n e' C' => ∃ (x4' : Int) (xb3_1_0' : Int) (xb3_1_1' : Int) (xb3_1_2' : Int), laws_toIntA3.l0 k a0_0 a0_1 a0_2 n x4' xb3_1_0' xb3_1_1' xb3_1_2' = some (xb3_1_0, xb3_1_1, xb3_1_2) ∧ e' = [(1, .pointer (some ⟨b1_1, 0, none⟩)), (2, .pointer (some ⟨b2_1, 0, none⟩)), (3, .pointer (some ⟨b3_1, 0, none⟩)), (4, .int .i64 x4')] ∧ C' = Sep w noM [R.box b3_1 140 [.int .i64 xb3_1_0', .int .i64 xb3_1_1', .int .i64 xb3_1_2'], R.box b2_1 140 [.int .i64 0, .int .i64 0, .int .i64 0], R.box b1_1 140 [.int .i64 a0_0, .int .i64 a0_1, .int .i64 a0_2]]) k ?_ ?_ ?_
  · exact ⟨0, 0, 0, 0, hE_1, rfl, rfl⟩
  · rintro _ _ ⟨_, _, _, _, hE_1, _⟩
    rw [laws_toIntA3.l0.eq_1] at hE_1; cases hE_1
  · rintro n_1 _ _ ⟨x4, xb3_1_0, xb3_1_1, xb3_1_2, hE_1, rfl, rfl⟩ ih_1
    rw [laws_toIntA3.l0.eq_2] at hE_1
    refine Tri.seq ?_
    refine Tri.seq ?_
    refine Tri.reg (l := [0, 1]) rfl ?_
    refine F.q rfl rfl rfl (wanted_none rfl) (r_move rfl) ?_
    refine F.q rfl rfl rfl (wanted_none rfl) (r_lss rfl rfl) ?_
    refine F.nil ?_
    refine Nrm.seq ?_
    refine Tri.cond (b := decide (x4 < 3)) rfl (fun g_1 => ?_) (fun g_1 => ?_)
    · replace hE_1 := if_tt g_1 hE_1
      refine Tri.skip ?_
      refine Nrm.seq ?_
      refine Tri.seq ?_
      refine Tri.block ?_
      obtain ⟨t11, h11, hE_1⟩ := bind_some hE_1
      obtain ⟨t13, h13, hE_1⟩ := bind_some hE_1
      refine Tri.reg (l := [0, 1, 2, 3, 4, 5]) rfl ?_
      refine F.q rfl rfl rfl (wanted_none rfl) (r_move rfl) ?_
      refine F.q rfl rfl rfl (wanted_none rfl) (r_move rfl) ?_
      refine F.q rfl rfl rfl (wanted_none rfl) (r_indexAddrA Try.underlying140 ti3 rfl rfl (rdl_some h11).1 (rdl_some h11).2.1) ?_
      refine F.q rfl rfl rfl (wanted_none rfl) (r_load ta3 rfl (fun w hw => cell_dynB (box_cells (i := 2) rfl w hw) rfl h11)) ?_
      refine F.q rfl rfl rfl (wanted_none rfl) (r_indexAddrA Try.underlying140 ti3 rfl rfl (rdl_some h13).1 (rdl_some h13).2.1) ?_
      refine F.ef0 rfl rfl (wanted_none rfl) (d_storeDyn (i := 0) (l := [xb3_1_0, xb3_1_1, xb3_1_2]) ti3 rfl rfl rfl h13 (set3 (rdl_some h13).1 (rdl_some h13).2.1)) ?_
      rintro _ _ ⟨rfl, rfl⟩
      refine F.nil ?_
      refine Nrm.block ?_
      refine Nrm.seq ?_
      refine Tri.reg (l := [0, 1, 2]) rfl ?_
      refine F.q rfl rfl rfl (wanted_none rfl) (r_move rfl) ?_
      refine F.q rfl rfl rfl (wanted_none rfl) (r_add rfl rfl) ?_
      refine F.q rfl rfl rfl (wanted_none rfl) (r_assign rfl) ?_
      refine F.nil ?_
      refine Nrm.round ?_
      refine Rnd.only [1, 2, 3, 4] rfl ?_
      refine Rnd.pick [0, 1, 2] rfl rfl ?_
      exact ih_1 _ _ ⟨w64 (x4 + 1), if x4 = 0 then t11 else xb3_1_0, if x4 = 1 then t11 else xb3_1_1, if x4 = 2 then t11 else xb3_1_2, hE_1, rfl, rfl⟩
    · replace hE_1 := if_ff g_1 hE_1
      refine Tri.exit ?_
      refine Exi.then ?_
      refine Exi.then ?_
      refine Exi.same ?_
      cases hE_1
      refine Nrm.seq ?_
      refine Tri.seq ?_
      refine Tri.reg (l := [0, 1]) rfl ?_
      refine F.q rfl rfl rfl (wanted_none rfl) (r_loadA ta140 ti140 rfl rfl (fun w hw => (box_cells (i := 0) rfl w hw))) ?_
      refine F.ef0 rfl rfl (wanted_none rfl) (d_storeG0 (i := 1) (cs2 := [.int .i64 xb3_1_0, .int .i64 xb3_1_1, .int .i64 xb3_1_2]) ti140 rfl rfl rfl rfl rfl (Nat.le_of_ble_eq_true rfl) (lf_cons rfl (lf_cons rfl (lf_cons rfl lf_nil)))) ?_
      rintro _ _ ⟨rfl, rfl⟩
      refine F.nil ?_
      refine Nrm.seq ?_
      refine Tri.ret ?_
      cases h
      exact Rtn.body (.cell rfl ta140 ti140 rfl (fun _ hw => box_cells (i := 1) rfl _ hw) .nil) (fun w hw => ⟨rfl, hw.ext⟩)

end Go.Proofs

/- loop.example/g01158/laws.toIntA3S -/
namespace Go.Proofs
open Go Go.Ga
set_option linter.unusedVariables false
set_option maxRecDepth 100000
set_option maxHeartbeats 4000000
def laws_toIntA3S.l0 (k : Nat) (a0 : List (Int × Int × Int)) : Nat → (List (Int × Int × Int)) → Int → Option ((List (Int × Int × Int)))
  | 0, _, _ => none
  | n + 1, x3, x4 => (if (decide (x4 < (a0.length : Int))) = true then (rdl a0 x4).bind fun t18 => (laws_toIntA3.f k t18.1 t18.2.1 t18.2.2).bind fun (t20_1, t20_2, t20_3) => (rdl x3 x4).bind fun t21 => laws_toIntA3S.l0 k a0 n (x3.set x4.toNat (t20_1, t20_2, t20_3)) (w64 (x4 + 1)) else some x3)

def laws_toIntA3S.f (k : Nat) (a0 : List (Int × Int × Int)) : Option ((List (Int × Int × Int))) := if 0 ≤ (a0.length : Int) ∧ (a0.length : Int) < 1099511627776 then (laws_toIntA3S.l0 k a0 k (List.replicate ((a0.length : Int)).toNat ((0, 0, 0) : Int × Int × Int)) 0).bind fun x3 => some x3 else none

theorem laws_toIntA3S.ok {k : Nat}  {a0 : List (Int × Int × Int)} {r0 : List (Int × Int × Int)} (h : laws_toIntA3S.f k a0 = some r0) (w : World) {va0 : Value} (hr_a0 : Rd w va0 a0) :
    Calls Try.prog 136 ([va0] : List Value).toArray w (Post (fun u ns => ∃ (Sr0 : Nat → Prop), SlLen u r0.length ∧ ns = [R.sl Sr0 u r0]) w) := by
  unfold laws_toIntA3S.f at h
  have hl_va0 := hr_a0.len
  refine Calls.of_tri (N := 23) Try.func136 rfl rfl rfl (Sep.nil (M := noM)) ?_
  refine Tri.seq ?_
  refine Tri.reg (l := [0]) rfl ?_
  refine F.q rfl rfl rfl (wanted_none rfl) (r_assign rfl) ?_
  refine F.nil ?_
  refine Nrm.seq ?_
  refine Tri.seq ?_
  obtain ⟨hm7, h⟩ := ck h
  refine Tri.reg (l := [0, 1, 2, 3]) rfl ?_
  refine F.q rfl rfl rfl (wanted_none rfl) (r_move rfl) ?_
  refine F.q rfl rfl rfl (wanted_none rfl) (r_len Try.underlying49 rfl hl_va0) ?_
  refine F.m rfl rfl rfl (wanted_none rfl) (m_make (x0 := ((0, 0, 0) : Int × Int × Int)) Try.underlying49 ti140 rfl rfl rfl hm7.1 hm7.2 (by decide)) ?_
  rintro v7_1 _ ⟨S7_1, hl_v7_1, rfl⟩
  refine F.q rfl rfl rfl (wanted_none rfl) (r_assign rfl) ?_
  refine F.nil ?_
  refine Nrm.seq ?_
  refine Tri.seq ?_
  refine Tri.seq ?_
  refine Tri.reg (l := [0]) rfl ?_
  refine F.q rfl rfl rfl (wanted_none rfl) (r_assign rfl) ?_
  refine F.nil ?_
  refine Nrm.seq ?_
  obtain ⟨x3, hE_1, h⟩ := bind_some h
  refine Tri.block ?_
  refine Tri.only [0, 3, 4] rfl ?_
  refine Tri.pick [0] rfl rfl ?_
  refine Tri.rounds (fun n e' C' => ∃ (x3' : List (Int × Int × Int)) (x4' : Int), laws_toIntA3S.l0 k a0 n x3' x4' = some x3 ∧ SlLen v7_1 (x3').length ∧ e' = [(0, va0), (3, v7_1), (4, .int .i64 x4')] ∧ C' = Sep w noM [R.sl S7_1 v7_1 (x3' : List (Int × Int × Int))]) k ?_ ?_ ?_
  · exact ⟨List.replicate ((a0.length : Int)).toNat ((0, 0, 0) : Int × Int × Int), 0, hE_1, hl_v7_1, rfl, rfl⟩
  · rintro _ _ ⟨_, _, hE_1, _⟩
    rw [laws_toIntA3S.l0.eq_1] at hE_1; cases hE_1
  · rintro n_1 _ _ ⟨x3, x4, hE_1, hl_x3, rfl, rfl⟩ ih_1
    rw [laws_toIntA3S.l0.eq_2] at hE_1
    refine Tri.seq ?_
    refine Tri.seq ?_
    refine Tri.reg (l := [0, 1, 2, 3]) rfl ?_
    refine F.q rfl rfl rfl (wanted_none rfl) (r_move rfl) ?_
    refine F.q rfl rfl rfl (wanted_none rfl) (r_move rfl) ?_
    refine F.q rfl rfl rfl (wanted_none rfl) (r_len Try.underlying49 rfl hl_va0) ?_
    refine F.q rfl rfl rfl (wanted_none rfl) (r_lss rfl rfl) ?_
    refine F.nil ?_
    refine Nrm.seq ?_
    refine Tri.cond (b := decide (x4 < (a0.length : Int))) rfl (fun g_1 => ?_) (fun g_1 => ?_)
    · replace hE_1 := if_tt g_1 hE_1
      refine Tri.skip ?_
      refine Nrm.seq ?_
      refine Tri.seq ?_
      refine Tri.block ?_
      obtain ⟨t18, h18, hE_1⟩ := bind_some hE_1
      obtain ⟨⟨t20_1, t20_2, t20_3⟩, h20, hE_1⟩ := bind_some hE_1
      obtain ⟨t21, h21, hE_1⟩ := bind_some hE_1
      refine Tri.reg (l := [0, 1, 2, 3, 4, 5, 6, 7, 8]) rfl ?_
      refine F.q rfl rfl rfl (wanted_none rfl) (r_move rfl) ?_
      refine F.q rfl rfl rfl (wanted_none rfl) (r_move rfl) ?_
      refine F.q rfl rfl rfl (wanted_none rfl) (r_move rfl) ?_
      refine F.q rfl rfl rfl (wanted_none rfl) (r_move rfl) ?_
      refine F.q rfl rfl rfl (wanted_none rfl) (r_indexAddrS Try.underlying49 ti140 rfl hl_va0 rfl (rdl_some h18).1 (rdl_some h18).2.1) ?_
      refine F.q rfl rfl rfl (wanted_none rfl) (r_loadA ta140 ti140 rfl rfl (fun w hw => (Rd.flat ((fun _ hw => hr_a0.sep hw) w hw) (rdl_some h18).2.2))) ?_
      refine F.qc rfl rfl rfl (wanted_none rfl) (q_callF (xs := _) rfl ok165 rfl rfl (fun w hw => laws_toIntA3.ok h20 w )) ?_
      refine F.q rfl rfl rfl (wanted_none rfl) (r_indexAddrS Try.underlying49 ti140 rfl hl_x3 rfl (rdl_some h21).1 (rdl_some h21).2.1) ?_
      refine F.ef0 rfl rfl (wanted_none rfl) (d_storeE (i := 0) (x1 := (t20_1, t20_2, t20_3)) ti140 rfl rfl rfl (rdl_some h21) rfl) ?_
      rintro _ _ ⟨rfl, rfl⟩
      refine F.nil ?_
      refine Nrm.block ?_
      refine Nrm.seq ?_
      refine Tri.reg (l := [0, 1, 2]) rfl ?_
      refine F.q rfl rfl rfl (wanted_none rfl) (r_move rfl) ?_
      refine F.q rfl rfl rfl (wanted_none rfl) (r_add rfl rfl) ?_
      refine F.q rfl rfl rfl (wanted_none rfl) (r_assign rfl) ?_
      refine F.nil ?_
      refine Nrm.round ?_
      refine Rnd.only [0, 3, 4] rfl ?_
      refine Rnd.pick [0] rfl rfl ?_
      exact ih_1 _ _ ⟨x3.set x4.toNat (t20_1, t20_2, t20_3), w64 (x4 + 1), hE_1, (len_set hl_x3), rfl, rfl⟩
    · replace hE_1 := if_ff g_1 hE_1
      refine Tri.exit ?_
      refine Exi.then ?_
      refine Exi.then ?_
      refine Exi.same ?_
      cases hE_1
      refine Nrm.seq ?_
      refine Tri.seq ?_
      refine Tri.reg (l := [0, 1]) rfl ?_
      refine F.q rfl rfl rfl (wanted_none rfl) (r_move rfl) ?_
      refine F.q rfl rfl rfl (wanted_none rfl) (r_assign rfl) ?_
      refine F.nil ?_
      refine Nrm.seq ?_
      refine Tri.ret ?_
      cases h
      exact Rtn.body (.tmp rfl .nil) (fun w hw => ⟨_, _, rfl, ⟨S7_1, hl_x3, rfl⟩, Sep.pick (is := [0]) rfl rfl hw⟩)

end Go.Proofs

/- loop.example/g01158/laws.toMaze -/
namespace Go.Proofs
open Go Go.Ga
set_option linter.unusedVariables false
set_option maxRecDepth 100000
set_option maxHeartbeats 4000000
def laws_toMaze.f (k : Nat) (a0_0 : Int) (a0_1 : List (Int × Int × Int)) (a0_2 : List Int) : Option (Int × (List (Int × Int × Int)) × (List Int)) := (laws_toIntA3S.f k a0_1).bind fun t9 => (laws_toIntS.f k a0_2).bind fun t13 => some (a0_0, t9, t13)

theorem laws_toMaze.ok {k : Nat}  {a0_0 : Int} {a0_1 : List (Int × Int × Int)} {a0_2 : List Int} {r0 : Int} {r1 : List (Int × Int × Int)} {r2 : List Int} (h : laws_toMaze.f k a0_0 a0_1 a0_2 = some (r0, r1, r2)) (w : World) {va0_1 : Value} {va0_2 : Value} (hr_a0_1 : Rd w va0_1 a0_1) (hr_a0_2 : Rd w va0_2 a0_2) :
    Calls Try.prog 86 ([.agg ([.int .i64 a0_0, va0_1, va0_2].toArray)] : List Value).toArray w (Post (fun u ns => ∃ (ur1 : Value) (Sr1 : Nat → Prop) (ur2 : Value) (Sr2 : Nat → Prop), u = .agg [.int .i64 r0, ur1, ur2].toArray ∧ SlLen ur1 r1.length ∧ SlLen ur2 r2.length ∧ ns = [R.sl Sr1 ur1 r1, R.sl Sr2 ur2 r2]) w) := by
  unfold laws_toMaze.f at h
  have hl_va0_1 := hr_a0_1.len
  have hl_va0_2 := hr_a0_2.len
  refine Calls.of_tri (N := 16) Try.func86 rfl rfl rfl (Sep.nil (M := noM)) ?_
  refine Tri.seq ?_
  refine Tri.reg (l := [0, 1]) rfl ?_
  refine F.m rfl rfl rfl (wanted_none rfl) (m_boxG rfl rfl) ?_
  rintro _ _ ⟨b1_1, rfl, rfl⟩
  refine F.m rfl rfl rfl (wanted_none rfl) (m_alloc ti55) ?_
  rintro _ _ ⟨b2_1, rfl, rfl⟩
  refine F.nil ?_
  refine Nrm.seq ?_
  refine Tri.seq ?_
  refine Tri.reg (l := [0]) rfl ?_
  refine F.m rfl rfl rfl (wanted_none rfl) (m_alloc ti55) ?_
  rintro _ _ ⟨b3_1, rfl, rfl⟩
  refine F.nil ?_
  refine Nrm.seq ?_
  refine Tri.seq ?_
  refine Tri.reg (l := [0, 1, 2, 3]) rfl ?_
  refine F.q rfl rfl rfl (wanted_none rfl) (r_fieldAddr tf51_0 rfl) ?_
  refine F.q rfl rfl rfl (wanted_none rfl) (r_load ta3 rfl (fun w hw => cell_1 (box_cells (i := 2) rfl w hw) rfl)) ?_
  refine F.q rfl rfl rfl (wanted_none rfl) (r_fieldAddr tf55_0 rfl) ?_
  refine F.ef0 rfl rfl (wanted_none rfl) (d_storeG1 (i := 0) (cs2 := [.int .i64 a0_0]) ti3 rfl rfl rfl rfl rfl (Nat.le_of_ble_eq_true rfl) (lf_cons rfl lf_nil)) ?_
  rintro _ _ ⟨rfl, rfl⟩
  refine F.nil ?_
  refine Nrm.seq ?_
  refine Tri.seq ?_
  obtain ⟨t9, h9, h⟩ := bind_some h
  refine Tri.reg (l := [0, 1, 2, 3, 4]) rfl ?_
  refine F.q rfl rfl rfl (wanted_none rfl) (r_fieldAddr tf51_1 rfl) ?_
  refine F.q rfl rfl rfl (wanted_none rfl) (r_load ta49 rfl (fun w hw => cell_1 (box_cells (i := 2) rfl w hw) rfl)) ?_
  refine F.m rfl rfl rfl (wanted_none rfl) (m_callF (xs := _) rfl ok136 rfl rfl (fun w hw => laws_toIntA3S.ok h9 w ((fun _ hw => hr_a0_1.sep hw) w hw))) ?_
  rintro v9_1 _ ⟨_, ⟨S9_1, hl_v9_1, rfl⟩, rfl⟩
  refine F.q rfl rfl rfl (wanted_none rfl) (r_fieldAddr tf55_1 rfl) ?_
  refine F.ef0 rfl rfl (wanted_none rfl) (d_storeG1 (i := 1) (cs2 := [v9_1]) ti49 rfl rfl rfl (sl_cells hl_v9_1) rfl (Nat.le_of_ble_eq_true rfl) (lf_cons (sl_leaf hl_v9_1) lf_nil)) ?_
  rintro _ _ ⟨rfl, rfl⟩
  refine F.nil ?_
  refine Nrm.seq ?_
  refine Tri.seq ?_
  obtain ⟨t13, h13, h⟩ := bind_some h
  refine Tri.reg (l := [0, 1, 2, 3, 4]) rfl ?_
  refine F.q rfl rfl rfl (wanted_none rfl) (r_fieldAddr tf51_2 rfl) ?_
  refine F.q rfl rfl rfl (wanted_none rfl) (r_load ta38 rfl (fun w hw => cell_1 (box_cells (i := 3) rfl w hw) rfl)) ?_
  refine F.m rfl rfl rfl (wanted_none rfl) (m_callF (xs := _) rfl ok32 rfl rfl (fun w hw => laws_toIntS.ok h13 w ((fun _ hw => hr_a0_2.sep hw) w hw))) ?_
  rintro v13_1 _ ⟨_, ⟨S13_1, hl_v13_1, rfl⟩, rfl⟩
  refine F.q rfl rfl rfl (wanted_none rfl) (r_fieldAddr tf55_2 rfl) ?_
  refine F.ef0 rfl rfl (wanted_none rfl) (d_storeG1 (i := 2) (cs2 := [v13_1]) ti38 rfl rfl rfl (sl_cells hl_v13_1) rfl (Nat.le_of_ble_eq_true rfl) (lf_cons (sl_leaf hl_v13_1) lf_nil)) ?_
  rintro _ _ ⟨rfl, rfl⟩
  refine F.nil ?_
  refine Nrm.seq ?_
  refine Tri.seq ?_
  refine Tri.reg (l := [0, 1]) rfl ?_
  refine F.q rfl rfl rfl (wanted_none rfl) (r_loadA ta55 ti55 rfl rfl (fun w hw => (box_cells (i := 2) rfl w hw))) ?_
  refine F.ef0 rfl rfl (wanted_none rfl) (d_storeG0 (i := 3) (cs2 := [.int .i64 a0_0, v9_1, v13_1]) ti55 rfl rfl rfl rfl rfl (Nat.le_of_ble_eq_true rfl) (lf_cons rfl (lf_cons (sl_leaf hl_v9_1) (lf_cons (sl_leaf hl_v13_1) lf_nil)))) ?_
  rintro _ _ ⟨rfl, rfl⟩
  refine F.nil ?_
  refine Nrm.seq ?_
  refine Tri.ret ?_
  cases h
  exact Rtn.body (.cell rfl ta55 ti55 rfl (fun _ hw => box_cells (i := 3) rfl _ hw) .nil) (fun w hw => ⟨_, _, rfl, ⟨v9_1, S9_1, v13_1, S13_1, rfl, hl_v9_1, hl_v13_1, rfl⟩, Sep.pick (is := [1, 0]) rfl rfl hw⟩)

end Go.Proofs

/- loop.example/g01158/laws.toMazeS -/
namespace Go.Proofs
open Go Go.Ga
set_option linter.unusedVariables false
set_option maxRecDepth 100000
set_option maxHeartbeats 4000000
def laws_toMazeS.l0 (k : Nat) (a0 : List (Int × List (Int × Int × Int) × List Int)) : Nat → (List (Int × List (Int × Int × Int) × List Int)) → Int → Option ((List (Int × List (Int × Int × Int) × List Int)))
  | 0, _, _ => none
  | n + 1, x3, x4 => (if (decide (x4 < (a0.length : Int))) = true then (rdl a0 x4).bind fun t18 => (laws_toMaze.f k t18.1 t18.2.1 t18.2.2).bind fun (t20_1, t20_2, t20_3) => (rdl (x3 : List (Int × List (Int × Int × Int) × List Int)) x4).bind fun t21 => laws_toMazeS.l0 k a0 n ((x3 : List (Int × List (Int × Int × Int) × List Int)).set (x4).toNat (t20_1, t20_2, t20_3)) (w64 (x4 + 1)) else some x3)

def laws_toMazeS.f (k : Nat) (a0 : List (Int × List (Int × Int × Int) × List Int)) : Option ((List (Int × List (Int × Int × Int) × List Int))) := if 0 ≤ (a0.length : Int) ∧ (a0.length : Int) < 1099511627776 then (laws_toMazeS.l0 k a0 k (List.replicate ((a0.length : Int)).toNat ((0, [], []) : Int × List (Int × Int × Int) × List Int)) 0).bind fun x3 => some x3 else none

theorem laws_toMazeS.ok {k : Nat}  {a0 : List (Int × List (Int × Int × Int) × List Int)} {r0 : List (Int × List (Int × Int × Int) × List Int)} (h : laws_toMazeS.f k a0 = some r0) (w : World) {va0 : Value} (hr_a0 : Rd w va0 a0) :
    Calls Try.prog 63 ([va0] : List Value).toArray w (Post (fun u ns => ∃ (Sr0 : Nat → Prop), SlLen u r0.length ∧ ns = [R.sl Sr0 u r0]) w) := by
  unfold laws_toMazeS.f at h
  have hl_va0 := hr_a0.len
  refine Calls.of_tri (N := 23) Try.func63 rfl rfl rfl (Sep.nil (M := noM)) ?_
  refine Tri.seq ?_
  refine Tri.reg (l := [0]) rfl ?_
  refine F.q rfl rfl rfl (wanted_none rfl) (r_assign rfl) ?_
  refine F.nil ?_
  refine Nrm.seq ?_
  refine Tri.seq ?_
  obtain ⟨hm7, h⟩ := ck h
  refine Tri.reg (l := [0, 1, 2, 3]) rfl ?_
  refine F.q rfl rfl rfl (wanted_none rfl) (r_move rfl) ?_
  refine F.q rfl rfl rfl (wanted_none rfl) (r_len Try.underlying22 rfl hl_va0) ?_
  refine F.m rfl rfl rfl (wanted_none rfl) (m_makeN (x0 := ((0, [], []) : Int × List (Int × Int × Int) × List Int)) Try.underlying29 ti55 rfl rfl (jn_pair (jn_int (n := 0)) (jn_pair jn_nil jn_nil)) rfl rfl hm7.1 hm7.2 (by decide)) ?_
  rintro v7_1 _ ⟨S7_1, hl_v7_1, rfl⟩
  refine F.q rfl rfl rfl (wanted_none rfl) (r_assign rfl) ?_
  refine F.nil ?_
  refine Nrm.seq ?_
  refine Tri.seq ?_
  refine Tri.seq ?_
  refine Tri.reg (l := [0]) rfl ?_
  refine F.q rfl rfl rfl (wanted_none rfl) (r_assign rfl) ?_
  refine F.nil ?_
  refine Nrm.seq ?_
  obtain ⟨x3, hE_1, h⟩ := bind_some h
  refine Tri.block ?_
  refine Tri.only [0, 3, 4] rfl ?_
  refine Tri.pick [0] rfl rfl ?_
  refine Tri.rounds (fun n e' C' => ∃ (x3' : List (Int × List (Int × Int × Int) × List Int)) (x4' : Int) (w3 : Value) (T3 : Nat → Prop), laws_toMazeS.l0 k a0 n x3' x4' = some x3 ∧ SlLen w3 (x3').length ∧ e' = [(0, va0), (3, w3), (4, .int .i64 x4')] ∧ C' = Sep w noM [R.sl T3 w3 (x3' : List (Int × List (Int × Int × Int) × List Int))]) k ?_ ?_ ?_
  · exact ⟨List.replicate ((a0.length : Int)).toNat ((0, [], []) : Int × List (Int × Int × Int) × List Int), 0, v7_1, S7_1, hE_1, hl_v7_1, rfl, rfl⟩
  · rintro _ _ ⟨_, _, _, _, hE_1, _⟩
    rw [laws_toMazeS.l0.eq_1] at hE_1; cases hE_1
  · rintro n_1 _ _ ⟨x3, x4, w3, T3, hE_1, hl_w3, rfl, rfl⟩ ih_1
    rw [laws_toMazeS.l0.eq_2] at hE_1
    refine Tri.seq ?_
    refine Tri.seq ?_
    refine Tri.reg (l := [0, 1, 2, 3]) rfl ?_
    refine F.q rfl rfl rfl (wanted_none rfl) (r_move rfl) ?_
    refine F.q rfl rfl rfl (wanted_none rfl) (r_move rfl) ?_
    refine F.q rfl rfl rfl (wanted_none rfl) (r_len Try.underlying22 rfl hl_va0) ?_
    refine F.q rfl rfl rfl (wanted_none rfl) (r_lss rfl rfl) ?_
    refine F.nil ?_
    refine Nrm.seq ?_
    refine Tri.cond (b := decide (x4 < (a0.length : Int))) rfl (fun g_1 => ?_) (fun g_1 => ?_)
    · replace hE_1 := if_tt g_1 hE_1
      refine Tri.skip ?_
      refine Nrm.seq ?_
      refine Tri.seq ?_
      refine Tri.block ?_
      obtain ⟨t18, h18, hE_1⟩ := bind_some hE_1
      obtain ⟨_, hc18, hp18⟩ := Rd.elem hr_a0 (rdl_some h18).2.2
      obtain ⟨v18_1, v18_2, rfl, hr_v18_1, hr_v18_2⟩ := op51 hp18
      have hl_v18_1 := hr_v18_1.len
      have hl_v18_2 := hr_v18_2.len
      obtain ⟨⟨t20_1, t20_2, t20_3⟩, h20, hE_1⟩ := bind_some hE_1
      obtain ⟨t21, h21, hE_1⟩ := bind_some hE_1
      refine Tri.ex (on55 [0] [] rfl rfl (rdl_some h21).2.2) ?_
      rintro _ ⟨v21_1_1, S21_1_1, v21_2_1, S21_2_1, Sr21_1, hl_v21_1_1, hl_v21_2_1, hS21_1, rfl⟩
      refine Tri.reg (l := [0, 1, 2, 3, 4, 5, 6, 7, 8]) rfl ?_
      refine F.q rfl rfl rfl (wanted_none rfl) (r_move rfl) ?_
      refine F.q rfl rfl rfl (wanted_none rfl) (r_move rfl) ?_
      refine F.q rfl rfl rfl (wanted_none rfl) (r_move rfl) ?_
      refine F.q rfl rfl rfl (wanted_none rfl) (r_move rfl) ?_
      refine F.q rfl rfl rfl (wanted_none rfl) (r_indexAddrS Try.underlying22 ti51 rfl hl_va0 rfl (rdl_some h18).1 (rdl_some h18).2.1) ?_
      refine F.q rfl rfl rfl (wanted_none rfl) (r_loadA ta51 ti51 rfl rfl (fun w hw => (hc18.sep hw))) ?_
      refine F.m rfl rfl rfl (wanted_none rfl) (m_callF (xs := _) rfl ok86 rfl rfl (fun w hw => laws_toMaze.ok h20 w ((fun _ hw => hr_v18_1.sep hw) w hw) ((fun _ hw => hr_v18_2.sep hw) w hw))) ?_
      rintro _ _ ⟨_, ⟨v20_1, S20_1, v20_2, S20_2, rfl, hl_v20_1, hl_v20_2, rfl⟩, rfl⟩
      refine F.q rfl rfl rfl (wanted_none rfl) (r_indexAddrS Try.underlying29 ti55 rfl hl_w3 rfl (rdl_some h21).1 (rdl_some h21).2.1) ?_
      refine F.ef0 rfl rfl (wanted_none rfl) (d_storeH0 (α := Int × List (Int × Int × Int) × List Int) (p := 4) (k := 0) (cs2 := [.int .i64 t20_1, v20_1, v20_2]) ti55 rfl rfl rfl rfl rfl (Nat.le_of_ble_eq_true rfl) (lf_cons rfl (lf_cons (sl_leaf hl_v20_1) (lf_cons (sl_leaf hl_v20_2) lf_nil)))) ?_
      rintro _ _ ⟨rfl, rfl⟩
      refine F.nil ?_
      refine Nrm.ex (clo (cs := [R.sl S20_1 v20_1 (t20_2 : List (Int × Int × Int)), R.sl S20_2 v20_2 (t20_3 : List (Int))]) (rest := [R.sl S21_1_1 v21_1_1 (t21.2.1 : List (Int × Int × Int)), R.sl S21_2_1 v21_2_1 (t21.2.2 : List (Int))]) [0, 1, 4] [2, 3] rfl rfl (jn_pair (jn_int (n := t20_1)) (jn_pair (jn_sl (S := S20_1) (v := v20_1) (l := (t20_2 : List (Int × Int × Int)))) (jn_sl (S := S20_2) (v := v20_2) (l := (t20_3 : List (Int))))))) ?_
      rintro _ ⟨Sc_1, rfl⟩
      refine Nrm.block ?_
      refine Nrm.seq ?_
      refine Tri.reg (l := [0, 1, 2]) rfl ?_
      refine F.q rfl rfl rfl (wanted_none rfl) (r_move rfl) ?_
      refine F.q rfl rfl rfl (wanted_none rfl) (r_add rfl rfl) ?_
      refine F.q rfl rfl rfl (wanted_none rfl) (r_assign rfl) ?_
      refine F.nil ?_
      refine Nrm.round ?_
      refine Rnd.only [0, 3, 4] rfl ?_
      refine Rnd.pick [0] rfl rfl ?_
      exact ih_1 _ _ ⟨(x3 : List (Int × List (Int × Int × Int) × List Int)).set (x4).toNat (t20_1, t20_2, t20_3), w64 (x4 + 1), w3, Sc_1, hE_1, (len_set hl_w3), rfl, rfl⟩
    · replace hE_1 := if_ff g_1 hE_1
      refine Tri.exit ?_
      refine Exi.then ?_
      refine Exi.then ?_
      refine Exi.same ?_
      cases hE_1
      refine Nrm.seq ?_
      refine Tri.seq ?_
      refine Tri.reg (l := [0, 1]) rfl ?_
      refine F.q rfl rfl rfl (wanted_none rfl) (r_move rfl) ?_
      refine F.q rfl rfl rfl (wanted_none rfl) (r_assign rfl) ?_
      refine F.nil ?_
      refine Nrm.seq ?_
      refine Tri.ret ?_
      cases h
      exact Rtn.body (.tmp rfl .nil) (fun w hw => ⟨_, _, rfl, ⟨T3, hl_w3, rfl⟩, Sep.pick (is := [0]) rfl rfl hw⟩)

end Go.Proofs

/- loop.example/g01158/laws.toIntSS -/
namespace Go.Proofs
open Go Go.Ga
set_option linter.unusedVariables false
set_option maxRecDepth 100000
set_option maxHeartbeats 4000000
def laws_toIntSS.l0 (k : Nat) (a0 : List (List Int)) : Nat → (List (List Int)) → Int → Option ((List (List Int)))
  | 0, _, _ => none
  | n + 1, x3, x4 => (if (decide (x4 < (a0.length : Int))) = true then (rdl a0 x4).bind fun t18 => (laws_toIntS.f k t18).bind fun t20 => (rdl (x3 : List (List Int)) x4).bind fun t21 => laws_toIntSS.l0 k a0 n ((x3 : List (List Int)).set (x4).toNat t20) (w64 (x4 + 1)) else some x3)

def laws_toIntSS.f (k : Nat) (a0 : List (List Int)) : Option ((List (List Int))) := if 0 ≤ (a0.length : Int) ∧ (a0.length : Int) < 1099511627776 then (laws_toIntSS.l0 k a0 k (List.replicate ((a0.length : Int)).toNat ([] : List Int)) 0).bind fun x3 => some x3 else none

theorem laws_toIntSS.ok {k : Nat}  {a0 : List (List Int)} {r0 : List (List Int)} (h : laws_toIntSS.f k a0 = some r0) (w : World) {va0 : Value} (hr_a0 : Rd w va0 a0) :
    Calls Try.prog 64 ([va0] : List Value).toArray w (Post (fun u ns => ∃ (Sr0 : Nat → Prop), SlLen u r0.length ∧ ns = [R.sl Sr0 u r0]) w) := by
  unfold laws_toIntSS.f at h
  have hl_va0 := hr_a0.len
  refine Calls.of_tri (N := 23) Try.func64 rfl rfl rfl (Sep.nil (M := noM)) ?_
  refine Tri.seq ?_
  refine Tri.reg (l := [0]) rfl ?_
  refine F.q rfl rfl rfl (wanted_none rfl) (r_assign rfl) ?_
  refine F.nil ?_
  refine Nrm.seq ?_
  refine Tri.seq ?_
  obtain ⟨hm7, h⟩ := ck h
  refine Tri.reg (l := [0, 1, 2, 3]) rfl ?_
  refine F.q rfl rfl rfl (wanted_none rfl) (r_move rfl) ?_
  refine F.q rfl rfl rfl (wanted_none rfl) (r_len Try.underlying23 rfl hl_va0) ?_
  refine F.m rfl rfl rfl (wanted_none rfl) (m_makeN (x0 := ([] : List Int)) Try.underlying23 ti38 rfl rfl jn_nil rfl rfl hm7.1 hm7.2 (by decide)) ?_
  rintro v7_1 _ ⟨S7_1, hl_v7_1, rfl⟩
  refine F.q rfl rfl rfl (wanted_none rfl) (r_assign rfl) ?_
  refine F.nil ?_
  refine Nrm.seq ?_
  refine Tri.seq ?_
  refine Tri.seq ?_
  refine Tri.reg (l := [0]) rfl ?_
  refine F.q rfl rfl rfl (wanted_none rfl) (r_assign rfl) ?_
  refine F.nil ?_
  refine Nrm.seq ?_
  obtain ⟨x3, hE_1, h⟩ := bind_some h
  refine Tri.block ?_
  refine Tri.only [0, 3, 4] rfl ?_
  refine Tri.pick [0] rfl rfl ?_
  refine Tri.rounds (fun n e' C' => ∃ (x3' : List (List Int)) (x4' : Int) (w3 : Value) (T3 : Nat → Prop), laws_toIntSS.l0 k a0 n x3' x4' = some x3 ∧ SlLen w3 (x3').length ∧ e' = [(0, va0), (3, w3), (4, .int .i64 x4')] ∧ C' = Sep w noM [R.sl T3 w3 (x3' : List (List Int))]) k ?_ ?_ ?_
  · exact ⟨List.replicate ((a0.length : Int)).toNat ([] : List Int), 0, v7_1, S7_1, hE_1, hl_v7_1, rfl, rfl⟩
  · rintro _ _ ⟨_, _, _, _, hE_1, _⟩
    rw [laws_toIntSS.l0.eq_1] at hE_1; cases hE_1
  · rintro n_1 _ _ ⟨x3, x4, w3, T3, hE_1, hl_w3, rfl, rfl⟩ ih_1
    rw [laws_toIntSS.l0.eq_2] at hE_1
    refine Tri.seq ?_
    refine Tri.seq ?_
    refine Tri.reg (l := [0, 1, 2, 3]) rfl ?_
    refine F.q rfl rfl rfl (wanted_none rfl) (r_move rfl) ?_
    refine F.q rfl rfl rfl (wanted_none rfl) (r_move rfl) ?_
    refine F.q rfl rfl rfl (wanted_none rfl) (r_len Try.underlying23 rfl hl_va0) ?_
    refine F.q rfl rfl rfl (wanted_none rfl) (r_lss rfl rfl) ?_
    refine F.nil ?_
    refine Nrm.seq ?_
    refine Tri.cond (b := decide (x4 < (a0.length : Int))) rfl (fun g_1 => ?_) (fun g_1 => ?_)
    · replace hE_1 := if_tt g_1 hE_1
      refine Tri.skip ?_
      refine Nrm.seq ?_
      refine Tri.seq ?_
      refine Tri.block ?_
      obtain ⟨t18, h18, hE_1⟩ := bind_some hE_1
      obtain ⟨_, hc18, hp18⟩ := Rd.elem hr_a0 (rdl_some h18).2.2
      obtain ⟨v18_0, rfl, hr_v18_0⟩ := op38 hp18
      have hl_v18_0 := hr_v18_0.len
      obtain ⟨t20, h20, hE_1⟩ := bind_some hE_1
      obtain ⟨t21, h21, hE_1⟩ := bind_some hE_1
      refine Tri.ex (on38 [0] [] rfl rfl (rdl_some h21).2.2) ?_
      rintro _ ⟨v21_0_1, S21_0_1, Sr21_1, hl_v21_0_1, hS21_1, rfl⟩
      refine Tri.reg (l := [0, 1, 2, 3, 4, 5, 6, 7, 8]) rfl ?_
      refine F.q rfl rfl rfl (wanted_none rfl) (r_move rfl) ?_
      refine F.q rfl rfl rfl (wanted_none rfl) (r_move rfl) ?_
      refine F.q rfl rfl rfl (wanted_none rfl) (r_move rfl) ?_
      refine F.q rfl rfl rfl (wanted_none rfl) (r_move rfl) ?_
      refine F.q rfl rfl rfl (wanted_none rfl) (r_indexAddrS Try.underlying23 ti38 rfl hl_va0 rfl (rdl_some h18).1 (rdl_some h18).2.1) ?_
      refine F.q rfl rfl rfl (wanted_none rfl) (r_load ta38 rfl (fun w hw => cell_0 (hc18.sep hw) rfl)) ?_
      refine F.m rfl rfl rfl (wanted_none rfl) (m_callF (xs := _) rfl ok32 rfl rfl (fun w hw => laws_toIntS.ok h20 w ((fun _ hw => hr_v18_0.sep hw) w hw))) ?_
      rintro v20_1 _ ⟨_, ⟨S20_1, hl_v20_1, rfl⟩, rfl⟩
      refine F.q rfl rfl rfl (wanted_none rfl) (r_indexAddrS Try.underlying23 ti38 rfl hl_w3 rfl (rdl_some h21).1 (rdl_some h21).2.1) ?_
      refine F.ef0 rfl rfl (wanted_none rfl) (d_storeH0 (α := List Int) (p := 2) (k := 0) (cs2 := [v20_1]) ti38 rfl rfl rfl (sl_cells hl_v20_1) rfl (Nat.le_of_ble_eq_true rfl) (lf_cons (sl_leaf hl_v20_1) lf_nil)) ?_
      rintro _ _ ⟨rfl, rfl⟩
      refine F.nil ?_
      refine Nrm.ex (clo (cs := [R.sl S20_1 v20_1 (t20 : List (Int))]) (rest := [R.sl S21_0_1 v21_0_1 (t21 : List (Int))]) [0, 2] [1] rfl rfl (jn_sl (S := S20_1) (v := v20_1) (l := (t20 : List (Int))))) ?_
      rintro _ ⟨Sc_1, rfl⟩
      refine Nrm.block ?_
      refine Nrm.seq ?_
      refine Tri.reg (l := [0, 1, 2]) rfl ?_
      refine F.q rfl rfl rfl (wanted_none rfl) (r_move rfl) ?_
      refine F.q rfl rfl rfl (wanted_none rfl) (r_add rfl rfl) ?_
      refine F.q rfl rfl rfl (wanted_none rfl) (r_assign rfl) ?_
      refine F.nil ?_
      refine Nrm.round ?_
      refine Rnd.only [0, 3, 4] rfl ?_
      refine Rnd.pick [0] rfl rfl ?_
      exact ih_1 _ _ ⟨(x3 : List (List Int)).set (x4).toNat t20, w64 (x4 + 1), w3, Sc_1, hE_1, (len_set hl_w3), rfl, rfl⟩
    · replace hE_1 := if_ff g_1 hE_1
      refine Tri.exit ?_
      refine Exi.then ?_
      refine Exi.then ?_
      refine Exi.same ?_
      cases hE_1
      refine Nrm.seq ?_
      refine Tri.seq ?_
      refine Tri.reg (l := [0, 1]) rfl ?_
      refine F.q rfl rfl rfl (wanted_none rfl) (r_move rfl) ?_
      refine F.q rfl rfl rfl (wanted_none rfl) (r_assign rfl) ?_
      refine F.nil ?_
      refine Nrm.seq ?_
      refine Tri.ret ?_
      cases h
      exact Rtn.body (.tmp rfl .nil) (fun w hw => ⟨_, _, rfl, ⟨T3, hl_w3, rfl⟩, Sep.pick (is := [0]) rfl rfl hw⟩)

end Go.Proofs

/- loop.example/g01158/laws.toWorlds -/
namespace Go.Proofs
open Go Go.Ga
set_option linter.unusedVariables false
set_option maxRecDepth 100000
set_option maxHeartbeats 4000000
def laws_toWorlds.f (k : Nat) (a0_0 : List (Int × List (Int × Int × Int) × List Int)) (a0_1 : List (List Int)) : Option ((List (Int × List (Int × Int × Int) × List Int)) × (List (List Int))) := (laws_toMazeS.f k a0_0).bind fun t6 => (laws_toIntSS.f k a0_1).bind fun t10 => some (t6, t10)

theorem laws_toWorlds.ok {k : Nat}  {a0_0 : List (Int × List (Int × Int × Int) × List Int)} {a0_1 : List (List Int)} {r0 : List (Int × List (Int × Int × Int) × List Int)} {r1 : List (List Int)} (h : laws_toWorlds.f k a0_0 a0_1 = some (r0, r1)) (w : World) {va0_0 : Value} {va0_1 : Value} (hr_a0_0 : Rd w va0_0 a0_0) (hr_a0_1 : Rd w va0_1 a0_1) :
    Calls Try.prog 17 ([.agg ([va0_0, va0_1].toArray)] : List Value).toArray w (Post (fun u ns => ∃ (ur0 : Value) (Sr0 : Nat → Prop) (ur1 : Value) (Sr1 : Nat → Prop), u = .agg [ur0, ur1].toArray ∧ SlLen ur0 r0.length ∧ SlLen ur1 r1.length ∧ ns = [R.sl Sr0 ur0 r0, R.sl Sr1 ur1 r1]) w) := by
  unfold laws_toWorlds.f at h
  have hl_va0_0 := hr_a0_0.len
  have hl_va0_1 := hr_a0_1.len
  refine Calls.of_tri (N := 13) Try.func17 rfl rfl rfl (Sep.nil (M := noM)) ?_
  refine Tri.seq ?_
  refine Tri.reg (l := [0, 1]) rfl ?_
  refine F.m rfl rfl rfl (wanted_none rfl) (m_boxG rfl rfl) ?_
  rintro _ _ ⟨b1_1, rfl, rfl⟩
  refine F.m rfl rfl rfl (wanted_none rfl) (m_alloc ti31) ?_
  rintro _ _ ⟨b2_1, rfl, rfl⟩
  refine F.nil ?_
  refine Nrm.seq ?_
  refine Tri.seq ?_
  refine Tri.reg (l := [0]) rfl ?_
  refine F.m rfl rfl rfl (wanted_none rfl) (m_alloc ti31) ?_
  rintro _ _ ⟨b3_1, rfl, rfl⟩
  refine F.nil ?_
  refine Nrm.seq ?_
  refine Tri.seq ?_
  obtain ⟨t6, h6, h⟩ := bind_some h
  refine Tri.reg (l := [0, 1, 2, 3, 4]) rfl ?_
  refine F.q rfl rfl rfl (wanted_none rfl) (r_fieldAddr tf25_0 rfl) ?_
  refine F.q rfl rfl rfl (wanted_none rfl) (r_load ta22 rfl (fun w hw => cell_1 (box_cells (i := 2) rfl w hw) rfl)) ?_
  refine F.m rfl rfl rfl (wanted_none rfl) (m_callF (xs := _) rfl ok63 rfl rfl (fun w hw => laws_toMazeS.ok h6 w ((fun _ hw => hr_a0_0.sep hw) w hw))) ?_
  rintro v6_1 _ ⟨_, ⟨S6_1, hl_v6_1, rfl⟩, rfl⟩
  refine F.q rfl rfl rfl (wanted_none rfl) (r_fieldAddr tf31_0 rfl) ?_
  refine F.ef0 rfl rfl (wanted_none rfl) (d_storeG1 (i := 1) (cs2 := [v6_1]) ti29 rfl rfl rfl (sl_cells hl_v6_1) rfl (Nat.le_of_ble_eq_true rfl) (lf_cons (sl_leaf hl_v6_1) lf_nil)) ?_
  rintro _ _ ⟨rfl, rfl⟩
  refine F.nil ?_
  refine Nrm.seq ?_
  refine Tri.seq ?_
  obtain ⟨t10, h10, h⟩ := bind_some h
  refine Tri.reg (l := [0, 1, 2, 3, 4]) rfl ?_
  refine F.q rfl rfl rfl (wanted_none rfl) (r_fieldAddr tf25_1 rfl) ?_
  refine F.q rfl rfl rfl (wanted_none rfl) (r_load ta23 rfl (fun w hw => cell_1 (box_cells (i := 3) rfl w hw) rfl)) ?_
  refine F.m rfl rfl rfl (wanted_none rfl) (m_callF (xs := _) rfl ok64 rfl rfl (fun w hw => laws_toIntSS.ok h10 w ((fun _ hw => hr_a0_1.sep hw) w hw))) ?_
  rintro v10_1 _ ⟨_, ⟨S10_1, hl_v10_1, rfl⟩, rfl⟩
  refine F.q rfl rfl rfl (wanted_none rfl) (r_fieldAddr tf31_1 rfl) ?_
  refine F.ef0 rfl rfl (wanted_none rfl) (d_storeG1 (i := 2) (cs2 := [v10_1]) ti23 rfl rfl rfl (sl_cells hl_v10_1) rfl (Nat.le_of_ble_eq_true rfl) (lf_cons (sl_leaf hl_v10_1) lf_nil)) ?_
  rintro _ _ ⟨rfl, rfl⟩
  refine F.nil ?_
  refine Nrm.seq ?_
  refine Tri.seq ?_
  refine Tri.reg (l := [0, 1]) rfl ?_
  refine F.q rfl rfl rfl (wanted_none rfl) (r_loadA ta31 ti31 rfl rfl (fun w hw => (box_cells (i := 2) rfl w hw))) ?_
  refine F.ef0 rfl rfl (wanted_none rfl) (d_storeG0 (i := 3) (cs2 := [v6_1, v10_1]) ti31 rfl rfl rfl rfl rfl (Nat.le_of_ble_eq_true rfl) (lf_cons (sl_leaf hl_v6_1) (lf_cons (sl_leaf hl_v10_1) lf_nil))) ?_
  rintro _ _ ⟨rfl, rfl⟩
  refine F.nil ?_
  refine Nrm.seq ?_
  refine Tri.ret ?_
  cases h
  exact Rtn.body (.cell rfl ta31 ti31 rfl (fun _ hw => box_cells (i := 3) rfl _ hw) .nil) (fun w hw => ⟨_, _, rfl, ⟨v6_1, S6_1, v10_1, S10_1, rfl, hl_v6_1, hl_v10_1, rfl⟩, Sep.pick (is := [1, 0]) rfl rfl hw⟩)

end Go.Proofs

/- loop.example/g01158/laws.eqIntS -/

namespace Go.Proofs
open Go Go.Ga
set_option linter.unusedVariables false
set_option maxRecDepth 100000
set_option maxHeartbeats 4000000
def laws_eqIntS.l0 (k : Nat) (a0 : List Int) (a1 : List Int) : Nat → Int → Option ((Unit) ⊕ (Bool))
  | 0, _ => none
  | n + 1, x5 => (if (decide (x5 < (a0.length : Int))) = true then (rdl a0 x5).bind fun t19 => (rdl a1 x5).bind fun t23 => (if (t19 != t23) = true then some (Sum.inr false) else laws_eqIntS.l0 k a0 a1 n (w64 (x5 + 1))) else some (Sum.inl ()))

def laws_eqIntS.f (k : Nat) (a0 : List Int) (a1 : List Int) : Option (Bool) := (if ((a0.length : Int) != (a1.length : Int)) = true then some false else (laws_eqIntS.l0 k a0 a1 k 0).bind fun s => Lr s some fun _ => some true)

theorem laws_eqIntS.ok {k : Nat}  {a0 : List Int} {a1 : List Int} {r0 : Bool} (h : laws_eqIntS.f k a0 a1 = some r0) (w : World) {va0 : Value} {va1 : Value} (hr_a0 : Rd w va0 a0) (hr_a1 : Rd w va1 a1) :
    Calls Try.prog 26 ([va0, va1] : List Value).toArray w (fun e w' => e = .returned (.bool r0) ∧ Ext w w') := by
  unfold laws_eqIntS.f at h
  have hl_va0 := hr_a0.len
  have hl_va1 := hr_a1.len
  refine Calls.of_tri (N := 26) Try.func26 rfl rfl rfl (Sep.nil (M := noM)) ?_
  refine Tri.seq ?_
  refine Tri.reg (l := [0]) rfl ?_
  refine F.q rfl rfl rfl (wanted_none rfl) (r_assign rfl) ?_
  refine F.nil ?_
  refine Nrm.seq ?_
  refine Tri.seq ?_
  refine Tri.seq ?_
  refine Tri.reg (l := [0, 1, 2, 3, 4]) rfl ?_
  refine F.q rfl rfl rfl (wanted_none rfl) (r_move rfl) ?_
  refine F.q rfl rfl rfl (wanted_none rfl) (r_len Try.underlying38 rfl hl_va0) ?_
  refine F.q rfl rfl rfl (wanted_none rfl) (r_move rfl) ?_
  refine F.q rfl rfl rfl (wanted_none rfl) (r_len Try.underlying38 rfl hl_va1) ?_
  refine F.q rfl rfl rfl (wanted_none rfl) (r_neq rfl rfl) ?_
  refine F.nil ?_
  refine Nrm.seq ?_
  refine Tri.cond (b := (a0.length : Int) != (a1.length : Int)) rfl (fun g_1 => ?_) (fun g_1 => ?_)
  · replace h := if_tt g_1 h
    refine Tri.seq ?_
    refine Tri.reg (l := [0]) rfl ?_
    refine F.q rfl rfl rfl (wanted_none rfl) (r_assign rfl) ?_
    refine F.nil ?_
    refine Nrm.seq ?_
    refine Tri.ret ?_
    refine Rtn.then ?_
    cases h
    exact Rtn.body (.tmp rfl .nil) (fun w hw => ⟨rfl, hw.ext⟩)
  · replace h := if_ff g_1 h
    refine Tri.skip ?_
    refine Nrm.seq ?_
    refine Tri.seq ?_
    refine Tri.seq ?_
    refine Tri.reg (l := [0]) rfl ?_
    refine F.q rfl rfl rfl (wanted_none rfl) (r_assign rfl) ?_
    refine F.nil ?_
    refine Nrm.seq ?_
    obtain ⟨s0, hE_1, h⟩ := bind_some h
    refine Tri.block ?_
    refine Tri.only [0, 1, 5] rfl ?_
    refine Tri.pick [] rfl rfl ?_
    refine Tri.rounds (fun n e' C' => ∃ (x5' : Int), laws_eqIntS.l0 k a0 a1 n x5' = some s0 ∧ e' = [(0, va0), (1, va1), (5, .int .i64 x5')] ∧ C' = Sep w noM []) k ?_ ?_ ?_
    · exact ⟨0, hE_1, rfl, rfl⟩
    · rintro _ _ ⟨_, hE_1, _⟩
      rw [laws_eqIntS.l0.eq_1] at hE_1; cases hE_1
    · rintro n_1 _ _ ⟨x5, hE_1, rfl, rfl⟩ ih_1
      rw [laws_eqIntS.l0.eq_2] at hE_1
      refine Tri.seq ?_
      refine Tri.seq ?_
      refine Tri.reg (l := [0, 1, 2, 3]) rfl ?_
      refine F.q rfl rfl rfl (wanted_none rfl) (r_move rfl) ?_
      refine F.q rfl rfl rfl (wanted_none rfl) (r_move rfl) ?_
      refine F.q rfl rfl rfl (wanted_none rfl) (r_len Try.underlying38 rfl hl_va0) ?_
      refine F.q rfl rfl rfl (wanted_none rfl) (r_lss rfl rfl) ?_
      refine F.nil ?_
      refine Nrm.seq ?_
      refine Tri.cond (b := decide (x5 < (a0.length : Int))) rfl (fun g_2 => ?_) (fun g_2 => ?_)
      · replace hE_1 := if_tt g_2 hE_1
        refine Tri.skip ?_
        refine Nrm.seq ?_
        refine Tri.seq ?_
        refine Tri.block ?_
        refine Tri.seq ?_
        obtain ⟨t19, h19, hE_1⟩ := bind_some hE_1
        obtain ⟨t23, h23, hE_1⟩ := bind_some hE_1
        refine Tri.drawA mixedT Sep.up [(0, true), (1, true), (2, true), (3, true), (4, true), (5, true), (6, true), (7, true), (8, true)] [] (by kernel_rfl) ?_
        refine S.q rfl rfl rfl (wanted_none rfl) (r_move rfl) ?_
        refine S.q rfl rfl rfl (wanted_none rfl) (r_move rfl) ?_
        refine S.q rfl rfl rfl (wanted_none rfl) (r_indexAddrS Try.underlying38 ti3 rfl hl_va0 rfl (rdl_some h19).1 (rdl_some h19).2.1) ?_
        refine S.q rfl rfl rfl (wanted_none rfl) (r_load ta3 rfl (fun w hw => cell_0 (Rd.flat ((fun _ hw => hr_a0.sep hw) w hw) (rdl_some h19).2.2) rfl)) ?_
        refine S.q rfl rfl rfl (wanted_none rfl) (r_move rfl) ?_
        refine S.q rfl rfl rfl (wanted_none rfl) (r_move rfl) ?_
        refine S.q rfl rfl rfl (wanted_none rfl) (r_indexAddrS Try.underlying38 ti3 rfl hl_va1 rfl (rdl_some h23).1 (rdl_some h23).2.1) ?_
        refine S.q rfl rfl rfl (wanted_none rfl) (r_load ta3 rfl (fun w hw => cell_0 (Rd.flat ((fun _ hw => hr_a1.sep hw) w hw) (rdl_some h23).2.2) rfl)) ?_
        refine S.q rfl rfl rfl (wanted_none rfl) (r_neq rfl rfl) ?_
        refine S.nil ?_
        refine F.nil ?_
        refine Nrm.seq ?_
        refine Tri.cond (b := t19 != t23) rfl (fun g_3 => ?_) (fun g_3 => ?_)
        · replace hE_1 := if_tt g_3 hE_1
          refine Tri.seq ?_
          refine Tri.reg (l := [0]) rfl ?_
          refine F.q rfl rfl rfl (wanted_none rfl) (r_assign rfl) ?_
          refine F.nil ?_
          refine Nrm.seq ?_
          refine Tri.ret ?_
          refine Rtn.block ?_
          refine Rtn.then ?_
          refine Rtn.then ?_
          refine Rtn.block ?_
          refine Rtn.then ?_
          cases hE_1
          replace h := Lr_inr h
          cases h
          exact Rtn.body (.tmp rfl .nil) (fun w hw => ⟨rfl, hw.ext⟩)
        · replace hE_1 := if_ff g_3 hE_1
          refine Tri.skip ?_
          refine Nrm.block ?_
          refine Nrm.seq ?_
          refine Tri.reg (l := [0, 1, 2]) rfl ?_
          refine F.q rfl rfl rfl (wanted_none rfl) (r_move rfl) ?_
          refine F.q rfl rfl rfl (wanted_none rfl) (r_add rfl rfl) ?_
          refine F.q rfl rfl rfl (wanted_none rfl) (r_assign rfl) ?_
          refine F.nil ?_
          refine Nrm.round ?_
          refine Rnd.only [0, 1, 5] rfl ?_
          refine Rnd.pick [] rfl rfl ?_
          exact ih_1 _ _ ⟨w64 (x5 + 1), hE_1, rfl, rfl⟩
      · replace hE_1 := if_ff g_2 hE_1
        refine Tri.exit ?_
        refine Exi.then ?_
        refine Exi.then ?_
        refine Exi.same ?_
        cases hE_1
        replace h := Lr_inl h
        refine Nrm.seq ?_
        refine Tri.seq ?_
        refine Tri.reg (l := [0]) rfl ?_
        refine F.q rfl rfl rfl (wanted_none rfl) (r_assign rfl) ?_
        refine F.nil ?_
        refine Nrm.seq ?_
        refine Tri.ret ?_
        cases h
        exact Rtn.body (.tmp rfl .nil) (fun w hw => ⟨rfl, hw.ext⟩)

end Go.Proofs

/- loop.example/g01158/laws.eqIntSS -/
namespace Go.Proofs
open Go Go.Ga
set_option linter.unusedVariables false
set_option maxRecDepth 100000
set_option maxHeartbeats 4000000
def laws_eqIntSS.l0 (k : Nat) (a0 : List (List Int)) (a1 : List (List Int)) : Nat → Int → Option ((Unit) ⊕ (Bool))
  | 0, _ => none
  | n + 1, x5 => (if (decide (x5 < (a0.length : Int))) = true then (rdl a0 x5).bind fun t19 => (rdl a1 x5).bind fun t23 => (laws_eqIntS.f k t19 t23).bind fun t25 => (if (!t25) = true then some (Sum.inr false) else laws_eqIntSS.l0 k a0 a1 n (w64 (x5 + 1))) else some (Sum.inl ()))

def laws_eqIntSS.f (k : Nat) (a0 : List (List Int)) (a1 : List (List Int)) : Option (Bool) := (if ((a0.length : Int) != (a1.length : Int)) = true then some false else (laws_eqIntSS.l0 k a0 a1 k 0).bind fun s => Lr s some fun _ => some true)

theorem laws_eqIntSS.ok {k : Nat}  {a0 : List (List Int)} {a1 : List (List Int)} {r0 : Bool} (h : laws_eqIntSS.f k a0 a1 = some r0) (w : World) {va0 : Value} {va1 : Value} (hr_a0 : Rd w va0 a0) (hr_a1 : Rd w va1 a1) :
    Calls Try.prog 19 ([va0, va1] : List Value).toArray w (fun e w' => e = .returned (.bool r0) ∧ Ext w w') := by
  unfold laws_eqIntSS.f at h
  have hl_va0 := hr_a0.len
  have hl_va1 := hr_a1.len
  refine Calls.of_tri (N := 27) Try.func19 rfl rfl rfl (Sep.nil (M := noM)) ?_
  refine Tri.seq ?_
  refine Tri.reg (l := [0]) rfl ?_
  refine F.q rfl rfl rfl (wanted_none rfl) (r_assign rfl) ?_
  refine F.nil ?_
  refine Nrm.seq ?_
  refine Tri.seq ?_
  refine Tri.seq ?_
  refine Tri.reg (l := [0, 1, 2, 3, 4]) rfl ?_
  refine F.q rfl rfl rfl (wanted_none rfl) (r_move rfl) ?_
  refine F.q rfl rfl rfl (wanted_none rfl) (r_len Try.underlying23 rfl hl_va0) ?_
  refine F.q rfl rfl rfl (wanted_none rfl) (r_move rfl) ?_
  refine F.q rfl rfl rfl (wanted_none rfl) (r_len Try.underlying23 rfl hl_va1) ?_
  refine F.q rfl rfl rfl (wanted_none rfl) (r_neq rfl rfl) ?_
  refine F.nil ?_
  refine Nrm.seq ?_
  refine Tri.cond (b := (a0.length : Int) != (a1.length : Int)) rfl (fun g_1 => ?_) (fun g_1 => ?_)
  · replace h := if_tt g_1 h
    refine Tri.seq ?_
    refine Tri.reg (l := [0]) rfl ?_
    refine F.q rfl rfl rfl (wanted_none rfl) (r_assign rfl) ?_
    refine F.nil ?_
    refine Nrm.seq ?_
    refine Tri.ret ?_
    refine Rtn.then ?_
    cases h
    exact Rtn.body (.tmp rfl .nil) (fun w hw => ⟨rfl, hw.ext⟩)
  · replace h := if_ff g_1 h
    refine Tri.skip ?_
    refine Nrm.seq ?_
    refine Tri.seq ?_
    refine Tri.seq ?_
    refine Tri.reg (l := [0]) rfl ?_
    refine F.q rfl rfl rfl (wanted_none rfl) (r_assign rfl) ?_
    refine F.nil ?_
    refine Nrm.seq ?_
    obtain ⟨s0, hE_1, h⟩ := bind_some h
    refine Tri.block ?_
    refine Tri.only [0, 1, 5] rfl ?_
    refine Tri.pick [] rfl rfl ?_
    refine Tri.rounds (fun n e' C' => ∃ (x5' : Int), laws_eqIntSS.l0 k a0 a1 n x5' = some s0 ∧ e' = [(0, va0), (1, va1), (5, .int .i64 x5')] ∧ C' = Sep w noM []) k ?_ ?_ ?_
    · exact ⟨0, hE_1, rfl, rfl⟩
    · rintro _ _ ⟨_, hE_1, _⟩
      rw [laws_eqIntSS.l0.eq_1] at hE_1; cases hE_1
    · rintro n_1 _ _ ⟨x5, hE_1, rfl, rfl⟩ ih_1
      rw [laws_eqIntSS.l0.eq_2] at hE_1
      refine Tri.seq ?_
      refine Tri.seq ?_
      refine Tri.reg (l := [0, 1, 2, 3]) rfl ?_
      refine F.q rfl rfl rfl (wanted_none rfl) (r_move rfl) ?_
      refine F.q rfl rfl rfl (wanted_none rfl) (r_move rfl) ?_
      refine F.q rfl rfl rfl (wanted_none rfl) (r_len Try.underlying23 rfl hl_va0) ?_
      refine F.q rfl rfl rfl (wanted_none rfl) (r_lss rfl rfl) ?_
      refine F.nil ?_
      refine Nrm.seq ?_
      refine Tri.cond (b := decide (x5 < (a0.length : Int))) rfl (fun g_2 => ?_) (fun g_2 => ?_)
      · replace hE_1 := if_tt g_2 hE_1
        refine Tri.skip ?_
        refine Nrm.seq ?_
        refine Tri.seq ?_
        refine Tri.block ?_
        refine Tri.seq ?_
        obtain ⟨t19, h19, hE_1⟩ := bind_some hE_1
        obtain ⟨_, hc19, hp19⟩ := Rd.elem hr_a0 (rdl_some h19).2.2
        obtain ⟨v19_0, rfl, hr_v19_0⟩ := op38 hp19
        have hl_v19_0 := hr_v19_0.len
        obtain ⟨t23, h23, hE_1⟩ := bind_some hE_1
        obtain ⟨_, hc23, hp23⟩ := Rd.elem hr_a1 (rdl_some h23).2.2
        obtain ⟨v23_0, rfl, hr_v23_0⟩ := op38 hp23
        have hl_v23_0 := hr_v23_0.len
        obtain ⟨t25, h25, hE_1⟩ := bind_some hE_1
        refine Tri.drawA mixedT Sep.up [(0, true), (1, true), (2, true), (3, true), (4, true), (5, true), (6, true), (7, true), (8, true), (9, true)] [] (by kernel_rfl) ?_
        refine S.q rfl rfl rfl (wanted_none rfl) (r_move rfl) ?_
        refine S.q rfl rfl rfl (wanted_none rfl) (r_move rfl) ?_
        refine S.q rfl rfl rfl (wanted_none rfl) (r_indexAddrS Try.underlying23 ti38 rfl hl_va0 rfl (rdl_some h19).1 (rdl_some h19).2.1) ?_
        refine S.q rfl rfl rfl (wanted_none rfl) (r_load ta38 rfl (fun w hw => cell_0 (hc19.sep hw) rfl)) ?_
        refine S.q rfl rfl rfl (wanted_none rfl) (r_move rfl) ?_
        refine S.q rfl rfl rfl (wanted_none rfl) (r_move rfl) ?_
        refine S.q rfl rfl rfl (wanted_none rfl) (r_indexAddrS Try.underlying23 ti38 rfl hl_va1 rfl (rdl_some h23).1 (rdl_some h23).2.1) ?_
        refine S.q rfl rfl rfl (wanted_none rfl) (r_load ta38 rfl (fun w hw => cell_0 (hc23.sep hw) rfl)) ?_
        refine S.qc rfl rfl rfl (wanted_none rfl) (q_callF (xs := _) rfl ok26 rfl rfl (fun w hw => laws_eqIntS.ok h25 w ((fun _ hw => hr_v19_0.sep hw) w hw) ((fun _ hw => hr_v23_0.sep hw) w hw))) ?_
        refine S.q rfl rfl rfl (wanted_none rfl) (r_not rfl) ?_
        refine S.nil ?_
        refine F.nil ?_
        refine Nrm.seq ?_
        refine Tri.cond (b := !t25) rfl (fun g_3 => ?_) (fun g_3 => ?_)
        · replace hE_1 := if_tt g_3 hE_1
          refine Tri.seq ?_
          refine Tri.reg (l := [0]) rfl ?_
          refine F.q rfl rfl rfl (wanted_none rfl) (r_assign rfl) ?_
          refine F.nil ?_
          refine Nrm.seq ?_
          refine Tri.ret ?_
          refine Rtn.block ?_
          refine Rtn.then ?_
          refine Rtn.then ?_
          refine Rtn.block ?_
          refine Rtn.then ?_
          cases hE_1
          replace h := Lr_inr h
          cases h
          exact Rtn.body (.tmp rfl .nil) (fun w hw => ⟨rfl, hw.ext⟩)
        · replace hE_1 := if_ff g_3 hE_1
          refine Tri.skip ?_
          refine Nrm.block ?_
          refine Nrm.seq ?_
          refine Tri.reg (l := [0, 1, 2]) rfl ?_
          refine F.q rfl rfl rfl (wanted_none rfl) (r_move rfl) ?_
          refine F.q rfl rfl rfl (wanted_none rfl) (r_add rfl rfl) ?_
          refine F.q rfl rfl rfl (wanted_none rfl) (r_assign rfl) ?_
          refine F.nil ?_
          refine Nrm.round ?_
          refine Rnd.only [0, 1, 5] rfl ?_
          refine Rnd.pick [] rfl rfl ?_
          exact ih_1 _ _ ⟨w64 (x5 + 1), hE_1, rfl, rfl⟩
      · replace hE_1 := if_ff g_2 hE_1
        refine Tri.exit ?_
        refine Exi.then ?_
        refine Exi.then ?_
        refine Exi.same ?_
        cases hE_1
        replace h := Lr_inl h
        refine Nrm.seq ?_
        refine Tri.seq ?_
        refine Tri.reg (l := [0]) rfl ?_
        refine F.q rfl rfl rfl (wanted_none rfl) (r_assign rfl) ?_
        refine F.nil ?_
        refine Nrm.seq ?_
        refine Tri.ret ?_
        cases h
        exact Rtn.body (.tmp rfl .nil) (fun w hw => ⟨rfl, hw.ext⟩)

end Go.Proofs

/- loop.example/g01158/laws.eqIntA3 -/

namespace Go.Proofs
open Go Go.Ga
set_option linter.unusedVariables false
set_option maxRecDepth 100000
set_option maxHeartbeats 4000000
def laws_eqIntA3.l0 (k : Nat) (a0_0 : Int) (a0_1 : Int) (a0_2 : Int) (a1_0 : Int) (a1_1 : Int) (a1_2 : Int) : Nat → Int → Option ((Unit) ⊕ (Bool))
  | 0, _ => none
  | n + 1, x5 => (if (decide (x5 < 3)) = true then (rdl [a0_0, a0_1, a0_2] x5).bind fun t11 => (rdl [a1_0, a1_1, a1_2] x5).bind fun t14 => (if (t11 != t14) = true then some (Sum.inr false) else laws_eqIntA3.l0 k a0_0 a0_1 a0_2 a1_0 a1_1 a1_2 n (w64 (x5 + 1))) else some (Sum.inl ()))

def laws_eqIntA3.f (k : Nat) (a0_0 : Int) (a0_1 : Int) (a0_2 : Int) (a1_0 : Int) (a1_1 : Int) (a1_2 : Int) : Option (Bool) := (laws_eqIntA3.l0 k a0_0 a0_1 a0_2 a1_0 a1_1 a1_2 k 0).bind fun s => Lr s some fun _ => some true

theorem laws_eqIntA3.ok {k : Nat}  {a0_0 : Int} {a0_1 : Int} {a0_2 : Int} {a1_0 : Int} {a1_1 : Int} {a1_2 : Int} {r0 : Bool} (h : laws_eqIntA3.f k a0_0 a0_1 a0_2 a1_0 a1_1 a1_2 = some r0) (w : World) :
    Calls Try.prog 168 ([.agg ([.int .i64 a0_0, .int .i64 a0_1, .int .i64 a0_2].toArray), .agg ([.int .i64 a1_0, .int .i64 a1_1, .int .i64 a1_2].toArray)] : List Value).toArray w (fun e w' => e = .returned (.bool r0) ∧ Ext w w') := by
  unfold laws_eqIntA3.f at h
  refine Calls.of_tri (N := 17) Try.func168 rfl rfl rfl (Sep.nil (M := noM)) ?_
  refine Tri.seq ?_
  refine Tri.reg (l := [0, 1, 2]) rfl ?_
  refine F.m rfl rfl rfl (wanted_none rfl) (m_boxG rfl rfl) ?_
  rintro _ _ ⟨b2_1, rfl, rfl⟩
  refine F.m rfl rfl rfl (wanted_none rfl) (m_boxG rfl rfl) ?_
  rintro _ _ ⟨b3_1, rfl, rfl⟩
  refine F.q rfl rfl rfl (wanted_none rfl) (r_assign rfl) ?_
  refine F.nil ?_
  refine Nrm.seq ?_
  refine Tri.seq ?_
  refine Tri.seq ?_
  refine Tri.reg (l := [0]) rfl ?_
  refine F.q rfl rfl rfl (wanted_none rfl) (r_assign rfl) ?_
  refine F.nil ?_
  refine Nrm.seq ?_
  obtain ⟨s0, hE_1, h⟩ := bind_some h
  refine Tri.block ?_
  refine Tri.only [2, 3, 5] rfl ?_
  refine Tri.pick [0, 1] rfl rfl ?_
  refine Tri.rounds (fun n e' C' => ∃ (x5' : Int), laws_eqIntA3.l0 k a0_0 a0_1 a0_2 a1_0 a1_1 a1_2 n x5' = some s0 ∧ e' = [(2, .pointer (some ⟨b2_1, 0, none⟩)), (3, .pointer (some ⟨b3_1, 0, none⟩)), (5, .int .i64 x5')] ∧ C' = Sep w noM [R.box b3_1 140 [.int .i64 a1_0, .int .i64 a1_1, .int .i64 a1_2], R.box b2_1 140 [.int .i64 a0_0, .int .i64 a0_1, .int .i64 a0_2]]) k ?_ ?_ ?_
  · exact ⟨0, hE_1, rfl, rfl⟩
  · rintro _ _ ⟨_, hE_1, _⟩
    rw [laws_eqIntA3.l0.eq_1] at hE_1; cases hE_1
  · rintro n_1 _ _ ⟨x5, hE_1, rfl, rfl⟩ ih_1
    rw [laws_eqIntA3.l0.eq_2] at hE_1
    refine Tri.seq ?_
    refine Tri.seq ?_
    refine Tri.reg (l := [0, 1]) rfl ?_
    refine F.q rfl rfl rfl (wanted_none rfl) (r_move rfl) ?_
    refine F.q rfl rfl rfl (wanted_none rfl) (r_lss rfl rfl) ?_
    refine F.nil ?_
    refine Nrm.seq ?_
    refine Tri.cond (b := decide (x5 < 3)) rfl (fun g_1 => ?_) (fun g_1 => ?_)
    · replace hE_1 := if_tt g_1 hE_1
      refine Tri.skip ?_
      refine Nrm.seq ?_
      refine Tri.seq ?_
      refine Tri.block ?_
      refine Tri.seq ?_
      obtain ⟨t11, h11, hE_1⟩ := bind_some hE_1
      obtain ⟨t14, h14, hE_1⟩ := bind_some hE_1
      refine Tri.drawA mixedT Sep.up [(0, true), (1, true), (2, true), (3, true), (4, true), (5, true), (6, true)] [] (by kernel_rfl) ?_
      refine S.q rfl rfl rfl (wanted_none rfl) (r_move rfl) ?_
      refine S.q rfl rfl rfl (wanted_none rfl) (r_indexAddrA Try.underlying140 ti3 rfl rfl (rdl_some h11).1 (rdl_some h11).2.1) ?_
      refine S.q rfl rfl rfl (wanted_none rfl) (r_load ta3 rfl (fun w hw => cell_dynB (box_cells (i := 1) rfl w hw) rfl h11)) ?_
      refine S.q rfl rfl rfl (wanted_none rfl) (r_move rfl) ?_
      refine S.q rfl rfl rfl (wanted_none rfl) (r_indexAddrA Try.underlying140 ti3 rfl rfl (rdl_some h14).1 (rdl_some h14).2.1) ?_
      refine S.q rfl rfl rfl (wanted_none rfl) (r_load ta3 rfl (fun w hw => cell_dynB (box_cells (i := 0) rfl w hw) rfl h14)) ?_
      refine S.q rfl rfl rfl (wanted_none rfl) (r_neq rfl rfl) ?_
      refine S.nil ?_
      refine F.nil ?_
      refine Nrm.seq ?_
      refine Tri.cond (b := t11 != t14) rfl (fun g_2 => ?_) (fun g_2 => ?_)
      · replace hE_1 := if_tt g_2 hE_1
        refine Tri.seq ?_
        refine Tri.reg (l := [0]) rfl ?_
        refine F.q rfl rfl rfl (wanted_none rfl) (r_assign rfl) ?_
        refine F.nil ?_
        refine Nrm.seq ?_
        refine Tri.ret ?_
        refine Rtn.block ?_
        refine Rtn.then ?_
        refine Rtn.then ?_
        refine Rtn.block ?_
        refine Rtn.then ?_
        cases hE_1
        replace h := Lr_inr h
        cases h
        exact Rtn.body (.tmp rfl .nil) (fun w hw => ⟨rfl, hw.ext⟩)
      · replace hE_1 := if_ff g_2 hE_1
        refine Tri.skip ?_
        refine Nrm.block ?_
        refine Nrm.seq ?_
        refine Tri.reg (l := [0, 1, 2]) rfl ?_
        refine F.q rfl rfl rfl (wanted_none rfl) (r_move rfl) ?_
        refine F.q rfl rfl rfl (wanted_none rfl) (r_add rfl rfl) ?_
        refine F.q rfl rfl rfl (wanted_none rfl) (r_assign rfl) ?_
        refine F.nil ?_
        refine Nrm.round ?_
        refine Rnd.only [2, 3, 5] rfl ?_
        refine Rnd.pick [0, 1] rfl rfl ?_
        exact ih_1 _ _ ⟨w64 (x5 + 1), hE_1, rfl, rfl⟩
    · replace hE_1 := if_ff g_1 hE_1
      refine Tri.exit ?_
      refine Exi.then ?_
      refine Exi.then ?_
      refine Exi.same ?_
      cases hE_1
      replace h := Lr_inl h
      refine Nrm.seq ?_
      refine Tri.seq ?_
      refine Tri.reg (l := [0]) rfl ?_
      refine F.q rfl rfl rfl (wanted_none rfl) (r_assign rfl) ?_
      refine F.nil ?_
      refine Nrm.seq ?_
      refine Tri.ret ?_
      cases h
      exact Rtn.body (.tmp rfl .nil) (fun w hw => ⟨rfl, hw.ext⟩)

end Go.Proofs

/- loop.example/g01158/laws.eqIntA3S -/
namespace Go.Proofs
open Go Go.Ga
set_option linter.unusedVariables false
set_option maxRecDepth 100000
set_option maxHeartbeats 4000000
def laws_eqIntA3S.l0 (k : Nat) (a0 : List (Int × Int × Int)) (a1 : List (Int × Int × Int)) : Nat → Int → Option ((Unit) ⊕ (Bool))
  | 0, _ => none
  | n + 1, x5 => (if (decide (x5 < (a0.length : Int))) = true then (rdl a0 x5).bind fun t19 => (rdl a1 x5).bind fun t23 => (laws_eqIntA3.f k t19.1 t19.2.1 t19.2.2 t23.1 t23.2.1 t23.2.2).bind fun t25 => (if (!t25) = true then some (Sum.inr false) else laws_eqIntA3S.l0 k a0 a1 n (w64 (x5 + 1))) else some (Sum.inl ()))

def laws_eqIntA3S.f (k : Nat) (a0 : List (Int × Int × Int)) (a1 : List (Int × Int × Int)) : Option (Bool) := (if ((a0.length : Int) != (a1.length : Int)) = true then some false else (laws_eqIntA3S.l0 k a0 a1 k 0).bind fun s => Lr s some fun _ => some true)

theorem laws_eqIntA3S.ok {k : Nat}  {a0 : List (Int × Int × Int)} {a1 : List (Int × Int × Int)} {r0 : Bool} (h : laws_eqIntA3S.f k a0 a1 = some r0) (w : World) {va0 : Value} {va1 : Value} (hr_a0 : Rd w va0 a0) (hr_a1 : Rd w va1 a1) :
    Calls Try.prog 141 ([va0, va1] : List Value).toArray w (fun e w' => e = .returned (.bool r0) ∧ Ext w w') := by
  unfold laws_eqIntA3S.f at h
  have hl_va0 := hr_a0.len
  have hl_va1 := hr_a1.len
  refine Calls.of_tri (N := 27) Try.func141 rfl rfl rfl (Sep.nil (M := noM)) ?_
  refine Tri.seq ?_
  refine Tri.reg (l := [0]) rfl ?_
  refine F.q rfl rfl rfl (wanted_none rfl) (r_assign rfl) ?_
  refine F.nil ?_
  refine Nrm.seq ?_
  refine Tri.seq ?_
  refine Tri.seq ?_
  refine Tri.reg (l := [0, 1, 2, 3, 4]) rfl ?_
  refine F.q rfl rfl rfl (wanted_none rfl) (r_move rfl) ?_
  refine F.q rfl rfl rfl (wanted_none rfl) (r_len Try.underlying49 rfl hl_va0) ?_
  refine F.q rfl rfl rfl (wanted_none rfl) (r_move rfl) ?_
  refine F.q rfl rfl rfl (wanted_none rfl) (r_len Try.underlying49 rfl hl_va1) ?_
  refine F.q rfl rfl rfl (wanted_none rfl) (r_neq rfl rfl) ?_
  refine F.nil ?_
  refine Nrm.seq ?_
  refine Tri.cond (b := (a0.length : Int) != (a1.length : Int)) rfl (fun g_1 => ?_) (fun g_1 => ?_)
  · replace h := if_tt g_1 h
    refine Tri.seq ?_
    refine Tri.reg (l := [0]) rfl ?_
    refine F.q rfl rfl rfl (wanted_none rfl) (r_assign rfl) ?_
    refine F.nil ?_
    refine Nrm.seq ?_
    refine Tri.ret ?_
    refine Rtn.then ?_
    cases h
    exact Rtn.body (.tmp rfl .nil) (fun w hw => ⟨rfl, hw.ext⟩)
  · replace h := if_ff g_1 h
    refine Tri.skip ?_
    refine Nrm.seq ?_
    refine Tri.seq ?_
    refine Tri.seq ?_
    refine Tri.reg (l := [0]) rfl ?_
    refine F.q rfl rfl rfl (wanted_none rfl) (r_assign rfl) ?_
    refine F.nil ?_
    refine Nrm.seq ?_
    obtain ⟨s0, hE_1, h⟩ := bind_some h
    refine Tri.block ?_
    refine Tri.only [0, 1, 5] rfl ?_
    refine Tri.pick [] rfl rfl ?_
    refine Tri.rounds (fun n e' C' => ∃ (x5' : Int), laws_eqIntA3S.l0 k a0 a1 n x5' = some s0 ∧ e' = [(0, va0), (1, va1), (5, .int .i64 x5')] ∧ C' = Sep w noM []) k ?_ ?_ ?_
    · exact ⟨0, hE_1, rfl, rfl⟩
    · rintro _ _ ⟨_, hE_1, _⟩
      rw [laws_eqIntA3S.l0.eq_1] at hE_1; cases hE_1
    · rintro n_1 _ _ ⟨x5, hE_1, rfl, rfl⟩ ih_1
      rw [laws_eqIntA3S.l0.eq_2] at hE_1
      refine Tri.seq ?_
      refine Tri.seq ?_
      refine Tri.reg (l := [0, 1, 2, 3]) rfl ?_
      refine F.q rfl rfl rfl (wanted_none rfl) (r_move rfl) ?_
      refine F.q rfl rfl rfl (wanted_none rfl) (r_move rfl) ?_
      refine F.q rfl rfl rfl (wanted_none rfl) (r_len Try.underlying49 rfl hl_va0) ?_
      refine F.q rfl rfl rfl (wanted_none rfl) (r_lss rfl rfl) ?_
      refine F.nil ?_
      refine Nrm.seq ?_
      refine Tri.cond (b := decide (x5 < (a0.length : Int))) rfl (fun g_2 => ?_) (fun g_2 => ?_)
      · replace hE_1 := if_tt g_2 hE_1
        refine Tri.skip ?_
        refine Nrm.seq ?_
        refine Tri.seq ?_
        refine Tri.block ?_
        refine Tri.seq ?_
        obtain ⟨t19, h19, hE_1⟩ := bind_some hE_1
        obtain ⟨t23, h23, hE_1⟩ := bind_some hE_1
        obtain ⟨t25, h25, hE_1⟩ := bind_some hE_1
        refine Tri.drawA mixedT Sep.up [(0, true), (1, true), (2, true), (3, true), (4, true), (5, true), (6, true), (7, true), (8, true), (9, true)] [] (by kernel_rfl) ?_
        refine S.q rfl rfl rfl (wanted_none rfl) (r_move rfl) ?_
        refine S.q rfl rfl rfl (wanted_none rfl) (r_move rfl) ?_
        refine S.q rfl rfl rfl (wanted_none rfl) (r_indexAddrS Try.underlying49 ti140 rfl hl_va0 rfl (rdl_some h19).1 (rdl_some h19).2.1) ?_
        refine S.q rfl rfl rfl (wanted_none rfl) (r_loadA ta140 ti140 rfl rfl (fun w hw => (Rd.flat ((fun _ hw => hr_a0.sep hw) w hw) (rdl_some h19).2.2))) ?_
        refine S.q rfl rfl rfl (wanted_none rfl) (r_move rfl) ?_
        refine S.q rfl rfl rfl (wanted_none rfl) (r_move rfl) ?_
        refine S.q rfl rfl rfl (wanted_none rfl) (r_indexAddrS Try.underlying49 ti140 rfl hl_va1 rfl (rdl_some h23).1 (rdl_some h23).2.1) ?_
        refine S.q rfl rfl rfl (wanted_none rfl) (r_loadA ta140 ti140 rfl rfl (fun w hw => (Rd.flat ((fun _ hw => hr_a1.sep hw) w hw) (rdl_some h23).2.2))) ?_
        refine S.qc rfl rfl rfl (wanted_none rfl) (q_callF (xs := _) rfl ok168 rfl rfl (fun w hw => laws_eqIntA3.ok h25 w )) ?_
        refine S.q rfl rfl rfl (wanted_none rfl) (r_not rfl) ?_
        refine S.nil ?_
        refine F.nil ?_
        refine Nrm.seq ?_
        refine Tri.cond (b := !t25) rfl (fun g_3 => ?_) (fun g_3 => ?_)
        · replace hE_1 := if_tt g_3 hE_1
          refine Tri.seq ?_
          refine Tri.reg (l := [0]) rfl ?_
          refine F.q rfl rfl rfl (wanted_none rfl) (r_assign rfl) ?_
          refine F.nil ?_
          refine Nrm.seq ?_
          refine Tri.ret ?_
          refine Rtn.block ?_
          refine Rtn.then ?_
          refine Rtn.then ?_
          refine Rtn.block ?_
          refine Rtn.then ?_
          cases hE_1
          replace h := Lr_inr h
          cases h
          exact Rtn.body (.tmp rfl .nil) (fun w hw => ⟨rfl, hw.ext⟩)
        · replace hE_1 := if_ff g_3 hE_1
          refine Tri.skip ?_
          refine Nrm.block ?_
          refine Nrm.seq ?_
          refine Tri.reg (l := [0, 1, 2]) rfl ?_
          refine F.q rfl rfl rfl (wanted_none rfl) (r_move rfl) ?_
          refine F.q rfl rfl rfl (wanted_none rfl) (r_add rfl rfl) ?_
          refine F.q rfl rfl rfl (wanted_none rfl) (r_assign rfl) ?_
          refine F.nil ?_
          refine Nrm.round ?_
          refine Rnd.only [0, 1, 5] rfl ?_
          refine Rnd.pick [] rfl rfl ?_
          exact ih_1 _ _ ⟨w64 (x5 + 1), hE_1, rfl, rfl⟩
      · replace hE_1 := if_ff g_2 hE_1
        refine Tri.exit ?_
        refine Exi.then ?_
        refine Exi.then ?_
        refine Exi.same ?_
        cases hE_1
        replace h := Lr_inl h
        refine Nrm.seq ?_
        refine Tri.seq ?_
        refine Tri.reg (l := [0]) rfl ?_
        refine F.q rfl rfl rfl (wanted_none rfl) (r_assign rfl) ?_
        refine F.nil ?_
        refine Nrm.seq ?_
        refine Tri.ret ?_
        cases h
        exact Rtn.body (.tmp rfl .nil) (fun w hw => ⟨rfl, hw.ext⟩)

end Go.Proofs

/- loop.example/g01158/laws.eqMaze -/
namespace Go.Proofs
open Go Go.Ga
set_option linter.unusedVariables false
set_option maxRecDepth 100000
set_option maxHeartbeats 4000000
def laws_eqMaze.f (k : Nat) (a0_0 : Int) (a0_1 : List (Int × Int × Int)) (a0_2 : List Int) (a1_0 : Int) (a1_1 : List (Int × Int × Int)) (a1_2 : List Int) : Option (Bool) := (if (a0_0 != a1_0) = true then some false else (laws_eqIntA3S.f k a0_1 a1_1).bind fun t14 => (if (!t14) = true then some false else (laws_eqIntS.f k a0_2 a1_2).bind fun t20 => (if (!t20) = true then some false else some true)))

theorem laws_eqMaze.ok {k : Nat}  {a0_0 : Int} {a0_1 : List (Int × Int × Int)} {a0_2 : List Int} {a1_0 : Int} {a1_1 : List (Int × Int × Int)} {a1_2 : List Int} {r0 : Bool} (h : laws_eqMaze.f k a0_0 a0_1 a0_2 a1_0 a1_1 a1_2 = some r0) (w : World) {va0_1 : Value} {va0_2 : Value} {va1_1 : Value} {va1_2 : Value} (hr_a0_1 : Rd w va0_1 a0_1) (hr_a0_2 : Rd w va0_2 a0_2) (hr_a1_1 : Rd w va1_1 a1_1) (hr_a1_2 : Rd w va1_2 a1_2) :
    Calls Try.prog 93 ([.agg ([.int .i64 a0_0, va0_1, va0_2].toArray), .agg ([.int .i64 a1_0, va1_1, va1_2].toArray)] : List Value).toArray w (fun e w' => e = .returned (.bool r0) ∧ Ext w w') := by
  unfold laws_eqMaze.f at h
  have hl_va0_1 := hr_a0_1.len
  have hl_va0_2 := hr_a0_2.len
  have hl_va1_1 := hr_a1_1.len
  have hl_va1_2 := hr_a1_2.len
  refine Calls.of_tri (N := 22) Try.func93 rfl rfl rfl (Sep.nil (M := noM)) ?_
  refine Tri.seq ?_
  refine Tri.reg (l := [0, 1, 2]) rfl ?_
  refine F.m rfl rfl rfl (wanted_none rfl) (m_boxG rfl rfl) ?_
  rintro _ _ ⟨b2_1, rfl, rfl⟩
  refine F.m rfl rfl rfl (wanted_none rfl) (m_boxG rfl rfl) ?_
  rintro _ _ ⟨b3_1, rfl, rfl⟩
  refine F.q rfl rfl rfl (wanted_none rfl) (r_assign rfl) ?_
  refine F.nil ?_
  refine Nrm.seq ?_
  refine Tri.seq ?_
  refine Tri.seq ?_
  refine Tri.reg (l := [0, 1, 2, 3, 4]) rfl ?_
  refine F.q rfl rfl rfl (wanted_none rfl) (r_fieldAddr tf55_0 rfl) ?_
  refine F.q rfl rfl rfl (wanted_none rfl) (r_load ta3 rfl (fun w hw => cell_1 (box_cells (i := 1) rfl w hw) rfl)) ?_
  refine F.q rfl rfl rfl (wanted_none rfl) (r_fieldAddr tf55_0 rfl) ?_
  refine F.q rfl rfl rfl (wanted_none rfl) (r_load ta3 rfl (fun w hw => cell_1 (box_cells (i := 0) rfl w hw) rfl)) ?_
  refine F.q rfl rfl rfl (wanted_none rfl) (r_neq rfl rfl) ?_
  refine F.nil ?_
  refine Nrm.seq ?_
  refine Tri.cond (b := a0_0 != a1_0) rfl (fun g_1 => ?_) (fun g_1 => ?_)
  · replace h := if_tt g_1 h
    refine Tri.seq ?_
    refine Tri.reg (l := [0]) rfl ?_
    refine F.q rfl rfl rfl (wanted_none rfl) (r_assign rfl) ?_
    refine F.nil ?_
    refine Nrm.seq ?_
    refine Tri.ret ?_
    refine Rtn.then ?_
    cases h
    exact Rtn.body (.tmp rfl .nil) (fun w hw => ⟨rfl, hw.ext⟩)
  · replace h := if_ff g_1 h
    refine Tri.skip ?_
    refine Nrm.seq ?_
    refine Tri.seq ?_
    refine Tri.seq ?_
    obtain ⟨t14, h14, h⟩ := bind_some h
    refine Tri.reg (l := [0, 1, 2, 3, 4, 5]) rfl ?_
    refine F.q rfl rfl rfl (wanted_none rfl) (r_fieldAddr tf55_1 rfl) ?_
    refine F.q rfl rfl rfl (wanted_none rfl) (r_load ta49 rfl (fun w hw => cell_1 (box_cells (i := 1) rfl w hw) rfl)) ?_
    refine F.q rfl rfl rfl (wanted_none rfl) (r_fieldAddr tf55_1 rfl) ?_
    refine F.q rfl rfl rfl (wanted_none rfl) (r_load ta49 rfl (fun w hw => cell_1 (box_cells (i := 0) rfl w hw) rfl)) ?_
    refine F.qc rfl rfl rfl (wanted_none rfl) (q_callF (xs := _) rfl ok141 rfl rfl (fun w hw => laws_eqIntA3S.ok h14 w ((fun _ hw => hr_a0_1.sep hw) w hw) ((fun _ hw => hr_a1_1.sep hw) w hw))) ?_
    refine F.q rfl rfl rfl (wanted_none rfl) (r_not rfl) ?_
    refine F.nil ?_
    refine Nrm.seq ?_
    refine Tri.cond (b := !t14) rfl (fun g_2 => ?_) (fun g_2 => ?_)
    · replace h := if_tt g_2 h
      refine Tri.seq ?_
      refine Tri.reg (l := [0]) rfl ?_
      refine F.q rfl rfl rfl (wanted_none rfl) (r_assign rfl) ?_
      refine F.nil ?_
      refine Nrm.seq ?_
      refine Tri.ret ?_
      refine Rtn.then ?_
      cases h
      exact Rtn.body (.tmp rfl .nil) (fun w hw => ⟨rfl, hw.ext⟩)
    · replace h := if_ff g_2 h
      refine Tri.skip ?_
      refine Nrm.seq ?_
      refine Tri.seq ?_
      refine Tri.seq ?_
      obtain ⟨t20, h20, h⟩ := bind_some h
      refine Tri.reg (l := [0, 1, 2, 3, 4, 5]) rfl ?_
      refine F.q rfl rfl rfl (wanted_none rfl) (r_fieldAddr tf55_2 rfl) ?_
      refine F.q rfl rfl rfl (wanted_none rfl) (r_load ta38 rfl (fun w hw => cell_1 (box_cells (i := 1) rfl w hw) rfl)) ?_
      refine F.q rfl rfl rfl (wanted_none rfl) (r_fieldAddr tf55_2 rfl) ?_
      refine F.q rfl rfl rfl (wanted_none rfl) (r_load ta38 rfl (fun w hw => cell_1 (box_cells (i := 0) rfl w hw) rfl)) ?_
      refine F.qc rfl rfl rfl (wanted_none rfl) (q_callF (xs := _) rfl ok26 rfl rfl (fun w hw => laws_eqIntS.ok h20 w ((fun _ hw => hr_a0_2.sep hw) w hw) ((fun _ hw => hr_a1_2.sep hw) w hw))) ?_
      refine F.q rfl rfl rfl (wanted_none rfl) (r_not rfl) ?_
      refine F.nil ?_
      refine Nrm.seq ?_
      refine Tri.cond (b := !t20) rfl (fun g_3 => ?_) (fun g_3 => ?_)
      · replace h := if_tt g_3 h
        refine Tri.seq ?_
        refine Tri.reg (l := [0]) rfl ?_
        refine F.q rfl rfl rfl (wanted_none rfl) (r_assign rfl) ?_
        refine F.nil ?_
        refine Nrm.seq ?_
        refine Tri.ret ?_
        refine Rtn.then ?_
        cases h
        exact Rtn.body (.tmp rfl .nil) (fun w hw => ⟨rfl, hw.ext⟩)
      · replace h := if_ff g_3 h
        refine Tri.skip ?_
        refine Nrm.seq ?_
        refine Tri.seq ?_
        refine Tri.reg (l := [0]) rfl ?_
        refine F.q rfl rfl rfl (wanted_none rfl) (r_assign rfl) ?_
        refine F.nil ?_
        refine Nrm.seq ?_
        refine Tri.ret ?_
        cases h
        exact Rtn.body (.tmp rfl .nil) (fun w hw => ⟨rfl, hw.ext⟩)

end Go.Proofs

/- loop.example/g01158/laws.eqMazeS -/
namespace Go.Proofs
open Go Go.Ga
set_option linter.unusedVariables false
set_option maxRecDepth 100000
set_option maxHeartbeats 4000000
def laws_eqMazeS.l0 (k : Nat) (a0 : List (Int × List (Int × Int × Int) × List Int)) (a1 : List (Int × List (Int × Int × Int) × List Int)) : Nat → Int → Option ((Unit) ⊕ (Bool))
  | 0, _ => none
  | n + 1, x5 => (if (decide (x5 < (a0.length : Int))) = true then (rdl a0 x5).bind fun t19 => (rdl a1 x5).bind fun t23 => (laws_eqMaze.f k t19.1 t19.2.1 t19.2.2 t23.1 t23.2.1 t23.2.2).bind fun t25 => (if (!t25) = true then some (Sum.inr false) else laws_eqMazeS.l0 k a0 a1 n (w64 (x5 + 1))) else some (Sum.inl ()))

def laws_eqMazeS.f (k : Nat) (a0 : List (Int × List (Int × Int × Int) × List Int)) (a1 : List (Int × List (Int × Int × Int) × List Int)) : Option (Bool) := (if ((a0.length : Int) != (a1.length : Int)) = true then some false else (laws_eqMazeS.l0 k a0 a1 k 0).bind fun s => Lr s some fun _ => some true)

theorem laws_eqMazeS.ok {k : Nat}  {a0 : List (Int × List (Int × Int × Int) × List Int)} {a1 : List (Int × List (Int × Int × Int) × List Int)} {r0 : Bool} (h : laws_eqMazeS.f k a0 a1 = some r0) (w : World) {va0 : Value} {va1 : Value} (hr_a0 : Rd w va0 a0) (hr_a1 : Rd w va1 a1) :
    Calls Try.prog 67 ([va0, va1] : List Value).toArray w (fun e w' => e = .returned (.bool r0) ∧ Ext w w') := by
  unfold laws_eqMazeS.f at h
  have hl_va0 := hr_a0.len
  have hl_va1 := hr_a1.len
  refine Calls.of_tri (N := 27) Try.func67 rfl rfl rfl (Sep.nil (M := noM)) ?_
  refine Tri.seq ?_
  refine Tri.reg (l := [0]) rfl ?_
  refine F.q rfl rfl rfl (wanted_none rfl) (r_assign rfl) ?_
  refine F.nil ?_
  refine Nrm.seq ?_
  refine Tri.seq ?_
  refine Tri.seq ?_
  refine Tri.reg (l := [0, 1, 2, 3, 4]) rfl ?_
  refine F.q rfl rfl rfl (wanted_none rfl) (r_move rfl) ?_
  refine F.q rfl rfl rfl (wanted_none rfl) (r_len Try.underlying29 rfl hl_va0) ?_
  refine F.q rfl rfl rfl (wanted_none rfl) (r_move rfl) ?_
  refine F.q rfl rfl rfl (wanted_none rfl) (r_len Try.underlying29 rfl hl_va1) ?_
  refine F.q rfl rfl rfl (wanted_none rfl) (r_neq rfl rfl) ?_
  refine F.nil ?_
  refine Nrm.seq ?_
  refine Tri.cond (b := (a0.length : Int) != (a1.length : Int)) rfl (fun g_1 => ?_) (fun g_1 => ?_)
  · replace h := if_tt g_1 h
    refine Tri.seq ?_
    refine Tri.reg (l := [0]) rfl ?_
    refine F.q rfl rfl rfl (wanted_none rfl) (r_assign rfl) ?_
    refine F.nil ?_
    refine Nrm.seq ?_
    refine Tri.ret ?_
    refine Rtn.then ?_
    cases h
    exact Rtn.body (.tmp rfl .nil) (fun w hw => ⟨rfl, hw.ext⟩)
  · replace h := if_ff g_1 h
    refine Tri.skip ?_
    refine Nrm.seq ?_
    refine Tri.seq ?_
    refine Tri.seq ?_
    refine Tri.reg (l := [0]) rfl ?_
    refine F.q rfl rfl rfl (wanted_none rfl) (r_assign rfl) ?_
    refine F.nil ?_
    refine Nrm.seq ?_
    obtain ⟨s0, hE_1, h⟩ := bind_some h
    refine Tri.block ?_
    refine Tri.only [0, 1, 5] rfl ?_
    refine Tri.pick [] rfl rfl ?_
    refine Tri.rounds (fun n e' C' => ∃ (x5' : Int), laws_eqMazeS.l0 k a0 a1 n x5' = some s0 ∧ e' = [(0, va0), (1, va1), (5, .int .i64 x5')] ∧ C' = Sep w noM []) k ?_ ?_ ?_
    · exact ⟨0, hE_1, rfl, rfl⟩
    · rintro _ _ ⟨_, hE_1, _⟩
      rw [laws_eqMazeS.l0.eq_1] at hE_1; cases hE_1
    · rintro n_1 _ _ ⟨x5, hE_1, rfl, rfl⟩ ih_1
      rw [laws_eqMazeS.l0.eq_2] at hE_1
      refine Tri.seq ?_
      refine Tri.seq ?_
      refine Tri.reg (l := [0, 1, 2, 3]) rfl ?_
      refine F.q rfl rfl rfl (wanted_none rfl) (r_move rfl) ?_
      refine F.q rfl rfl rfl (wanted_none rfl) (r_move rfl) ?_
      refine F.q rfl rfl rfl (wanted_none rfl) (r_len Try.underlying29 rfl hl_va0) ?_
      refine F.q rfl rfl rfl (wanted_none rfl) (r_lss rfl rfl) ?_
      refine F.nil ?_
      refine Nrm.seq ?_
      refine Tri.cond (b := decide (x5 < (a0.length : Int))) rfl (fun g_2 => ?_) (fun g_2 => ?_)
      · replace hE_1 := if_tt g_2 hE_1
        refine Tri.skip ?_
        refine Nrm.seq ?_
        refine Tri.seq ?_
        refine Tri.block ?_
        refine Tri.seq ?_
        obtain ⟨t19, h19, hE_1⟩ := bind_some hE_1
        obtain ⟨_, hc19, hp19⟩ := Rd.elem hr_a0 (rdl_some h19).2.2
        obtain ⟨v19_1, v19_2, rfl, hr_v19_1, hr_v19_2⟩ := op55 hp19
        have hl_v19_1 := hr_v19_1.len
        have hl_v19_2 := hr_v19_2.len
        obtain ⟨t23, h23, hE_1⟩ := bind_some hE_1
        obtain ⟨_, hc23, hp23⟩ := Rd.elem hr_a1 (rdl_some h23).2.2
        obtain ⟨v23_1, v23_2, rfl, hr_v23_1, hr_v23_2⟩ := op55 hp23
        have hl_v23_1 := hr_v23_1.len
        have hl_v23_2 := hr_v23_2.len
        obtain ⟨t25, h25, hE_1⟩ := bind_some hE_1
        refine Tri.drawA mixedT Sep.up [(0, true), (1, true), (2, true), (3, true), (4, true), (5, true), (6, true), (7, true), (8, true), (9, true)] [] (by kernel_rfl) ?_
        refine S.q rfl rfl rfl (wanted_none rfl) (r_move rfl) ?_
        refine S.q rfl rfl rfl (wanted_none rfl) (r_move rfl) ?_
        refine S.q rfl rfl rfl (wanted_none rfl) (r_indexAddrS Try.underlying29 ti55 rfl hl_va0 rfl (rdl_some h19).1 (rdl_some h19).2.1) ?_
        refine S.q rfl rfl rfl (wanted_none rfl) (r_loadA ta55 ti55 rfl rfl (fun w hw => (hc19.sep hw))) ?_
        refine S.q rfl rfl rfl (wanted_none rfl) (r_move rfl) ?_
        refine S.q rfl rfl rfl (wanted_none rfl) (r_move rfl) ?_
        refine S.q rfl rfl rfl (wanted_none rfl) (r_indexAddrS Try.underlying29 ti55 rfl hl_va1 rfl (rdl_some h23).1 (rdl_some h23).2.1) ?_
        refine S.q rfl rfl rfl (wanted_none rfl) (r_loadA ta55 ti55 rfl rfl (fun w hw => (hc23.sep hw))) ?_
        refine S.qc rfl rfl rfl (wanted_none rfl) (q_callF (xs := _) rfl ok93 rfl rfl (fun w hw => laws_eqMaze.ok h25 w ((fun _ hw => hr_v19_1.sep hw) w hw) ((fun _ hw => hr_v19_2.sep hw) w hw) ((fun _ hw => hr_v23_1.sep hw) w hw) ((fun _ hw => hr_v23_2.sep hw) w hw))) ?_
        refine S.q rfl rfl rfl (wanted_none rfl) (r_not rfl) ?_
        refine S.nil ?_
        refine F.nil ?_
        refine Nrm.seq ?_
        refine Tri.cond (b := !t25) rfl (fun g_3 => ?_) (fun g_3 => ?_)
        · replace hE_1 := if_tt g_3 hE_1
          refine Tri.seq ?_
          refine Tri.reg (l := [0]) rfl ?_
          refine F.q rfl rfl rfl (wanted_none rfl) (r_assign rfl) ?_
          refine F.nil ?_
          refine Nrm.seq ?_
          refine Tri.ret ?_
          refine Rtn.block ?_
          refine Rtn.then ?_
          refine Rtn.then ?_
          refine Rtn.block ?_
          refine Rtn.then ?_
          cases hE_1
          replace h := Lr_inr h
          cases h
          exact Rtn.body (.tmp rfl .nil) (fun w hw => ⟨rfl, hw.ext⟩)
        · replace hE_1 := if_ff g_3 hE_1
          refine Tri.skip ?_
          refine Nrm.block ?_
          refine Nrm.seq ?_
          refine Tri.reg (l := [0, 1, 2]) rfl ?_
          refine F.q rfl rfl rfl (wanted_none rfl) (r_move rfl) ?_
          refine F.q rfl rfl rfl (wanted_none rfl) (r_add rfl rfl) ?_
          refine F.q rfl rfl rfl (wanted_none rfl) (r_assign rfl) ?_
          refine F.nil ?_
          refine Nrm.round ?_
          refine Rnd.only [0, 1, 5] rfl ?_
          refine Rnd.pick [] rfl rfl ?_
          exact ih_1 _ _ ⟨w64 (x5 + 1), hE_1, rfl, rfl⟩
      · replace hE_1 := if_ff g_2 hE_1
        refine Tri.exit ?_
        refine Exi.then ?_
        refine Exi.then ?_
        refine Exi.same ?_
        cases hE_1
        replace h := Lr_inl h
        refine Nrm.seq ?_
        refine Tri.seq ?_
        refine Tri.reg (l := [0]) rfl ?_
        refine F.q rfl rfl rfl (wanted_none rfl) (r_assign rfl) ?_
        refine F.nil ?_
        refine Nrm.seq ?_
        refine Tri.ret ?_
        cases h
        exact Rtn.body (.tmp rfl .nil) (fun w hw => ⟨rfl, hw.ext⟩)

end Go.Proofs

/- loop.example/g01158/laws.eqWorlds -/
namespace Go.Proofs
open Go Go.Ga
set_option linter.unusedVariables false
set_option maxRecDepth 100000
set_option maxHeartbeats 4000000
def laws_eqWorlds.f (k : Nat) (a0_0 : List (Int × List (Int × Int × Int) × List Int)) (a0_1 : List (List Int)) (a1_0 : List (Int × List (Int × Int × Int) × List Int)) (a1_1 : List (List Int)) : Option (Bool) := (laws_eqMazeS.f k a0_0 a1_0).bind fun t9 => (if (!t9) = true then some false else (laws_eqIntSS.f k a0_1 a1_1).bind fun t15 => (if (!t15) = true then some false else some true))

theorem laws_eqWorlds.ok {k : Nat}  {a0_0 : List (Int × List (Int × Int × Int) × List Int)} {a0_1 : List (List Int)} {a1_0 : List (Int × List (Int × Int × Int) × List Int)} {a1_1 : List (List Int)} {r0 : Bool} (h : laws_eqWorlds.f k a0_0 a0_1 a1_0 a1_1 = some r0) (w : World) {va0_0 : Value} {va0_1 : Value} {va1_0 : Value} {va1_1 : Value} (hr_a0_0 : Rd w va0_0 a0_0) (hr_a0_1 : Rd w va0_1 a0_1) (hr_a1_0 : Rd w va1_0 a1_0) (hr_a1_1 : Rd w va1_1 a1_1) :
    Calls Try.prog 20 ([.agg ([va0_0, va0_1].toArray), .agg ([va1_0, va1_1].toArray)] : List Value).toArray w (fun e w' => e = .returned (.bool r0) ∧ Ext w w') := by
  unfold laws_eqWorlds.f at h
  have hl_va0_0 := hr_a0_0.len
  have hl_va0_1 := hr_a0_1.len
  have hl_va1_0 := hr_a1_0.len
  have hl_va1_1 := hr_a1_1.len
  refine Calls.of_tri (N := 17) Try.func20 rfl rfl rfl (Sep.nil (M := noM)) ?_
  refine Tri.seq ?_
  refine Tri.reg (l := [0, 1, 2]) rfl ?_
  refine F.m rfl rfl rfl (wanted_none rfl) (m_boxG rfl rfl) ?_
  rintro _ _ ⟨b2_1, rfl, rfl⟩
  refine F.m rfl rfl rfl (wanted_none rfl) (m_boxG rfl rfl) ?_
  rintro _ _ ⟨b3_1, rfl, rfl⟩
  refine F.q rfl rfl rfl (wanted_none rfl) (r_assign rfl) ?_
  refine F.nil ?_
  refine Nrm.seq ?_
  refine Tri.seq ?_
  refine Tri.seq ?_
  obtain ⟨t9, h9, h⟩ := bind_some h
  refine Tri.reg (l := [0, 1, 2, 3, 4, 5]) rfl ?_
  refine F.q rfl rfl rfl (wanted_none rfl) (r_fieldAddr tf31_0 rfl) ?_
  refine F.q rfl rfl rfl (wanted_none rfl) (r_load ta29 rfl (fun w hw => cell_1 (box_cells (i := 1) rfl w hw) rfl)) ?_
  refine F.q rfl rfl rfl (wanted_none rfl) (r_fieldAddr tf31_0 rfl) ?_
  refine F.q rfl rfl rfl (wanted_none rfl) (r_load ta29 rfl (fun w hw => cell_1 (box_cells (i := 0) rfl w hw) rfl)) ?_
  refine F.qc rfl rfl rfl (wanted_none rfl) (q_callF (xs := _) rfl ok67 rfl rfl (fun w hw => laws_eqMazeS.ok h9 w ((fun _ hw => hr_a0_0.sep hw) w hw) ((fun _ hw => hr_a1_0.sep hw) w hw))) ?_
  refine F.q rfl rfl rfl (wanted_none rfl) (r_not rfl) ?_
  refine F.nil ?_
  refine Nrm.seq ?_
  refine Tri.cond (b := !t9) rfl (fun g_1 => ?_) (fun g_1 => ?_)
  · replace h := if_tt g_1 h
    refine Tri.seq ?_
    refine Tri.reg (l := [0]) rfl ?_
    refine F.q rfl rfl rfl (wanted_none rfl) (r_assign rfl) ?_
    refine F.nil ?_
    refine Nrm.seq ?_
    refine Tri.ret ?_
    refine Rtn.then ?_
    cases h
    exact Rtn.body (.tmp rfl .nil) (fun w hw => ⟨rfl, hw.ext⟩)
  · replace h := if_ff g_1 h
    refine Tri.skip ?_
    refine Nrm.seq ?_
    refine Tri.seq ?_
    refine Tri.seq ?_
    obtain ⟨t15, h15, h⟩ := bind_some h
    refine Tri.reg (l := [0, 1, 2, 3, 4, 5]) rfl ?_
    refine F.q rfl rfl rfl (wanted_none rfl) (r_fieldAddr tf31_1 rfl) ?_
    refine F.q rfl rfl rfl (wanted_none rfl) (r_load ta23 rfl (fun w hw => cell_1 (box_cells (i := 1) rfl w hw) rfl)) ?_
    refine F.q rfl rfl rfl (wanted_none rfl) (r_fieldAddr tf31_1 rfl) ?_
    refine F.q rfl rfl rfl (wanted_none rfl) (r_load ta23 rfl (fun w hw => cell_1 (box_cells (i := 0) rfl w hw) rfl)) ?_
    refine F.qc rfl rfl rfl (wanted_none rfl) (q_callF (xs := _) rfl ok19 rfl rfl (fun w hw => laws_eqIntSS.ok h15 w ((fun _ hw => hr_a0_1.sep hw) w hw) ((fun _ hw => hr_a1_1.sep hw) w hw))) ?_
    refine F.q rfl rfl rfl (wanted_none rfl) (r_not rfl) ?_
    refine F.nil ?_
    refine Nrm.seq ?_
    refine Tri.cond (b := !t15) rfl (fun g_2 => ?_) (fun g_2 => ?_)
    · replace h := if_tt g_2 h
      refine Tri.seq ?_
      refine Tri.reg (l := [0]) rfl ?_
      refine F.q rfl rfl rfl (wanted_none rfl) (r_assign rfl) ?_
      refine F.nil ?_
      refine Nrm.seq ?_
      refine Tri.ret ?_
      refine Rtn.then ?_
      cases h
      exact Rtn.body (.tmp rfl .nil) (fun w hw => ⟨rfl, hw.ext⟩)
    · replace h := if_ff g_2 h
      refine Tri.skip ?_
      refine Nrm.seq ?_
      refine Tri.seq ?_
      refine Tri.reg (l := [0]) rfl ?_
      refine F.q rfl rfl rfl (wanted_none rfl) (r_assign rfl) ?_
      refine F.nil ?_
      refine Nrm.seq ?_
      refine Tri.ret ?_
      cases h
      exact Rtn.body (.tmp rfl .nil) (fun w hw => ⟨rfl, hw.ext⟩)

end Go.Proofs

/- loop.example/g01158/laws.markIntS -/

namespace Go.Proofs
open Go Go.Ga
set_option linter.unusedVariables false
set_option maxRecDepth 100000
set_option maxHeartbeats 4000000
def laws_markIntS.l0 (k : Nat) : Nat → (List (Int)) → Int → Int → Option (Int × (List (Int)))
  | 0, _, _, _ => none
  | n + 1, x0, x1, x5 => (if (decide (x5 < (x0.length : Int))) = true then (rdl x0 x5).bind fun t15 => laws_markIntS.l0 k n (x0.set x5.toNat x1) (w64 (x1 + 1)) (w64 (x5 + 1)) else some (x1, x0))

def laws_markIntS.f (k : Nat) (a0 : List Int) (a1 : Int) : Option (Int × (List Int)) := (laws_markIntS.l0 k k a0 a1 0).bind fun (x1, x0) => some (x1, x0)

theorem laws_markIntS.ok {k : Nat}  {a0 : List Int} {a1 : Int} {r0 : Int} {r1 : List Int} (h : laws_markIntS.f k a0 a1 = some (r0, r1)) (w : World) {va0 : Value} {Sa0 : Nat → Prop} (hl_va0 : SlLen va0 a0.length) (hw0 : Sep w (footM [R.sl Sa0 va0 a0]) [R.sl Sa0 va0 a0] w) :
    Calls Try.prog 27 ([va0, .int .i64 a1] : List Value).toArray w (PostM (footM [R.sl Sa0 va0 a0]) (fun u ns => u = .int .i64 r0 ∧ SlLen va0 r1.length ∧ ns = [R.sl Sa0 va0 r1]) w) := by
  unfold laws_markIntS.f at h
  refine Calls.of_tri (N := 19) Try.func27 rfl rfl rfl hw0 ?_
  refine Tri.seq ?_
  refine Tri.reg (l := [0]) rfl ?_
  refine F.q rfl rfl rfl (wanted_none rfl) (r_assign rfl) ?_
  refine F.nil ?_
  refine Nrm.seq ?_
  refine Tri.seq ?_
  refine Tri.seq ?_
  refine Tri.reg (l := [0]) rfl ?_
  refine F.q rfl rfl rfl (wanted_none rfl) (r_assign rfl) ?_
  refine F.nil ?_
  refine Nrm.seq ?_
  obtain ⟨⟨x1, x0⟩, hE_1, h⟩ := bind_some h
  refine Tri.block ?_
  refine Tri.only [0, 1, 5] rfl ?_
  refine Tri.pick [0] rfl rfl ?_
  refine Tri.rounds (fun n e' C' => ∃ (x0' : List (Int)) (x1' : Int) (x5' : Int), laws_markIntS.l0 k n x0' x1' x5' = some (x1, x0) ∧ SlLen va0 (x0').length ∧ e' = [(0, va0), (1, .int .i64 x1'), (5, .int .i64 x5')] ∧ C' = Sep w (footM [R.sl Sa0 va0 a0]) [R.sl Sa0 va0 (x0' : List (Int))]) k ?_ ?_ ?_
  · exact ⟨a0, a1, 0, hE_1, hl_va0, rfl, rfl⟩
  · rintro _ _ ⟨_, _, _, hE_1, _⟩
    rw [laws_markIntS.l0.eq_1] at hE_1; cases hE_1
  · rintro n_1 _ _ ⟨x0, x1, x5, hE_1, hl_x0, rfl, rfl⟩ ih_1
    rw [laws_markIntS.l0.eq_2] at hE_1
    refine Tri.seq ?_
    refine Tri.seq ?_
    refine Tri.reg (l := [0, 1, 2, 3]) rfl ?_
    refine F.q rfl rfl rfl (wanted_none rfl) (r_move rfl) ?_
    refine F.q rfl rfl rfl (wanted_none rfl) (r_move rfl) ?_
    refine F.q rfl rfl rfl (wanted_none rfl) (r_len Try.underlying38 rfl hl_x0) ?_
    refine F.q rfl rfl rfl (wanted_none rfl) (r_lss rfl rfl) ?_
    refine F.nil ?_
    refine Nrm.seq ?_
    refine Tri.cond (b := decide (x5 < (x0.length : Int))) rfl (fun g_1 => ?_) (fun g_1 => ?_)
    · replace hE_1 := if_tt g_1 hE_1
      refine Tri.skip ?_
      refine Nrm.seq ?_
      refine Tri.seq ?_
      refine Tri.block ?_
      refine Tri.seq ?_
      obtain ⟨t15, h15, hE_1⟩ := bind_some hE_1
      refine Tri.reg (l := [0, 1, 2, 3, 4]) rfl ?_
      refine F.q rfl rfl rfl (wanted_none rfl) (r_move rfl) ?_
      refine F.q rfl rfl rfl (wanted_none rfl) (r_move rfl) ?_
      refine F.q rfl rfl rfl (wanted_none rfl) (r_move rfl) ?_
      refine F.q rfl rfl rfl (wanted_none rfl) (r_indexAddrS Try.underlying38 ti3 rfl hl_x0 rfl (rdl_some h15).1 (rdl_some h15).2.1) ?_
      refine F.ef0 rfl rfl (wanted_none rfl) (d_storeE (i := 0) (x1 := x1) ti3 rfl rfl rfl (rdl_some h15) rfl) ?_
      rintro _ _ ⟨rfl, rfl⟩
      refine F.nil ?_
      refine Nrm.seq ?_
      refine Tri.reg (l := [0, 1, 2]) rfl ?_
      refine F.q rfl rfl rfl (wanted_none rfl) (r_move rfl) ?_
      refine F.q rfl rfl rfl (wanted_none rfl) (r_add rfl rfl) ?_
      refine F.q rfl rfl rfl (wanted_none rfl) (r_assign rfl) ?_
      refine F.nil ?_
      refine Nrm.block ?_
      refine Nrm.seq ?_
      refine Tri.reg (l := [0, 1, 2]) rfl ?_
      refine F.q rfl rfl rfl (wanted_none rfl) (r_move rfl) ?_
      refine F.q rfl rfl rfl (wanted_none rfl) (r_add rfl rfl) ?_
      refine F.q rfl rfl rfl (wanted_none rfl) (r_assign rfl) ?_
      refine F.nil ?_
      refine Nrm.round ?_
      refine Rnd.only [0, 1, 5] rfl ?_
      refine Rnd.pick [0] rfl rfl ?_
      exact ih_1 _ _ ⟨x0.set x5.toNat x1, w64 (x1 + 1), w64 (x5 + 1), hE_1, (len_set hl_x0), rfl, rfl⟩
    · replace hE_1 := if_ff g_1 hE_1
      refine Tri.exit ?_
      refine Exi.then ?_
      refine Exi.then ?_
      refine Exi.same ?_
      cases hE_1
      refine Nrm.seq ?_
      refine Tri.seq ?_
      refine Tri.reg (l := [0, 1]) rfl ?_
      refine F.q rfl rfl rfl (wanted_none rfl) (r_move rfl) ?_
      refine F.q rfl rfl rfl (wanted_none rfl) (r_assign rfl) ?_
      refine F.nil ?_
      refine Nrm.seq ?_
      refine Tri.ret ?_
      cases h
      exact Rtn.body (.tmp rfl .nil) (fun w hw => ⟨_, _, rfl, ⟨rfl, hl_x0, rfl⟩, Sep.pick (is := [0]) rfl rfl hw⟩)

end Go.Proofs

/- loop.example/g01158/laws.markIntSS -/
namespace Go.Proofs
open Go Go.Ga
set_option linter.unusedVariables false
set_option maxRecDepth 100000
set_option maxHeartbeats 4000000
def laws_markIntSS.l0 (k : Nat) : Nat → (List (List Int)) → Int → Int → Option (Int × (List (List Int)))
  | 0, _, _, _ => none
  | n + 1, x0, x1, x5 => (if (decide (x5 < (x0.length : Int))) = true then (rdl (x0 : List (List Int)) x5).bind fun t14 => (laws_markIntS.f k t14 x1).bind fun (t17_1, t17_2) => laws_markIntSS.l0 k n ((x0 : List (List Int)).set (x5).toNat t17_2) t17_1 (w64 (x5 + 1)) else some (x1, x0))

def laws_markIntSS.f (k : Nat) (a0 : List (List Int)) (a1 : Int) : Option (Int × (List (List Int))) := (laws_markIntSS.l0 k k a0 a1 0).bind fun (x1, x0) => some (x1, x0)

theorem laws_markIntSS.ok {k : Nat}  {a0 : List (List Int)} {a1 : Int} {r0 : Int} {r1 : List (List Int)} (h : laws_markIntSS.f k a0 a1 = some (r0, r1)) (w : World) {va0 : Value} {Sa0 : Nat → Prop} (hl_va0 : SlLen va0 a0.length) (hw0 : Sep w (footM [R.sl Sa0 va0 a0]) [R.sl Sa0 va0 a0] w) :
    Calls Try.prog 22 ([va0, .int .i64 a1] : List Value).toArray w (PostM (footM [R.sl Sa0 va0 a0]) (fun u ns => u = .int .i64 r0 ∧ SlLen va0 r1.length ∧ ns = [R.sl Sa0 va0 r1]) w) := by
  unfold laws_markIntSS.f at h
  refine Calls.of_tri (N := 19) Try.func22 rfl rfl rfl hw0 ?_
  refine Tri.seq ?_
  refine Tri.reg (l := [0]) rfl ?_
  refine F.q rfl rfl rfl (wanted_none rfl) (r_assign rfl) ?_
  refine F.nil ?_
  refine Nrm.seq ?_
  refine Tri.seq ?_
  refine Tri.seq ?_
  refine Tri.reg (l := [0]) rfl ?_
  refine F.q rfl rfl rfl (wanted_none rfl) (r_assign rfl) ?_
  refine F.nil ?_
  refine Nrm.seq ?_
  obtain ⟨⟨x1, x0⟩, hE_1, h⟩ := bind_some h
  refine Tri.block ?_
  refine Tri.only [0, 1, 5] rfl ?_
  refine Tri.pick [0] rfl rfl ?_
  refine Tri.rounds (fun n e' C' => ∃ (x0' : List (List Int)) (x1' : Int) (x5' : Int), laws_markIntSS.l0 k n x0' x1' x5' = some (x1, x0) ∧ SlLen va0 (x0').length ∧ e' = [(0, va0), (1, .int .i64 x1'), (5, .int .i64 x5')] ∧ C' = Sep w (footM [R.sl Sa0 va0 a0]) [R.sl Sa0 va0 (x0' : List (List Int))]) k ?_ ?_ ?_
  · exact ⟨a0, a1, 0, hE_1, hl_va0, rfl, rfl⟩
  · rintro _ _ ⟨_, _, _, hE_1, _⟩
    rw [laws_markIntSS.l0.eq_1] at hE_1; cases hE_1
  · rintro n_1 _ _ ⟨x0, x1, x5, hE_1, hl_x0, rfl, rfl⟩ ih_1
    rw [laws_markIntSS.l0.eq_2] at hE_1
    refine Tri.seq ?_
    refine Tri.seq ?_
    refine Tri.reg (l := [0, 1, 2, 3]) rfl ?_
    refine F.q rfl rfl rfl (wanted_none rfl) (r_move rfl) ?_
    refine F.q rfl rfl rfl (wanted_none rfl) (r_move rfl) ?_
    refine F.q rfl rfl rfl (wanted_none rfl) (r_len Try.underlying23 rfl hl_x0) ?_
    refine F.q rfl rfl rfl (wanted_none rfl) (r_lss rfl rfl) ?_
    refine F.nil ?_
    refine Nrm.seq ?_
    refine Tri.cond (b := decide (x5 < (x0.length : Int))) rfl (fun g_1 => ?_) (fun g_1 => ?_)
    · replace hE_1 := if_tt g_1 hE_1
      refine Tri.skip ?_
      refine Nrm.seq ?_
      refine Tri.seq ?_
      refine Tri.block ?_
      obtain ⟨t14, h14, hE_1⟩ := bind_some hE_1
      obtain ⟨⟨t17_1, t17_2⟩, h17, hE_1⟩ := bind_some hE_1
      refine Tri.ex (on38 [0] [] rfl rfl (rdl_some h14).2.2) ?_
      rintro _ ⟨v14_0_1, S14_0_1, Sr14_1, hl_v14_0_1, hS14_1, rfl⟩
      refine Tri.reg (l := [0, 1, 2, 3, 4, 5, 6]) rfl ?_
      refine F.q rfl rfl rfl (wanted_none rfl) (r_move rfl) ?_
      refine F.q rfl rfl rfl (wanted_none rfl) (r_move rfl) ?_
      refine F.q rfl rfl rfl (wanted_none rfl) (r_indexAddrS Try.underlying23 ti38 rfl hl_x0 rfl (rdl_some h14).1 (rdl_some h14).2.1) ?_
      refine F.q rfl rfl rfl (wanted_none rfl) (r_load ta38 rfl (fun w hw => cell_0 (hole_cells (p := 1) rfl w hw) rfl)) ?_
      refine F.q rfl rfl rfl (wanted_none rfl) (r_move rfl) ?_
      refine F.ef rfl rfl rfl (wanted_none rfl) (d_callM (xs := _) (cs := [R.sl S14_0_1 v14_0_1 (t14 : List (Int))]) (rest := [R.hole Sr14_1 va0 (x0 : List (List Int)) (x5).toNat [v14_0_1]]) [0] [1] rfl ok27 rfl rfl rfl rfl (fun w hw => laws_markIntS.ok h17 w hl_v14_0_1 (Sep.sub hw))) ?_
      rintro _ _ ⟨_, ⟨rfl, hl_t17_2, rfl⟩, rfl⟩
      refine F.q rfl rfl rfl (wanted_none rfl) (r_assign rfl) ?_
      refine F.nil ?_
      refine Nrm.imp (cloS1 (cs := [R.sl S14_0_1 v14_0_1 (t17_2 : List (Int))]) (rest := []) [0, 1] [] rfl rfl (jn_sl (S := S14_0_1) (v := v14_0_1) (l := (t17_2 : List (Int)))) hS14_1) ?_
      refine Nrm.block ?_
      refine Nrm.seq ?_
      refine Tri.reg (l := [0, 1, 2]) rfl ?_
      refine F.q rfl rfl rfl (wanted_none rfl) (r_move rfl) ?_
      refine F.q rfl rfl rfl (wanted_none rfl) (r_add rfl rfl) ?_
      refine F.q rfl rfl rfl (wanted_none rfl) (r_assign rfl) ?_
      refine F.nil ?_
      refine Nrm.round ?_
      refine Rnd.only [0, 1, 5] rfl ?_
      refine Rnd.pick [0] rfl rfl ?_
      exact ih_1 _ _ ⟨(x0 : List (List Int)).set (x5).toNat t17_2, t17_1, w64 (x5 + 1), hE_1, (len_set hl_x0), rfl, rfl⟩
    · replace hE_1 := if_ff g_1 hE_1
      refine Tri.exit ?_
      refine Exi.then ?_
      refine Exi.then ?_
      refine Exi.same ?_
      cases hE_1
      refine Nrm.seq ?_
      refine Tri.seq ?_
      refine Tri.reg (l := [0, 1]) rfl ?_
      refine F.q rfl rfl rfl (wanted_none rfl) (r_move rfl) ?_
      refine F.q rfl rfl rfl (wanted_none rfl) (r_assign rfl) ?_
      refine F.nil ?_
      refine Nrm.seq ?_
      refine Tri.ret ?_
      cases h
      exact Rtn.body (.tmp rfl .nil) (fun w hw => ⟨_, _, rfl, ⟨rfl, hl_x0, rfl⟩, Sep.pick (is := [0]) rfl rfl hw⟩)

end Go.Proofs

/- loop.example/g01158/laws.markIntA3S -/

namespace Go.Proofs
open Go Go.Ga
set_option linter.unusedVariables false
set_option maxRecDepth 100000
set_option maxHeartbeats 4000000
def laws_markIntA3S.l1 (k : Nat) (x5 : Int) : Nat → (List (Int × Int × Int)) → Int → Int → Option ((List (Int × Int × Int)) × Int)
  | 0, _, _, _ => none
  | n + 1, x0r, x1r, x6 => (if (decide (x6 < 3)) = true then (rdl x0r x5).bind fun t21 => (rdl [t21.1, t21.2.1, t21.2.2] x6).bind fun t22 => laws_markIntA3S.l1 k x5 n (x0r.set x5.toNat (if x6 = 0 then x1r else t21.1, if x6 = 1 then x1r else t21.2.1, if x6 = 2 then x1r else t21.2.2)) (w64 (x1r + 1)) (w64 (x6 + 1)) else some (x0r, x1r))

def laws_markIntA3S.l0 (k : Nat) : Nat → (List (Int × Int × Int)) → Int → Int → Option (Int × (List (Int × Int × Int)))
  | 0, _, _, _ => none
  | n + 1, x0, x1, x5 => (if (decide (x5 < (x0.length : Int))) = true then (laws_markIntA3S.l1 k x5 k x0 x1 0).bind fun (x0r, x1r) => laws_markIntA3S.l0 k n x0r x1r (w64 (x5 + 1)) else some (x1, x0))

def laws_markIntA3S.f (k : Nat) (a0 : List (Int × Int × Int)) (a1 : Int) : Option (Int × (List (Int × Int × Int))) := (laws_markIntA3S.l0 k k a0 a1 0).bind fun (x1, x0) => some (x1, x0)

theorem laws_markIntA3S.ok {k : Nat}  {a0 : List (Int × Int × Int)} {a1 : Int} {r0 : Int} {r1 : List (Int × Int × Int)} (h : laws_markIntA3S.f k a0 a1 = some (r0, r1)) (w : World) {va0 : Value} {Sa0 : Nat → Prop} (hl_va0 : SlLen va0 a0.length) (hw0 : Sep w (footM [R.sl Sa0 va0 a0]) [R.sl Sa0 va0 a0] w) :
    Calls Try.prog 128 ([va0, .int .i64 a1] : List Value).toArray w (PostM (footM [R.sl Sa0 va0 a0]) (fun u ns => u = .int .i64 r0 ∧ SlLen va0 r1.length ∧ ns = [R.sl Sa0 va0 r1]) w) := by
  unfold laws_markIntA3S.f at h
  refine Calls.of_tri (N := 26) Try.func128 rfl rfl rfl hw0 ?_
  refine Tri.seq ?_
  refine Tri.reg (l := [0]) rfl ?_
  refine F.q rfl rfl rfl (wanted_none rfl) (r_assign rfl) ?_
  refine F.nil ?_
  refine Nrm.seq ?_
  refine Tri.seq ?_
  refine Tri.seq ?_
  refine Tri.reg (l := [0]) rfl ?_
  refine F.q rfl rfl rfl (wanted_none rfl) (r_assign rfl) ?_
  refine F.nil ?_
  refine Nrm.seq ?_
  obtain ⟨⟨x1, x0⟩, hE_1, h⟩ := bind_some h
  refine Tri.block ?_
  refine Tri.only [0, 1, 5] rfl ?_
  refine Tri.pick [0] rfl rfl ?_
  refine Tri.rounds (fun n e' C' => ∃ (x0' : List (Int × Int × Int)) (x1' : Int) (x5' : Int), laws_markIntA3S.l0 k n x0' x1' x5' = some (x1, x0) ∧ SlLen va0 (x0').length ∧ e' = [(0, va0), (1, .int .i64 x1'), (5, .int .i64 x5')] ∧ C' = Sep w (footM [R.sl Sa0 va0 a0]) [R.sl Sa0 va0 (x0' : List (Int × Int × Int))]) k ?_ ?_ ?_
  · exact ⟨a0, a1, 0, hE_1, hl_va0, rfl, rfl⟩
  · rintro _ _ ⟨_, _, _, hE_1, _⟩
    rw [laws_markIntA3S.l0.eq_1] at hE_1; cases hE_1
  · rintro n_1 _ _ ⟨x0, x1, x5, hE_1, hl_x0, rfl, rfl⟩ ih_1
    rw [laws_markIntA3S.l0.eq_2] at hE_1
    refine Tri.seq ?_
    refine Tri.seq ?_
    refine Tri.reg (l := [0, 1, 2, 3]) rfl ?_
    refine F.q rfl rfl rfl (wanted_none rfl) (r_move rfl) ?_
    refine F.q rfl rfl rfl (wanted_none rfl) (r_move rfl) ?_
    refine F.q rfl rfl rfl (wanted_none rfl) (r_len Try.underlying49 rfl hl_x0) ?_
    refine F.q rfl rfl rfl (wanted_none rfl) (r_lss rfl rfl) ?_
    refine F.nil ?_
    refine Nrm.seq ?_
    refine Tri.cond (b := decide (x5 < (x0.length : Int))) rfl (fun g_1 => ?_) (fun g_1 => ?_)
    · replace hE_1 := if_tt g_1 hE_1
      refine Tri.skip ?_
      refine Nrm.seq ?_
      refine Tri.seq ?_
      refine Tri.block ?_
      refine Tri.seq ?_
      refine Tri.reg (l := [0]) rfl ?_
      refine F.q rfl rfl rfl (wanted_none rfl) (r_assign rfl) ?_
      refine F.nil ?_
      refine Nrm.seq ?_
      obtain ⟨⟨x0r, x1r⟩, hE_2, hE_1⟩ := bind_some hE_1
      refine Tri.block ?_
      refine Tri.only [0, 1, 5, 6] rfl ?_
      refine Tri.pick [0] rfl rfl ?_
      refine Tri.rounds (fun n e' C' => ∃ (x0r' : List (Int × Int × Int)) (x1r' : Int) (x6' : Int), laws_markIntA3S.l1 k x5 n x0r' x1r' x6' = some (x0r, x1r) ∧ SlLen va0 (x0r').length ∧ e' = [(0, va0), (1, .int .i64 x1r'), (5, .int .i64 x5), (6, .int .i64 x6')] ∧ C' = Sep w (footM [R.sl Sa0 va0 a0]) [R.sl Sa0 va0 (x0r' : List (Int × Int × Int))]) k ?_ ?_ ?_
      · exact ⟨x0, x1, 0, hE_2, hl_x0, rfl, rfl⟩
      · rintro _ _ ⟨_, _, _, hE_2, _⟩
        rw [laws_markIntA3S.l1.eq_1] at hE_2; cases hE_2
      · rintro n_2 _ _ ⟨x0r, x1r, x6, hE_2, hl_x0r, rfl, rfl⟩ ih_2
        rw [laws_markIntA3S.l1.eq_2] at hE_2
        refine Tri.seq ?_
        refine Tri.seq ?_
        refine Tri.reg (l := [0, 1]) rfl ?_
        refine F.q rfl rfl rfl (wanted_none rfl) (r_move rfl) ?_
        refine F.q rfl rfl rfl (wanted_none rfl) (r_lss rfl rfl) ?_
        refine F.nil ?_
        refine Nrm.seq ?_
        refine Tri.cond (b := decide (x6 < 3)) rfl (fun g_2 => ?_) (fun g_2 => ?_)
        · replace hE_2 := if_tt g_2 hE_2
          refine Tri.skip ?_
          refine Nrm.seq ?_
          refine Tri.seq ?_
          refine Tri.block ?_
          refine Tri.seq ?_
          obtain ⟨t21, h21, hE_2⟩ := bind_some hE_2
          obtain ⟨t22, h22, hE_2⟩ := bind_some hE_2
          refine Tri.reg (l := [0, 1, 2, 3, 4, 5, 6]) rfl ?_
          refine F.q rfl rfl rfl (wanted_none rfl) (r_move rfl) ?_
          refine F.q rfl rfl rfl (wanted_none rfl) (r_move rfl) ?_
          refine F.q rfl rfl rfl (wanted_none rfl) (r_move rfl) ?_
          refine F.q rfl rfl rfl (wanted_none rfl) (r_move rfl) ?_
          refine F.q rfl rfl rfl (wanted_none rfl) (r_indexAddrS Try.underlying49 ti140 rfl hl_x0r rfl (rdl_some h21).1 (rdl_some h21).2.1) ?_
          refine F.q rfl rfl rfl (wanted_none rfl) (r_indexAddrA Try.underlying140 ti3 rfl rfl (rdl_some h22).1 (rdl_some h22).2.1) ?_
          refine F.ef0 rfl rfl (wanted_none rfl) (d_storeP (i := 0) (k := (x6.toNat * 1)) (x0 := t21) (x1 := (if x6 = 0 then x1r else t21.1, if x6 = 1 then x1r else t21.2.1, if x6 = 2 then x1r else t21.2.2)) ti3 rfl rfl rfl (rdl_some h21) rfl (dlt (rdl_some h22).1 (rdl_some h22).2.1) (setV3 (rdl_some h22).1 (rdl_some h22).2.1) rfl) ?_
          rintro _ _ ⟨rfl, rfl⟩
          refine F.nil ?_
          refine Nrm.seq ?_
          refine Tri.reg (l := [0, 1, 2]) rfl ?_
          refine F.q rfl rfl rfl (wanted_none rfl) (r_move rfl) ?_
          refine F.q rfl rfl rfl (wanted_none rfl) (r_add rfl rfl) ?_
          refine F.q rfl rfl rfl (wanted_none rfl) (r_assign rfl) ?_
          refine F.nil ?_
          refine Nrm.block ?_
          refine Nrm.seq ?_
          refine Tri.reg (l := [0, 1, 2]) rfl ?_
          refine F.q rfl rfl rfl (wanted_none rfl) (r_move rfl) ?_
          refine F.q rfl rfl rfl (wanted_none rfl) (r_add rfl rfl) ?_
          refine F.q rfl rfl rfl (wanted_none rfl) (r_assign rfl) ?_
          refine F.nil ?_
          refine Nrm.round ?_
          refine Rnd.only [0, 1, 5, 6] rfl ?_
          refine Rnd.pick [0] rfl rfl ?_
          exact ih_2 _ _ ⟨x0r.set x5.toNat (if x6 = 0 then x1r else t21.1, if x6 = 1 then x1r else t21.2.1, if x6 = 2 then x1r else t21.2.2), w64 (x1r + 1), w64 (x6 + 1), hE_2, (len_set hl_x0r), rfl, rfl⟩
        · replace hE_2 := if_ff g_2 hE_2
          refine Tri.exit ?_
          refine Exi.then ?_
          refine Exi.then ?_
          refine Exi.same ?_
          cases hE_2
          refine Nrm.block ?_
          refine Nrm.seq ?_
          refine Tri.reg (l := [0, 1, 2]) rfl ?_
          refine F.q rfl rfl rfl (wanted_none rfl) (r_move rfl) ?_
          refine F.q rfl rfl rfl (wanted_none rfl) (r_add rfl rfl) ?_
          refine F.q rfl rfl rfl (wanted_none rfl) (r_assign rfl) ?_
          refine F.nil ?_
          refine Nrm.round ?_
          refine Rnd.only [0, 1, 5] rfl ?_
          refine Rnd.pick [0] rfl rfl ?_
          exact ih_1 _ _ ⟨x0r, x1r, w64 (x5 + 1), hE_1, hl_x0r, rfl, rfl⟩
    · replace hE_1 := if_ff g_1 hE_1
      refine Tri.exit ?_
      refine Exi.then ?_
      refine Exi.then ?_
      refine Exi.same ?_
      cases hE_1
      refine Nrm.seq ?_
      refine Tri.seq ?_
      refine Tri.reg (l := [0, 1]) rfl ?_
      refine F.q rfl rfl rfl (wanted_none rfl) (r_move rfl) ?_
      refine F.q rfl rfl rfl (wanted_none rfl) (r_assign rfl) ?_
      refine F.nil ?_
      refine Nrm.seq ?_
      refine Tri.ret ?_
      cases h
      exact Rtn.body (.tmp rfl .nil) (fun w hw => ⟨_, _, rfl, ⟨rfl, hl_x0, rfl⟩, Sep.pick (is := [0]) rfl rfl hw⟩)

end Go.Proofs

/- loop.example/g01158/laws.markMazeS -/
namespace Go.Proofs
open Go Go.Ga
set_option linter.unusedVariables false
set_option maxRecDepth 100000
set_option maxHeartbeats 4000000
def laws_markMazeS.l0 (k : Nat) : Nat → (List (Int × List (Int × Int × Int) × List Int)) → Int → Int → Option (Int × (List (Int × List (Int × Int × Int) × List Int)))
  | 0, _, _, _ => none
  | n + 1, x0, x1, x5 => (if (decide (x5 < (x0.length : Int))) = true then (rdl (x0 : List (Int × List (Int × Int × Int) × List Int)) x5).bind fun t15 => (rdl ((x0 : List (Int × List (Int × Int × Int) × List Int)).set (x5).toNat (x1, t15.2.1, t15.2.2) : List (Int × List (Int × Int × Int) × List Int)) x5).bind fun t21 => (laws_markIntA3S.f k t21.2.1 (w64 (x1 + 1))).bind fun (t25_1, t25_2) => (rdl (((x0 : List (Int × List (Int × Int × Int) × List Int)).set (x5).toNat (x1, t15.2.1, t15.2.2) : List (Int × List (Int × Int × Int) × List Int)).set (x5).toNat (t21.1, t25_2, t21.2.2) : List (Int × List (Int × Int × Int) × List Int)) x5).bind fun t28 => (laws_markIntS.f k t28.2.2 t25_1).bind fun (t32_1, t32_2) => laws_markMazeS.l0 k n ((((x0 : List (Int × List (Int × Int × Int) × List Int)).set (x5).toNat (x1, t15.2.1, t15.2.2) : List (Int × List (Int × Int × Int) × List Int)).set (x5).toNat (t21.1, t25_2, t21.2.2) : List (Int × List (Int × Int × Int) × List Int)).set (x5).toNat (t28.1, t28.2.1, t32_2)) t32_1 (w64 (x5 + 1)) else some (x1, x0))

def laws_markMazeS.f (k : Nat) (a0 : List (Int × List (Int × Int × Int) × List Int)) (a1 : Int) : Option (Int × (List (Int × List (Int × Int × Int) × List Int))) := (laws_markMazeS.l0 k k a0 a1 0).bind fun (x1, x0) => some (x1, x0)

theorem laws_markMazeS.ok {k : Nat}  {a0 : List (Int × List (Int × Int × Int) × List Int)} {a1 : Int} {r0 : Int} {r1 : List (Int × List (Int × Int × Int) × List Int)} (h : laws_markMazeS.f k a0 a1 = some (r0, r1)) (w : World) {va0 : Value} {Sa0 : Nat → Prop} (hl_va0 : SlLen va0 a0.length) (hw0 : Sep w (footM [R.sl Sa0 va0 a0]) [R.sl Sa0 va0 a0] w) :
    Calls Try.prog 68 ([va0, .int .i64 a1] : List Value).toArray w (PostM (footM [R.sl Sa0 va0 a0]) (fun u ns => u = .int .i64 r0 ∧ SlLen va0 r1.length ∧ ns = [R.sl Sa0 va0 r1]) w) := by
  unfold laws_markMazeS.f at h
  refine Calls.of_tri (N := 34) Try.func68 rfl rfl rfl hw0 ?_
  refine Tri.seq ?_
  refine Tri.reg (l := [0]) rfl ?_
  refine F.q rfl rfl rfl (wanted_none rfl) (r_assign rfl) ?_
  refine F.nil ?_
  refine Nrm.seq ?_
  refine Tri.seq ?_
  refine Tri.seq ?_
  refine Tri.reg (l := [0]) rfl ?_
  refine F.q rfl rfl rfl (wanted_none rfl) (r_assign rfl) ?_
  refine F.nil ?_
  refine Nrm.seq ?_
  obtain ⟨⟨x1, x0⟩, hE_1, h⟩ := bind_some h
  refine Tri.block ?_
  refine Tri.only [0, 1, 5] rfl ?_
  refine Tri.pick [0] rfl rfl ?_
  refine Tri.rounds (fun n e' C' => ∃ (x0' : List (Int × List (Int × Int × Int) × List Int)) (x1' : Int) (x5' : Int), laws_markMazeS.l0 k n x0' x1' x5' = some (x1, x0) ∧ SlLen va0 (x0').length ∧ e' = [(0, va0), (1, .int .i64 x1'), (5, .int .i64 x5')] ∧ C' = Sep w (footM [R.sl Sa0 va0 a0]) [R.sl Sa0 va0 (x0' : List (Int × List (Int × Int × Int) × List Int))]) k ?_ ?_ ?_
  · exact ⟨a0, a1, 0, hE_1, hl_va0, rfl, rfl⟩
  · rintro _ _ ⟨_, _, _, hE_1, _⟩
    rw [laws_markMazeS.l0.eq_1] at hE_1; cases hE_1
  · rintro n_1 _ _ ⟨x0, x1, x5, hE_1, hl_x0, rfl, rfl⟩ ih_1
    rw [laws_markMazeS.l0.eq_2] at hE_1
    refine Tri.seq ?_
    refine Tri.seq ?_
    refine Tri.reg (l := [0, 1, 2, 3]) rfl ?_
    refine F.q rfl rfl rfl (wanted_none rfl) (r_move rfl) ?_
    refine F.q rfl rfl rfl (wanted_none rfl) (r_move rfl) ?_
    refine F.q rfl rfl rfl (wanted_none rfl) (r_len Try.underlying29 rfl hl_x0) ?_
    refine F.q rfl rfl rfl (wanted_none rfl) (r_lss rfl rfl) ?_
    refine F.nil ?_
    refine Nrm.seq ?_
    refine Tri.cond (b := decide (x5 < (x0.length : Int))) rfl (fun g_1 => ?_) (fun g_1 => ?_)
    · replace hE_1 := if_tt g_1 hE_1
      refine Tri.skip ?_
      refine Nrm.seq ?_
      refine Tri.seq ?_
      refine Tri.block ?_
      refine Tri.seq ?_
      obtain ⟨t15, h15, hE_1⟩ := bind_some hE_1
      refine Tri.ex (on55 [0] [] rfl rfl (rdl_some h15).2.2) ?_
      rintro _ ⟨v15_1_1, S15_1_1, v15_2_1, S15_2_1, Sr15_1, hl_v15_1_1, hl_v15_2_1, hS15_1, rfl⟩
      refine Tri.reg (l := [0, 1, 2, 3, 4, 5]) rfl ?_
      refine F.q rfl rfl rfl (wanted_none rfl) (r_move rfl) ?_
      refine F.q rfl rfl rfl (wanted_none rfl) (r_move rfl) ?_
      refine F.q rfl rfl rfl (wanted_none rfl) (r_move rfl) ?_
      refine F.q rfl rfl rfl (wanted_none rfl) (r_indexAddrS Try.underlying29 ti55 rfl hl_x0 rfl (rdl_some h15).1 (rdl_some h15).2.1) ?_
      refine F.q rfl rfl rfl (wanted_none rfl) (r_fieldAddr tf55_0 rfl) ?_
      refine F.ef0 rfl rfl (wanted_none rfl) (d_storeH1 (α := Int × List (Int × Int × Int) × List Int) (p := 2) (k := 0) (cs2 := [.int .i64 x1]) ti3 rfl rfl rfl rfl rfl (Nat.le_of_ble_eq_true rfl) (lf_cons rfl lf_nil)) ?_
      rintro _ _ ⟨rfl, rfl⟩
      refine F.nil ?_
      refine Nrm.imp (cloS2 (cs := [R.sl S15_1_1 v15_1_1 (t15.2.1 : List (Int × Int × Int)), R.sl S15_2_1 v15_2_1 (t15.2.2 : List (Int))]) (rest := []) [0, 1, 2] [] rfl rfl (jn_pair (jn_int (n := x1)) (jn_pair (jn_sl (S := S15_1_1) (v := v15_1_1) (l := (t15.2.1 : List (Int × Int × Int)))) (jn_sl (S := S15_2_1) (v := v15_2_1) (l := (t15.2.2 : List (Int)))))) hS15_1) ?_
      refine Nrm.seq ?_
      refine Tri.seq ?_
      refine Tri.reg (l := [0, 1, 2]) rfl ?_
      refine F.q rfl rfl rfl (wanted_none rfl) (r_move rfl) ?_
      refine F.q rfl rfl rfl (wanted_none rfl) (r_add rfl rfl) ?_
      refine F.q rfl rfl rfl (wanted_none rfl) (r_assign rfl) ?_
      refine F.nil ?_
      refine Nrm.seq ?_
      refine Tri.seq ?_
      obtain ⟨t21, h21, hE_1⟩ := bind_some hE_1
      obtain ⟨⟨t25_1, t25_2⟩, h25, hE_1⟩ := bind_some hE_1
      refine Tri.ex (on55 [0] [] rfl rfl (rdl_some h21).2.2) ?_
      rintro _ ⟨v21_1_1, S21_1_1, v21_2_1, S21_2_1, Sr21_1, hl_v21_1_1, hl_v21_2_1, hS21_1, rfl⟩
      refine Tri.reg (l := [0, 1, 2, 3, 4, 5, 6, 7]) rfl ?_
      refine F.q rfl rfl rfl (wanted_none rfl) (r_move rfl) ?_
      refine F.q rfl rfl rfl (wanted_none rfl) (r_move rfl) ?_
      refine F.q rfl rfl rfl (wanted_none rfl) (r_indexAddrS Try.underlying29 ti55 rfl (len_set hl_x0) rfl (rdl_some h21).1 (rdl_some h21).2.1) ?_
      refine F.q rfl rfl rfl (wanted_none rfl) (r_fieldAddr tf55_1 rfl) ?_
      refine F.q rfl rfl rfl (wanted_none rfl) (r_load ta49 rfl (fun w hw => cell_1 (hole_cells (p := 2) rfl w hw) rfl)) ?_
      refine F.q rfl rfl rfl (wanted_none rfl) (r_move rfl) ?_
      refine F.ef rfl rfl rfl (wanted_none rfl) (d_callM (xs := _) (cs := [R.sl S21_1_1 v21_1_1 (t21.2.1 : List (Int × Int × Int))]) (rest := [R.sl S21_2_1 v21_2_1 (t21.2.2 : List (Int)), R.hole Sr21_1 va0 ((x0 : List (Int × List (Int × Int × Int) × List Int)).set (x5).toNat (x1, t15.2.1, t15.2.2) : List (Int × List (Int × Int × Int) × List Int)) (x5).toNat [.int .i64 t21.1, v21_1_1, v21_2_1]]) [0] [1, 2] rfl ok128 rfl rfl rfl rfl (fun w hw => laws_markIntA3S.ok h25 w hl_v21_1_1 (Sep.sub hw))) ?_
      rintro _ _ ⟨_, ⟨rfl, hl_t25_2, rfl⟩, rfl⟩
      refine F.q rfl rfl rfl (wanted_none rfl) (r_assign rfl) ?_
      refine F.nil ?_
      refine Nrm.imp (cloS2 (cs := [R.sl S21_1_1 v21_1_1 (t25_2 : List (Int × Int × Int)), R.sl S21_2_1 v21_2_1 (t21.2.2 : List (Int))]) (rest := []) [0, 1, 2] [] rfl rfl (jn_pair (jn_int (n := t21.1)) (jn_pair (jn_sl (S := S21_1_1) (v := v21_1_1) (l := (t25_2 : List (Int × Int × Int)))) (jn_sl (S := S21_2_1) (v := v21_2_1) (l := (t21.2.2 : List (Int)))))) hS21_1) ?_
      refine Nrm.seq ?_
      obtain ⟨t28, h28, hE_1⟩ := bind_some hE_1
      obtain ⟨⟨t32_1, t32_2⟩, h32, hE_1⟩ := bind_some hE_1
      refine Tri.ex (on55 [0] [] rfl rfl (rdl_some h28).2.2) ?_
      rintro _ ⟨v28_1_1, S28_1_1, v28_2_1, S28_2_1, Sr28_1, hl_v28_1_1, hl_v28_2_1, hS28_1, rfl⟩
      refine Tri.reg (l := [0, 1, 2, 3, 4, 5, 6, 7]) rfl ?_
      refine F.q rfl rfl rfl (wanted_none rfl) (r_move rfl) ?_
      refine F.q rfl rfl rfl (wanted_none rfl) (r_move rfl) ?_
      refine F.q rfl rfl rfl (wanted_none rfl) (r_indexAddrS Try.underlying29 ti55 rfl (len_set (len_set hl_x0)) rfl (rdl_some h28).1 (rdl_some h28).2.1) ?_
      refine F.q rfl rfl rfl (wanted_none rfl) (r_fieldAddr tf55_2 rfl) ?_
      refine F.q rfl rfl rfl (wanted_none rfl) (r_load ta38 rfl (fun w hw => cell_1 (hole_cells (p := 2) rfl w hw) rfl)) ?_
      refine F.q rfl rfl rfl (wanted_none rfl) (r_move rfl) ?_
      refine F.ef rfl rfl rfl (wanted_none rfl) (d_callM (xs := _) (cs := [R.sl S28_2_1 v28_2_1 (t28.2.2 : List (Int))]) (rest := [R.sl S28_1_1 v28_1_1 (t28.2.1 : List (Int × Int × Int)), R.hole Sr28_1 va0 (((x0 : List (Int × List (Int × Int × Int) × List Int)).set (x5).toNat (x1, t15.2.1, t15.2.2) : List (Int × List (Int × Int × Int) × List Int)).set (x5).toNat (t21.1, t25_2, t21.2.2) : List (Int × List (Int × Int × Int) × List Int)) (x5).toNat [.int .i64 t28.1, v28_1_1, v28_2_1]]) [1] [0, 2] rfl ok27 rfl rfl rfl rfl (fun w hw => laws_markIntS.ok h32 w hl_v28_2_1 (Sep.sub hw))) ?_
      rintro _ _ ⟨_, ⟨rfl, hl_t32_2, rfl⟩, rfl⟩
      refine F.q rfl rfl rfl (wanted_none rfl) (r_assign rfl) ?_
      refine F.nil ?_
      refine Nrm.imp (cloS2 (cs := [R.sl S28_1_1 v28_1_1 (t28.2.1 : List (Int × Int × Int)), R.sl S28_2_1 v28_2_1 (t32_2 : List (Int))]) (rest := []) [1, 0, 2] [] rfl rfl (jn_pair (jn_int (n := t28.1)) (jn_pair (jn_sl (S := S28_1_1) (v := v28_1_1) (l := (t28.2.1 : List (Int × Int × Int)))) (jn_sl (S := S28_2_1) (v := v28_2_1) (l := (t32_2 : List (Int)))))) hS28_1) ?_
      refine Nrm.block ?_
      refine Nrm.seq ?_
      refine Tri.reg (l := [0, 1, 2]) rfl ?_
      refine F.q rfl rfl rfl (wanted_none rfl) (r_move rfl) ?_
      refine F.q rfl rfl rfl (wanted_none rfl) (r_add rfl rfl) ?_
      refine F.q rfl rfl rfl (wanted_none rfl) (r_assign rfl) ?_
      refine F.nil ?_
      refine Nrm.round ?_
      refine Rnd.only [0, 1, 5] rfl ?_
      refine Rnd.pick [0] rfl rfl ?_
      exact ih_1 _ _ ⟨(((x0 : List (Int × List (Int × Int × Int) × List Int)).set (x5).toNat (x1, t15.2.1, t15.2.2) : List (Int × List (Int × Int × Int) × List Int)).set (x5).toNat (t21.1, t25_2, t21.2.2) : List (Int × List (Int × Int × Int) × List Int)).set (x5).toNat (t28.1, t28.2.1, t32_2), t32_1, w64 (x5 + 1), hE_1, (len_set (len_set (len_set hl_x0))), rfl, rfl⟩
    · replace hE_1 := if_ff g_1 hE_1
      refine Tri.exit ?_
      refine Exi.then ?_
      refine Exi.then ?_
      refine Exi.same ?_
      cases hE_1
      refine Nrm.seq ?_
      refine Tri.seq ?_
      refine Tri.reg (l := [0, 1]) rfl ?_
      refine F.q rfl rfl rfl (wanted_none rfl) (r_move rfl) ?_
      refine F.q rfl rfl rfl (wanted_none rfl) (r_assign rfl) ?_
      refine F.nil ?_
      refine Nrm.seq ?_
      refine Tri.ret ?_
      cases h
      exact Rtn.body (.tmp rfl .nil) (fun w hw => ⟨_, _, rfl, ⟨rfl, hl_x0, rfl⟩, Sep.pick (is := [0]) rfl rfl hw⟩)

end Go.Proofs

/- loop.example/g01158/laws.markWorlds -/
namespace Go.Proofs
open Go Go.Ga
set_option linter.unusedVariables false
set_option maxRecDepth 100000
set_option maxHeartbeats 4000000
def laws_markWorlds.f (k : Nat) (a0_0 : List (Int × List (Int × Int × Int) × List Int)) (a0_1 : List (List Int)) (a1 : Int) : Option (Int × (List (Int × List (Int × Int × Int) × List Int)) × (List (List Int))) := (laws_markMazeS.f k a0_0 a1).bind fun (t8_1, t8_2) => (laws_markIntSS.f k a0_1 t8_1).bind fun (t12_1, t12_2) => some (t12_1, t8_2, t12_2)

theorem laws_markWorlds.ok {k : Nat}  {a0_0 : List (Int × List (Int × Int × Int) × List Int)} {a0_1 : List (List Int)} {a1 : Int} {r0 : Int} {r1 : List (Int × List (Int × Int × Int) × List Int)} {r2 : List (List Int)} (h : laws_markWorlds.f k a0_0 a0_1 a1 = some (r0, r1, r2)) (w : World) {va0_0 : Value} {Sa0_0 : Nat → Prop} (hl_va0_0 : SlLen va0_0 a0_0.length) {va0_1 : Value} {Sa0_1 : Nat → Prop} (hl_va0_1 : SlLen va0_1 a0_1.length) (hw0 : Sep w (footM [R.sl Sa0_0 va0_0 a0_0, R.sl Sa0_1 va0_1 a0_1]) [R.sl Sa0_0 va0_0 a0_0, R.sl Sa0_1 va0_1 a0_1] w) :
    Calls Try.prog 21 ([.agg ([va0_0, va0_1].toArray), .int .i64 a1] : List Value).toArray w (PostM (footM [R.sl Sa0_0 va0_0 a0_0, R.sl Sa0_1 va0_1 a0_1]) (fun u ns => u = .int .i64 r0 ∧ SlLen va0_0 r1.length ∧ SlLen va0_1 r2.length ∧ ns = [R.sl Sa0_0 va0_0 r1, R.sl Sa0_1 va0_1 r2]) w) := by
  unfold laws_markWorlds.f at h
  refine Calls.of_tri (N := 14) Try.func21 rfl rfl rfl hw0 ?_
  refine Tri.seq ?_
  refine Tri.reg (l := [0, 1]) rfl ?_
  refine F.m rfl rfl rfl (wanted_none rfl) (m_boxG rfl rfl) ?_
  rintro _ _ ⟨b2_1, rfl, rfl⟩
  refine F.q rfl rfl rfl (wanted_none rfl) (r_assign rfl) ?_
  refine F.nil ?_
  refine Nrm.seq ?_
  refine Tri.seq ?_
  obtain ⟨⟨t8_1, t8_2⟩, h8, h⟩ := bind_some h
  refine Tri.reg (l := [0, 1, 2, 3, 4]) rfl ?_
  refine F.q rfl rfl rfl (wanted_none rfl) (r_fieldAddr tf31_0 rfl) ?_
  refine F.q rfl rfl rfl (wanted_none rfl) (r_load ta29 rfl (fun w hw => cell_1 (box_cells (i := 0) rfl w hw) rfl)) ?_
  refine F.q rfl rfl rfl (wanted_none rfl) (r_move rfl) ?_
  refine F.ef rfl rfl rfl (wanted_none rfl) (d_callM (xs := _) (cs := [R.sl Sa0_0 va0_0 (a0_0 : List (Int × List (Int × Int × Int) × List Int))]) (rest := [R.box b2_1 31 [va0_0, va0_1], R.sl Sa0_1 va0_1 (a0_1 : List (List Int))]) [1] [0, 2] rfl ok68 rfl rfl rfl rfl (fun w hw => laws_markMazeS.ok h8 w hl_va0_0 (Sep.sub hw))) ?_
  rintro _ _ ⟨_, ⟨rfl, hl_t8_2, rfl⟩, rfl⟩
  refine F.q rfl rfl rfl (wanted_none rfl) (r_assign rfl) ?_
  refine F.nil ?_
  refine Nrm.seq ?_
  refine Tri.seq ?_
  obtain ⟨⟨t12_1, t12_2⟩, h12, h⟩ := bind_some h
  refine Tri.reg (l := [0, 1, 2, 3, 4]) rfl ?_
  refine F.q rfl rfl rfl (wanted_none rfl) (r_fieldAddr tf31_1 rfl) ?_
  refine F.q rfl rfl rfl (wanted_none rfl) (r_load ta23 rfl (fun w hw => cell_1 (box_cells (i := 1) rfl w hw) rfl)) ?_
  refine F.q rfl rfl rfl (wanted_none rfl) (r_move rfl) ?_
  refine F.ef rfl rfl rfl (wanted_none rfl) (d_callM (xs := _) (cs := [R.sl Sa0_1 va0_1 (a0_1 : List (List Int))]) (rest := [R.sl Sa0_0 va0_0 (t8_2 : List (Int × List (Int × Int × Int) × List Int)), R.box b2_1 31 [va0_0, va0_1]]) [2] [0, 1] rfl ok22 rfl rfl rfl rfl (fun w hw => laws_markIntSS.ok h12 w hl_va0_1 (Sep.sub hw))) ?_
  rintro _ _ ⟨_, ⟨rfl, hl_t12_2, rfl⟩, rfl⟩
  refine F.q rfl rfl rfl (wanted_none rfl) (r_assign rfl) ?_
  refine F.nil ?_
  refine Nrm.seq ?_
  refine Tri.seq ?_
  refine Tri.reg (l := [0, 1]) rfl ?_
  refine F.q rfl rfl rfl (wanted_none rfl) (r_move rfl) ?_
  refine F.q rfl rfl rfl (wanted_none rfl) (r_assign rfl) ?_
  refine F.nil ?_
  refine Nrm.seq ?_
  refine Tri.ret ?_
  cases h
  exact Rtn.body (.tmp rfl .nil) (fun w hw => ⟨_, _, rfl, ⟨rfl, hl_t8_2, hl_t12_2, rfl⟩, Sep.pick (is := [1, 0]) rfl rfl hw⟩)

end Go.Proofs

/- loop.example/g01158/laws.heldIntS -/

namespace Go.Proofs
open Go Go.Ga
set_option linter.unusedVariables false
set_option maxRecDepth 100000
set_option maxHeartbeats 4000000
def laws_heldIntS.l0 (k : Nat) (a0 : List Int) : Nat → Int → Int → Option ((Int) ⊕ (Int))
  | 0, _, _ => none
  | n + 1, x1, x5 => (if (decide (x5 < (a0.length : Int))) = true then (rdl a0 x5).bind fun t14 => (if (t14 != x1) = true then some (Sum.inr (-1)) else laws_heldIntS.l0 k a0 n (w64 (x1 + 1)) (w64 (x5 + 1))) else some (Sum.inl x1))

def laws_heldIntS.f (k : Nat) (a0 : List Int) (a1 : Int) : Option (Int) := (laws_heldIntS.l0 k a0 k a1 0).bind fun s => Lr s some fun x1 => some x1

theorem laws_heldIntS.ok {k : Nat}  {a0 : List Int} {a1 : Int} {r0 : Int} (h : laws_heldIntS.f k a0 a1 = some r0) (w : World) {va0 : Value} (hr_a0 : Rd w va0 a0) :
    Calls Try.prog 28 ([va0, .int .i64 a1] : List Value).toArray w (fun e w' => e = .returned (.int .i64 r0) ∧ Ext w w') := by
  unfold laws_heldIntS.f at h
  have hl_va0 := hr_a0.len
  refine Calls.of_tri (N := 21) Try.func28 rfl rfl rfl (Sep.nil (M := noM)) ?_
  refine Tri.seq ?_
  refine Tri.reg (l := [0]) rfl ?_
  refine F.q rfl rfl rfl (wanted_none rfl) (r_assign rfl) ?_
  refine F.nil ?_
  refine Nrm.seq ?_
  refine Tri.seq ?_
  refine Tri.seq ?_
  refine Tri.reg (l := [0]) rfl ?_
  refine F.q rfl rfl rfl (wanted_none rfl) (r_assign rfl) ?_
  refine F.nil ?_
  refine Nrm.seq ?_
  obtain ⟨s0, hE_1, h⟩ := bind_some h
  refine Tri.block ?_
  refine Tri.only [0, 1, 5] rfl ?_
  refine Tri.pick [] rfl rfl ?_
  refine Tri.rounds (fun n e' C' => ∃ (x1' : Int) (x5' : Int), laws_heldIntS.l0 k a0 n x1' x5' = some s0 ∧ e' = [(0, va0), (1, .int .i64 x1'), (5, .int .i64 x5')] ∧ C' = Sep w noM []) k ?_ ?_ ?_
  · exact ⟨a1, 0, hE_1, rfl, rfl⟩
  · rintro _ _ ⟨_, _, hE_1, _⟩
    rw [laws_heldIntS.l0.eq_1] at hE_1; cases hE_1
  · rintro n_1 _ _ ⟨x1, x5, hE_1, rfl, rfl⟩ ih_1
    rw [laws_heldIntS.l0.eq_2] at hE_1
    refine Tri.seq ?_
    refine Tri.seq ?_
    refine Tri.reg (l := [0, 1, 2, 3]) rfl ?_
    refine F.q rfl rfl rfl (wanted_none rfl) (r_move rfl) ?_
    refine F.q rfl rfl rfl (wanted_none rfl) (r_move rfl) ?_
    refine F.q rfl rfl rfl (wanted_none rfl) (r_len Try.underlying38 rfl hl_va0) ?_
    refine F.q rfl rfl rfl (wanted_none rfl) (r_lss rfl rfl) ?_
    refine F.nil ?_
    refine Nrm.seq ?_
    refine Tri.cond (b := decide (x5 < (a0.length : Int))) rfl (fun g_1 => ?_) (fun g_1 => ?_)
    · replace hE_1 := if_tt g_1 hE_1
      refine Tri.skip ?_
      refine Nrm.seq ?_
      refine Tri.seq ?_
      refine Tri.block ?_
      refine Tri.seq ?_
      refine Tri.seq ?_
      obtain ⟨t14, h14, hE_1⟩ := bind_some hE_1
      refine Tri.reg (l := [0, 1, 2, 3, 4, 5]) rfl ?_
      refine F.q rfl rfl rfl (wanted_none rfl) (r_move rfl) ?_
      refine F.q rfl rfl rfl (wanted_none rfl) (r_move rfl) ?_
      refine F.q rfl rfl rfl (wanted_none rfl) (r_indexAddrS Try.underlying38 ti3 rfl hl_va0 rfl (rdl_some h14).1 (rdl_some h14).2.1) ?_
      refine F.q rfl rfl rfl (wanted_none rfl) (r_load ta3 rfl (fun w hw => cell_0 (Rd.flat ((fun _ hw => hr_a0.sep hw) w hw) (rdl_some h14).2.2) rfl)) ?_
      refine F.q rfl rfl rfl (wanted_none rfl) (r_move rfl) ?_
      refine F.q rfl rfl rfl (wanted_none rfl) (r_neq rfl rfl) ?_
      refine F.nil ?_
      refine Nrm.seq ?_
      refine Tri.cond (b := t14 != x1) rfl (fun g_2 => ?_) (fun g_2 => ?_)
      · replace hE_1 := if_tt g_2 hE_1
        refine Tri.seq ?_
        refine Tri.reg (l := [0]) rfl ?_
        refine F.q rfl rfl rfl (wanted_none rfl) (r_assign rfl) ?_
        refine F.nil ?_
        refine Nrm.seq ?_
        refine Tri.ret ?_
        refine Rtn.then ?_
        refine Rtn.block ?_
        refine Rtn.then ?_
        refine Rtn.then ?_
        refine Rtn.block ?_
        refine Rtn.then ?_
        cases hE_1
        replace h := Lr_inr h
        cases h
        exact Rtn.body (.tmp rfl .nil) (fun w hw => ⟨rfl, hw.ext⟩)
      · replace hE_1 := if_ff g_2 hE_1
        refine Tri.skip ?_
        refine Nrm.seq ?_
        refine Tri.reg (l := [0, 1, 2]) rfl ?_
        refine F.q rfl rfl rfl (wanted_none rfl) (r_move rfl) ?_
        refine F.q rfl rfl rfl (wanted_none rfl) (r_add rfl rfl) ?_
        refine F.q rfl rfl rfl (wanted_none rfl) (r_assign rfl) ?_
        refine F.nil ?_
        refine Nrm.block ?_
        refine Nrm.seq ?_
        refine Tri.reg (l := [0, 1, 2]) rfl ?_
        refine F.q rfl rfl rfl (wanted_none rfl) (r_move rfl) ?_
        refine F.q rfl rfl rfl (wanted_none rfl) (r_add rfl rfl) ?_
        refine F.q rfl rfl rfl (wanted_none rfl) (r_assign rfl) ?_
        refine F.nil ?_
        refine Nrm.round ?_
        refine Rnd.only [0, 1, 5] rfl ?_
        refine Rnd.pick [] rfl rfl ?_
        exact ih_1 _ _ ⟨w64 (x1 + 1), w64 (x5 + 1), hE_1, rfl, rfl⟩
    · replace hE_1 := if_ff g_1 hE_1
      refine Tri.exit ?_
      refine Exi.then ?_
      refine Exi.then ?_
      refine Exi.same ?_
      cases hE_1
      replace h := Lr_inl h
      refine Nrm.seq ?_
      refine Tri.seq ?_
      refine Tri.reg (l := [0, 1]) rfl ?_
      refine F.q rfl rfl rfl (wanted_none rfl) (r_move rfl) ?_
      refine F.q rfl rfl rfl (wanted_none rfl) (r_assign rfl) ?_
      refine F.nil ?_
      refine Nrm.seq ?_
      refine Tri.ret ?_
      cases h
      exact Rtn.body (.tmp rfl .nil) (fun w hw => ⟨rfl, hw.ext⟩)

end Go.Proofs

/- loop.example/g01158/spec.l1Has -/

namespace Go.Proofs
open Go Go.Ga
set_option linter.unusedVariables false
set_option maxRecDepth 100000
set_option maxHeartbeats 4000000
def spec_l1Has.l0 (k : Nat) (a0 : List Int) (a1 : Int) : Nat → Int → Option ((Unit) ⊕ (Bool))
  | 0, _ => none
  | n + 1, x5 => (if (decide (x5 < (a0.length : Int))) = true then (rdl a0 x5).bind fun t14 => (if (t14 == a1) = true then some (Sum.inr true) else spec_l1Has.l0 k a0 a1 n (w64 (x5 + 1))) else some (Sum.inl ()))

def spec_l1Has.f (k : Nat) (a0 : List Int) (a1 : Int) : Option (Bool) := (spec_l1Has.l0 k a0 a1 k 0).bind fun s => Lr s some fun _ => some false

theorem spec_l1Has.ok {k : Nat}  {a0 : List Int} {a1 : Int} {r0 : Bool} (h : spec_l1Has.f k a0 a1 = some r0) (w : World) {va0 : Value} (hr_a0 : Rd w va0 a0) :
    Calls Try.prog 85 ([va0, .int .i64 a1] : List Value).toArray w (fun e w' => e = .returned (.bool r0) ∧ Ext w w') := by
  unfold spec_l1Has.f at h
  have hl_va0 := hr_a0.len
  refine Calls.of_tri (N := 18) Try.func85 rfl rfl rfl (Sep.nil (M := noM)) ?_
  refine Tri.seq ?_
  refine Tri.reg (l := [0]) rfl ?_
  refine F.q rfl rfl rfl (wanted_none rfl) (r_assign rfl) ?_
  refine F.nil ?_
  refine Nrm.seq ?_
  refine Tri.seq ?_
  refine Tri.seq ?_
  refine Tri.reg (l := [0]) rfl ?_
  refine F.q rfl rfl rfl (wanted_none rfl) (r_assign rfl) ?_
  refine F.nil ?_
  refine Nrm.seq ?_
  obtain ⟨s0, hE_1, h⟩ := bind_some h
  refine Tri.block ?_
  refine Tri.only [0, 1, 5] rfl ?_
  refine Tri.pick [] rfl rfl ?_
  refine Tri.rounds (fun n e' C' => ∃ (x5' : Int), spec_l1Has.l0 k a0 a1 n x5' = some s0 ∧ e' = [(0, va0), (1, .int .i64 a1), (5, .int .i64 x5')] ∧ C' = Sep w noM []) k ?_ ?_ ?_
  · exact ⟨0, hE_1, rfl, rfl⟩
  · rintro _ _ ⟨_, hE_1, _⟩
    rw [spec_l1Has.l0.eq_1] at hE_1; cases hE_1
  · rintro n_1 _ _ ⟨x5, hE_1, rfl, rfl⟩ ih_1
    rw [spec_l1Has.l0.eq_2] at hE_1
    refine Tri.seq ?_
    refine Tri.seq ?_
    refine Tri.reg (l := [0, 1, 2, 3]) rfl ?_
    refine F.q rfl rfl rfl (wanted_none rfl) (r_move rfl) ?_
    refine F.q rfl rfl rfl (wanted_none rfl) (r_move rfl) ?_
    refine F.q rfl rfl rfl (wanted_none rfl) (r_len Try.underlying38 rfl hl_va0) ?_
    refine F.q rfl rfl rfl (wanted_none rfl) (r_lss rfl rfl) ?_
    refine F.nil ?_
    refine Nrm.seq ?_
    refine Tri.cond (b := decide (x5 < (a0.length : Int))) rfl (fun g_1 => ?_) (fun g_1 => ?_)
    · replace hE_1 := if_tt g_1 hE_1
      refine Tri.skip ?_
      refine Nrm.seq ?_
      refine Tri.seq ?_
      refine Tri.block ?_
      refine Tri.seq ?_
      obtain ⟨t14, h14, hE_1⟩ := bind_some hE_1
      refine Tri.reg (l := [0, 1, 2, 3, 4, 5]) rfl ?_
      refine F.q rfl rfl rfl (wanted_none rfl) (r_move rfl) ?_
      refine F.q rfl rfl rfl (wanted_none rfl) (r_move rfl) ?_
      refine F.q rfl rfl rfl (wanted_none rfl) (r_indexAddrS Try.underlying38 ti3 rfl hl_va0 rfl (rdl_some h14).1 (rdl_some h14).2.1) ?_
      refine F.q rfl rfl rfl (wanted_none rfl) (r_load ta3 rfl (fun w hw => cell_0 (Rd.flat ((fun _ hw => hr_a0.sep hw) w hw) (rdl_some h14).2.2) rfl)) ?_
      refine F.q rfl rfl rfl (wanted_none rfl) (r_move rfl) ?_
      refine F.q rfl rfl rfl (wanted_none rfl) (r_eql rfl rfl) ?_
      refine F.nil ?_
      refine Nrm.seq ?_
      refine Tri.cond (b := t14 == a1) rfl (fun g_2 => ?_) (fun g_2 => ?_)
      · replace hE_1 := if_tt g_2 hE_1
        refine Tri.seq ?_
        refine Tri.reg (l := [0]) rfl ?_
        refine F.q rfl rfl rfl (wanted_none rfl) (r_assign rfl) ?_
        refine F.nil ?_
        refine Nrm.seq ?_
        refine Tri.ret ?_
        refine Rtn.block ?_
        refine Rtn.then ?_
        refine Rtn.then ?_
        refine Rtn.block ?_
        refine Rtn.then ?_
        cases hE_1
        replace h := Lr_inr h
        cases h
        exact Rtn.body (.tmp rfl .nil) (fun w hw => ⟨rfl, hw.ext⟩)
      · replace hE_1 := if_ff g_2 hE_1
        refine Tri.skip ?_
        refine Nrm.block ?_
        refine Nrm.seq ?_
        refine Tri.reg (l := [0, 1, 2]) rfl ?_
        refine F.q rfl rfl rfl (wanted_none rfl) (r_move rfl) ?_
        refine F.q rfl rfl rfl (wanted_none rfl) (r_add rfl rfl) ?_
        refine F.q rfl rfl rfl (wanted_none rfl) (r_assign rfl) ?_
        refine F.nil ?_
        refine Nrm.round ?_
        refine Rnd.only [0, 1, 5] rfl ?_
        refine Rnd.pick [] rfl rfl ?_
        exact ih_1 _ _ ⟨w64 (x5 + 1), hE_1, rfl, rfl⟩
    · replace hE_1 := if_ff g_1 hE_1
      refine Tri.exit ?_
      refine Exi.then ?_
      refine Exi.then ?_
      refine Exi.same ?_
      cases hE_1
      replace h := Lr_inl h
      refine Nrm.seq ?_
      refine Tri.seq ?_
      refine Tri.reg (l := [0]) rfl ?_
      refine F.q rfl rfl rfl (wanted_none rfl) (r_assign rfl) ?_
      refine F.nil ?_
      refine Nrm.seq ?_
      refine Tri.ret ?_
      cases h
      exact Rtn.body (.tmp rfl .nil) (fun w hw => ⟨rfl, hw.ext⟩)

end Go.Proofs

/- loop.example/g01158/spec.l10None -/

namespace Go.Proofs
open Go Go.Ga
set_option linter.unusedVariables false
set_option maxRecDepth 100000
set_option maxHeartbeats 4000000
def spec_l10None.l0 (k : Nat) (a0 : Int) : Nat → (List (Int)) → Int → Option ((List (Int)))
  | 0, _, _ => none
  | n + 1, x3, x4 => (if (decide (x4 < a0)) = true then if (x3 ++ ([(-1)] : List (Int))).length < 1099511627776 then spec_l10None.l0 k a0 n (x3 ++ ([(-1)] : List (Int))) (w64 (x4 + 1)) else none else some x3)

def spec_l10None.f (k : Nat) (a0 : Int) : Option ((List Int)) := (spec_l10None.l0 k a0 k ([] : List (Int)) 0).bind fun x3 => some x3

theorem spec_l10None.ok {k : Nat}  {a0 : Int} {r0 : List Int} (h : spec_l10None.f k a0 = some r0) (w : World) :
    Calls Try.prog 116 ([.int .i64 a0] : List Value).toArray w (Post (fun u ns => ∃ (Sr0 : Nat → Prop), SlLen u r0.length ∧ ns = [R.sl Sr0 u r0]) w) := by
  unfold spec_l10None.f at h
  refine Calls.of_tri (N := 15) Try.func116 rfl rfl rfl (Sep.nil (M := noM)) ?_
  refine Tri.seq ?_
  refine Tri.reg (l := [0]) rfl ?_
  refine F.q rfl rfl rfl (wanted_none rfl) (r_assign rfl) ?_
  refine F.nil ?_
  refine Nrm.seq ?_
  refine Tri.seq ?_
  refine Tri.reg (l := [0, 1]) rfl ?_
  refine F.m rfl rfl rfl (wanted_none rfl) (m_build0 (α := Int) Try.underlying38 ti3) ?_
  rintro v5_1 _ ⟨S5_1, hl_v5_1, rfl⟩
  refine F.q rfl rfl rfl (wanted_none rfl) (r_assign rfl) ?_
  refine F.nil ?_
  refine Nrm.seq ?_
  refine Tri.seq ?_
  refine Tri.seq ?_
  refine Tri.reg (l := [0]) rfl ?_
  refine F.q rfl rfl rfl (wanted_none rfl) (r_assign rfl) ?_
  refine F.nil ?_
  refine Nrm.seq ?_
  obtain ⟨x3, hE_1, h⟩ := bind_some h
  refine Tri.block ?_
  refine Tri.only [0, 3, 4] rfl ?_
  refine Tri.pick [0] rfl rfl ?_
  refine Tri.rounds (fun n e' C' => ∃ (x3' : List (Int)) (x4' : Int) (w3 : Value) (T3 : Nat → Prop), spec_l10None.l0 k a0 n x3' x4' = some x3 ∧ SlLen w3 (x3').length ∧ e' = [(0, .int .i64 a0), (3, w3), (4, .int .i64 x4')] ∧ C' = Sep w noM [R.sl T3 w3 (x3' : List (Int))]) k ?_ ?_ ?_
  · exact ⟨([] : List (Int)), 0, v5_1, S5_1, hE_1, hl_v5_1, rfl, rfl⟩
  · rintro _ _ ⟨_, _, _, _, hE_1, _⟩
    rw [spec_l10None.l0.eq_1] at hE_1; cases hE_1
  · rintro n_1 _ _ ⟨x3, x4, w3, T3, hE_1, hl_w3, rfl, rfl⟩ ih_1
    rw [spec_l10None.l0.eq_2] at hE_1
    refine Tri.seq ?_
    refine Tri.seq ?_
    refine Tri.reg (l := [0, 1, 2]) rfl ?_
    refine F.q rfl rfl rfl (wanted_none rfl) (r_move rfl) ?_
    refine F.q rfl rfl rfl (wanted_none rfl) (r_move rfl) ?_
    refine F.q rfl rfl rfl (wanted_none rfl) (r_lss rfl rfl) ?_
    refine F.nil ?_
    refine Nrm.seq ?_
    refine Tri.cond (b := decide (x4 < a0)) rfl (fun g_1 => ?_) (fun g_1 => ?_)
    · replace hE_1 := if_tt g_1 hE_1
      refine Tri.skip ?_
      refine Nrm.seq ?_
      refine Tri.seq ?_
      refine Tri.block ?_
      obtain ⟨hs13, hE_1⟩ := ck hE_1
      refine Tri.reg (l := [0, 1, 2, 3]) rfl ?_
      refine F.q rfl rfl rfl (wanted_none rfl) (r_move rfl) ?_
      refine F.m rfl rfl rfl (wanted_none rfl) (m_buildF (l := ([(-1)] : List (Int))) Try.underlying38 ti3 rfl rfl rfl rfl rfl) ?_
      rintro v12_1 _ ⟨S12_1, hl_v12_1, rfl⟩
      refine F.ef rfl rfl rfl (wanted_none rfl) (d_append (i := 1) Try.underlying38 Try.underlying38 ti3 rfl (by decide) rfl rfl rfl (rd_sl (i := 0) rfl) hs13) ?_
      rintro v13_1 _ ⟨S13_1, rfl, hl_v13_1⟩
      refine F.q rfl rfl rfl (wanted_none rfl) (r_assign rfl) ?_
      refine F.nil ?_
      refine Nrm.block ?_
      refine Nrm.seq ?_
      refine Tri.reg (l := [0, 1, 2]) rfl ?_
      refine F.q rfl rfl rfl (wanted_none rfl) (r_move rfl) ?_
      refine F.q rfl rfl rfl (wanted_none rfl) (r_add rfl rfl) ?_
      refine F.q rfl rfl rfl (wanted_none rfl) (r_assign rfl) ?_
      refine F.nil ?_
      refine Nrm.round ?_
      refine Rnd.only [0, 3, 4] rfl ?_
      refine Rnd.pick [1] rfl rfl ?_
      exact ih_1 _ _ ⟨x3 ++ ([(-1)] : List (Int)), w64 (x4 + 1), v13_1, S13_1, hE_1, hl_v13_1, rfl, rfl⟩
    · replace hE_1 := if_ff g_1 hE_1
      refine Tri.exit ?_
      refine Exi.then ?_
      refine Exi.then ?_
      refine Exi.same ?_
      cases hE_1
      refine Nrm.seq ?_
      refine Tri.seq ?_
      refine Tri.reg (l := [0, 1]) rfl ?_
      refine F.q rfl rfl rfl (wanted_none rfl) (r_move rfl) ?_
      refine F.q rfl rfl rfl (wanted_none rfl) (r_assign rfl) ?_
      refine F.nil ?_
      refine Nrm.seq ?_
      refine Tri.ret ?_
      cases h
      exact Rtn.body (.tmp rfl .nil) (fun w hw => ⟨_, _, rfl, ⟨T3, hl_w3, rfl⟩, Sep.pick (is := [0]) rfl rfl hw⟩)

end Go.Proofs

/- loop.example/g01158/spec.l1Own -/

namespace Go.Proofs
open Go Go.Ga
set_option linter.unusedVariables false
set_option maxRecDepth 100000
set_option maxHeartbeats 4000000
def spec_l1Own.f (k : Nat) (a0 : List Int) : Option ((List Int)) := if (([] : List (Int)) ++ a0).length < 1099511627776 then some (([] : List (Int)) ++ a0) else none

theorem spec_l1Own.ok {k : Nat}  {a0 : List Int} {r0 : List Int} (h : spec_l1Own.f k a0 = some r0) (w : World) {va0 : Value} (hr_a0 : Rd w va0 a0) :
    Calls Try.prog 118 ([va0] : List Value).toArray w (Post (fun u ns => ∃ (Sr0 : Nat → Prop), SlLen u r0.length ∧ ns = [R.sl Sr0 u r0]) w) := by
  unfold spec_l1Own.f at h
  have hl_va0 := hr_a0.len
  refine Calls.of_tri (N := 6) Try.func118 rfl rfl rfl (Sep.nil (M := noM)) ?_
  refine Tri.seq ?_
  refine Tri.reg (l := [0]) rfl ?_
  refine F.q rfl rfl rfl (wanted_none rfl) (r_assign rfl) ?_
  refine F.nil ?_
  refine Nrm.seq ?_
  refine Tri.seq ?_
  obtain ⟨hs5, h⟩ := ck h
  refine Tri.reg (l := [0, 1, 2, 3]) rfl ?_
  refine F.m rfl rfl rfl (wanted_none rfl) (m_build0 (α := Int) Try.underlying38 ti3) ?_
  rintro v3_1 _ ⟨S3_1, hl_v3_1, rfl⟩
  refine F.q rfl rfl rfl (wanted_none rfl) (r_move rfl) ?_
  refine F.ef rfl rfl rfl (wanted_none rfl) (d_append (i := 0) Try.underlying38 Try.underlying38 ti3 rfl (by decide) rfl rfl rfl (fun _ hw => hr_a0.sep hw) hs5) ?_
  rintro v5_1 _ ⟨S5_1, rfl, hl_v5_1⟩
  refine F.q rfl rfl rfl (wanted_none rfl) (r_assign rfl) ?_
  refine F.nil ?_
  refine Nrm.seq ?_
  refine Tri.ret ?_
  cases h
  exact Rtn.body (.tmp rfl .nil) (fun w hw => ⟨_, _, rfl, ⟨S5_1, hl_v5_1, rfl⟩, Sep.pick (is := [0]) rfl rfl hw⟩)

end Go.Proofs

/- loop.example/g01158/spec.l2Has -/

namespace Go.Proofs
open Go Go.Ga
set_option linter.unusedVariables false
set_option maxRecDepth 100000
set_option maxHeartbeats 4000000
def spec_l2Has.f (k : Nat) (a0 : Int) (a1 : Int) : Option (Bool) := some ((band a0 a1) == a1)

theorem spec_l2Has.ok {k : Nat}  {a0 : Int} {a1 : Int} {r0 : Bool} (h : spec_l2Has.f k a0 a1 = some r0) (w : World) :
    Calls Try.prog 148 ([.int .i64 a0, .int .i64 a1] : List Value).toArray w (fun e w' => e = .returned (.bool r0) ∧ Ext w w') := by
  unfold spec_l2Has.f at h
  refine Calls.of_tri (N := 10) Try.func148 rfl rfl rfl (Sep.nil (M := noM)) ?_
  refine Tri.seq ?_
  refine Tri.reg (l := [0]) rfl ?_
  refine F.q rfl rfl rfl (wanted_none rfl) (r_assign rfl) ?_
  refine F.nil ?_
  refine Nrm.seq ?_
  refine Tri.seq ?_
  refine Tri.reg (l := [0, 1, 2, 3, 4, 5]) rfl ?_
  refine F.q rfl rfl rfl (wanted_none rfl) (r_move rfl) ?_
  refine F.q rfl rfl rfl (wanted_none rfl) (r_move rfl) ?_
  refine F.q rfl rfl rfl (wanted_none rfl) (r_and rfl rfl) ?_
  refine F.q rfl rfl rfl (wanted_none rfl) (r_move rfl) ?_
  refine F.q rfl rfl rfl (wanted_none rfl) (r_eql rfl rfl) ?_
  refine F.q rfl rfl rfl (wanted_none rfl) (r_assign rfl) ?_
  refine F.nil ?_
  refine Nrm.seq ?_
  refine Tri.ret ?_
  cases h
  exact Rtn.body (.tmp rfl .nil) (fun w hw => ⟨rfl, hw.ext⟩)

end Go.Proofs

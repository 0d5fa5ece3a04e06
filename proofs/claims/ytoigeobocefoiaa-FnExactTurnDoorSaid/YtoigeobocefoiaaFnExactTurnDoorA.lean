/- A part of the proof of FnExactTurnDoor: plain facts on the model. No condition. -/
import Derived.Deep.Quiet
import Derived.Lib.Bytealg
import Derived.LoopN
import Derived.ProofKit
import Derived.Sort.Grow
set_option linter.unusedSimpArgs false
namespace Go.Ga
open Go

structure Ext (w w' : World) : Prop where
 os : w'.os = w.os
 tape : w'.tape = w.tape
 output : w'.output = w.output
 size : w.heap.size ≤ w'.heap.size
 drawn : w.drawn ≤ w'.drawn
 block : ∀ k, k < w.heap.size → w'.heap[k]? = w.heap[k]?

theorem Ext.refl (w : World) : Ext w w := ⟨rfl, rfl, rfl, Nat.le_refl _, Nat.le_refl _, fun _ _ => rfl⟩
theorem Ext.trans {a b c : World} (h : Ext a b) (k : Ext b c) : Ext a c :=
 ⟨k.os.trans h.os, k.tape.trans h.tape, k.output.trans h.output, Nat.le_trans h.size k.size, Nat.le_trans h.drawn k.drawn,
  fun i hi => (k.block i (Nat.lt_of_lt_of_le hi h.size)).trans (h.block i hi)⟩
theorem Ext.drew (w : World) : Ext w { w with drawn := w.drawn + 1 } := ⟨rfl, rfl, rfl, Nat.le_refl _, Nat.le_succ _, fun _ _ => rfl⟩

abbrev Env := List (Nat × Value)
def look : Env → Nat → Option Value
  | [], _ => none
  | (k, v) :: r, t => match Nat.beq k t with | true => some v | false => look r t

structure Has (N : Nat) (a : Act) (e : Env) : Prop where
 size : a.tmps.size = N
 get : ∀ t v, look e t = some v → a.tmps[t]? = some v
 defers : a.defers = []

def putE (d : Option Nat) (v : Value) (e : Env) : Env := match d with | some d => (d, v) :: e | none => e
def dstOk (N : Nat) (o : Oper) : Bool := match o.dst with | some d => Nat.blt d N | none => true

theorem Has.put {N : Nat} {a : Act} {e : Env} (h : Has N a e) {d : Option Nat} (v : Value) (hd : ∀ t, d = some t → t < N) : Has N (a.put d v) (putE d v e) := by
  cases d with
  | none => exact h
  | some d =>
    have hd := hd d rfl
    refine ⟨by simp [Act.put, h.size], fun t u hl => ?_, h.defers⟩
    simp only [putE, look] at hl
    simp only [Act.put]
    cases hb : Nat.beq d t with
    | true =>
      have := Nat.eq_of_beq_eq_true hb; subst this
      simp only [hb] at hl; cases hl
      rw [Array.getElem?_setIfInBounds_self_of_lt (by rw [h.size]; exact hd)]
    | false =>
      simp only [hb] at hl
      have hne : d ≠ t := fun he => by rw [he, Nat.beq_refl] at hb; cases hb
      rw [Array.getElem?_setIfInBounds_ne hne]; exact h.get t u hl

def opv (e : Env) : Operand → Option Value
  | .tmp t => look e t
  | .const v => some v
  | .func f => some (.func (.func f) #[] #[])
  | .global _ => none

theorem Has.eval {N : Nat} {a : Act} {e : Env} (h : Has N a e) {x : Operand} {v : Value} (hx : opv e x = some v) : a.eval x = v := by
  cases x with
  | tmp t => simp only [opv] at hx; simp [Act.eval, Array.getD_eq_getD_getElem?, h.get t v hx]
  | const c => simp only [opv] at hx; cases hx; rfl
  | func f => simp only [opv] at hx; cases hx; rfl
  | global g => simp [opv] at hx

def opvs (e : Env) : List Operand → Option (List Value)
  | [] => some []
  | x :: r => match opv e x, opvs e r with | some v, some vs => some (v :: vs) | _, _ => none

theorem Has.evals {N : Nat} {a : Act} {e : Env} (h : Has N a e) : ∀ {xs : List Operand} {vs : List Value}, opvs e xs = some vs → xs.map a.eval = vs
  | [], vs, hx => by simp only [opvs] at hx; cases hx; rfl
  | x :: r, vs, hx => by
    simp only [opvs] at hx
    cases h1 : opv e x with
    | none => simp [h1] at hx
    | some v =>
      cases h2 : opvs e r with
      | none => simp [h1, h2] at hx
      | some us =>
        simp only [h1, h2] at hx; cases hx
        simp [h.eval h1, h.evals h2]

section
variable {P : Program} {ops : Array Oper} {Q : Exit → Act → World → Prop}

def fineUpon (P : Program) (K : Value → World → Prop) : Result Next → Prop
  | .ok (.value v) w' => K v w'
  | .ok .skip w' => K undef w'
  | .ok (.enter f args) w' => Calls P f args w' (fun e w'' => ∃ v, e = .returned v ∧ K v w'')
  | _ => False
def fine (P : Program) (o : Oper) (a : Act) (w : World) (K : Value → World → Prop) : Prop := fineUpon P K ((execOp a.eval o).run P w)

theorem fineUpon.mono {r : Result Next} {K K' : Value → World → Prop} (hk : ∀ v w', K v w' → K' v w') (h : fineUpon P K r) : fineUpon P K' r := by
  cases r with
  | ok n w' =>
    cases n <;> simp only [fineUpon] at h ⊢
    case enter f args => exact h.mono fun e w'' ⟨v, he, hv⟩ => ⟨v, he, hk _ _ hv⟩
    all_goals exact hk _ _ h
  | halt x w' => simp only [fineUpon] at h
theorem fine.mono {o : Oper} {a : Act} {w : World} {K K' : Value → World → Prop} (hk : ∀ v w', K v w' → K' v w') (h : fine P o a w K) : fine P o a w K' := fineUpon.mono hk h

theorem fine.wp {o : Oper} {a : Act} {w : World} {K : Act → World → Prop} (h : fine P o a w (fun v w' => K (a.put o.dst v) w')) : o.wp P a w K Q := by
  unfold fine at h
  unfold Oper.wp
  generalize (execOp a.eval o).run P w = r at *
  cases r with
  | ok n w' =>
    cases n <;> simp only [fineUpon] at h <;> simp only [Oper.upon]
    case enter f args => exact h.mono fun e w'' ⟨v, he, hv⟩ => by subst he; exact hv
    all_goals exact h
  | halt x w' => simp only [fineUpon] at h

def fOp (P : Program) (ops : Array Oper) (i : Nat) (K : Option Nat → Value → World → Prop) (a : Act) (w : World) : Prop :=
  match ops[i]? with
  | none => False
  | some o => if Region.wanted o (yielded ops a.tmps) then fine P o a w (K o.dst) else K o.dst undef w

theorem fOp.wpOp {i : Nat} {a : Act} {w : World} {K : Act → World → Prop} (h : fOp P ops i (fun d v w' => K (a.put d v) w') a w) : wpOp P ops Q i K a w := by
  unfold fOp at h
  unfold Go.wpOp
  cases ho : ops[i]? with
  | none => simp [ho] at h
  | some o =>
    simp only [ho] at h ⊢
    split
    · rename_i hw; simp only [hw, if_true] at h; exact .inl (fine.wp h)
    · rename_i hw; simp only [hw] at h; exact h
theorem fOp.mono {i : Nat} {a : Act} {w : World} {K K' : Option Nat → Value → World → Prop} (hk : ∀ d v w', K d v w' → K' d v w') (h : fOp P ops i K a w) : fOp P ops i K' a w := by
  unfold fOp at *
  cases ho : ops[i]? with
  | none => simp [ho] at h
  | some o =>
    simp only [ho] at h ⊢
    split
    · rename_i hw; simp only [hw, if_true] at h; exact h.mono (hk o.dst)
    · rename_i hw; simp only [hw] at h; exact hk _ _ _ h

def upC (C : World → Prop) : Prop := ∀ w w', C w → Ext w w' → C w'
theorem upC_ext (w : World) : upC (Ext w) := fun _ _ h k => h.trans k

def Fin (D : Nat → Bool) (ops : Array Oper) (listed : Array Bool) : Prop := ∀ i, i < ops.size → D i = true → listed.getD i true = true

def RAny (P : Program) (ops : Array Oper) (Q : Exit → Act → World → Prop) (D : Nat → Bool) (St : World → World → Prop) : Nat → Array Bool → Act → (World → Prop) → Prop
  | 0, listed, a, C => Fin D ops listed ∧ ∀ w, C w → wpAny P .any ops Q 0 listed a w
  | n + 1, listed, a, C => (Fin D ops listed ∧ ∀ w, C w → wpAny P .any ops Q (n + 1) listed a w) ∨
      (Region.ready .any ops listed ≠ [] ∧ ∀ i ∈ Region.ready .any ops listed, ∀ w, C w →
        fOp P ops i (fun d u w' => St w w' ∧ RAny P ops Q D St n (listed.setIfInBounds i true) (a.put d u) (Ext w')) a w)

variable {D : Nat → Bool} {St : World → World → Prop}

theorem RAny.anti : ∀ {n : Nat} {listed : Array Bool} {a : Act} {C C' : World → Prop}, (∀ w, C' w → C w) → RAny P ops Q D St n listed a C → RAny P ops Q D St n listed a C'
  | 0, _, _, _, _, hc, h => ⟨h.1, fun w hw => h.2 w (hc w hw)⟩
  | _ + 1, _, _, _, _, hc, .inl h => .inl ⟨h.1, fun w hw => h.2 w (hc w hw)⟩
  | _ + 1, _, _, _, _, hc, .inr h => .inr ⟨h.1, fun i hi w hw => h.2 i hi w (hc w hw)⟩

theorem RAny.sound : ∀ {n : Nat} {listed : Array Bool} {a : Act} {C : World → Prop}, RAny P ops Q D St n listed a C → ∀ w, C w → wpAny P .any ops Q n listed a w
  | 0, _, _, _, h, w, hw => h.2 w hw
  | _ + 1, _, _, _, .inl h, w, hw => h.2 w hw
  | _ + 1, _, _, _, .inr h, w, hw =>
    ⟨fun h0 => absurd h0 h.1, fun i hi => fOp.wpOp (fOp.mono (fun _ _ w' ⟨_, hr⟩ => RAny.sound hr w' (Ext.refl w')) (h.2 i hi w hw))⟩

def QY (P : Program) (ops : Array Oper) (C : World → Prop) (o : Oper) (v : Value) (a : Act) : Prop :=
 (Region.wanted o (yielded ops a.tmps) = true ∧ ∀ w, C w → fine P o a w (fun u w' => u = v ∧ Ext w w')) ∨
 (Region.wanted o (yielded ops a.tmps) = false ∧ v = undef)

theorem QY.of_same {C C' : World → Prop} {o : Oper} {v : Value} {a a' : Act} (hy : QY P ops C o v a) (hc : ∀ w, C' w → C w) (he : execOp a'.eval o = execOp a.eval o)
  (hw : Region.wanted o (yielded ops a'.tmps) = Region.wanted o (yielded ops a.tmps)) : QY P ops C' o v a' := by
 unfold QY fine at *
 rw [he, hw]
 exact hy.imp (fun h => ⟨h.1, fun w hw => h.2 w (hc w hw)⟩) id

theorem QY.fOp {C : World → Prop} {i : Nat} {o : Oper} {v : Value} {a : Act} {w : World} (hi : ops[i]? = some o) (hy : QY P ops C o v a) (hw : C w) :
  fOp P ops i (fun d u w' => d = o.dst ∧ u = v ∧ Ext w w') a w := by
 unfold Ga.fOp
 simp only [hi]
 rcases hy with ⟨h1, h2⟩ | ⟨h1, rfl⟩
 ·rw [if_pos h1]; exact (h2 w hw).mono fun u w' h => ⟨trivial, h⟩
 ·rw [if_neg (by simp [h1])]; exact ⟨trivial, rfl, Ext.refl w⟩

theorem fOp_put {j : Nat} {oi oj : Oper} {v : Value} (hj : ops[j]? = some oj) (hap : oi.apart ops oj = true)
  (hsj : ∀ cs b, oj.op ≠ .select cs b) {K : Option Nat → Value → World → Prop} {a : Act} {w : World}
  (h : fOp P ops j K (a.put oi.dst v) w) : fOp P ops j (fun d u w' => d = oj.dst ∧ K d u w') a w := by
 obtain ⟨h1, h2, h3⟩ := Oper.apart_spec hap
 unfold fOp at *
 simp only [hj] at *
 rw [wanted_put oj a oi.dst v h1] at h
 split
 ·rename_i hw
  rw [if_pos hw] at h
  unfold fine at *
  rw [execOp_put oj hsj a oi.dst v h1] at h
  exact fineUpon.mono (fun _ _ hk => ⟨trivial, hk⟩) h
 ·rename_i hw; rw [if_neg hw] at h; exact ⟨trivial, h⟩

def Down (ops : Array Oper) (listed : Array Bool) : Prop :=
 ∀ j o, ops[j]? = some o → listed.getD j false = true → ∀ e ∈ o.after, Region.binds .any e = true → listed.getD e.on false = true

inductive Reach (ops : Array Oper) : Nat → Nat → Prop
  | one {j i : Nat} {o : Oper} {e : Edge} : ops[j]? = some o → e ∈ o.after → Region.binds .any e = true → e.on = i → Reach ops j i
  | more {j i : Nat} {o : Oper} {e : Edge} : ops[j]? = some o → e ∈ o.after → Region.binds .any e = true → Reach ops e.on i → Reach ops j i

theorem Reach.listed {listed : Array Bool} (hd : Down ops listed) {j i : Nat} (h : Reach ops j i) (hj : listed.getD j false = true) : listed.getD i false = true := by
  induction h with
  | one ho he hb hi => subst hi; exact hd _ _ ho hj _ he hb
  | more ho he hb _ ih => exact ih (hd _ _ ho hj _ he hb)

theorem Reach.ready {listed : Array Bool} (hd : Down ops listed) {j i : Nat} (h : Reach ops j i) (hj : j ∈ Region.ready .any ops listed) : listed.getD i false = true := by
  obtain ⟨_, o', ho', hall⟩ := mem_ready.1 hj
  cases h with
  | one ho he hb hi => rw [ho'] at ho; cases ho; subst hi; exact hall _ he hb
  | more ho he hb hr => rw [ho'] at ho; cases ho; exact hr.listed hd (hall _ he hb)

theorem Down.set {listed : Array Bool} (hd : Down ops listed) {j : Nat} (hj : j ∈ Region.ready .any ops listed) : Down ops (listed.setIfInBounds j true) := by
 intro k o hk hl e he hb
 by_cases hjk : j = k
 ·subst hjk
  obtain ⟨_, o', ho', hall⟩ := mem_ready.1 hj
  rw [ho'] at hk; cases hk
  exact getD_set_true (hall e he hb)
 ·rw [getD_set_ne false hjk] at hl
  exact getD_set_true (hd k o hk hl e he hb)

theorem RAny.first {Cy : World → Prop} (hCy : upC Cy) (hSt : ∀ w w', Cy w → St w w' → Cy w') (hE : ∀ w w', Cy w → Ext w w' → St w w') {i : Nat} {oi : Oper} {v : Value} (hi : ops[i]? = some oi) (hsel : ∀ (j : Nat) (o : Oper) cs b, ops[j]? = some o → o.op ≠ .select cs b)
    (hD : ∀ j, j < ops.size → D j = false → Reach ops j i) :
    ∀ (n : Nat) (listed : Array Bool) (a : Act) (C : World → Prop), upC C → (∀ w, C w → Cy w) → Down ops listed →
      (∀ j oj, ops[j]? = some oj → j ≠ i → listed.getD j true = false → (∀ e ∈ oj.after, Region.binds .any e = true → e.on ≠ i) → oi.apart ops oj = true) →
      i ∈ Region.ready .any ops listed → QY P ops Cy oi v a →
      RAny P ops Q D St n (listed.setIfInBounds i true) (a.put oi.dst v) C → RAny P ops Q D St (n + 1) listed a C := by
  intro n
  induction n with
  | zero =>
    intro listed a C hC hCC hd hfree hr hy H
    refine .inr ⟨fun h0 => (by rw [h0] at hr; cases hr), fun j hj w hw => ?_⟩
    by_cases hji : j = i
    · subst hji
      refine (hy.fOp hi (hCC w hw)).mono fun d u w' ⟨h1, h2, h3⟩ => ⟨hE w w' (hCC w hw) h3, ?_⟩
      subst h1; subst h2
      exact H.anti fun w'' h => hC w w'' hw (h3.trans h)
    · exfalso
      have hlt : j < ops.size := (Array.getElem?_eq_some_iff.1 (mem_ready.1 hj).2.choose_spec.1).1
      cases hDj : D j with
      | true =>
        have := H.1 j hlt hDj
        rw [getD_set_ne true (Ne.symm hji), (mem_ready.1 hj).1] at this
        cases this
      | false =>
        have h1 := (hD j hlt hDj).ready hd hj
        have h0 := (mem_ready.1 hr).1
        rcases Nat.lt_or_ge i listed.size with h' | h'
        · simp [h'] at h0 h1; rw [h0] at h1; cases h1
        · simp [Array.getElem?_eq_none h'] at h1
  | succ n ih =>
    intro listed a C hC hCC hd hfree hr hy H
    refine .inr ⟨fun h0 => (by rw [h0] at hr; cases hr), fun j hj w hw => ?_⟩
    by_cases hji : j = i
    · subst hji
      refine (hy.fOp hi (hCC w hw)).mono fun d u w' ⟨h1, h2, h3⟩ => ⟨hE w w' (hCC w hw) h3, ?_⟩
      subst h1; subst h2
      exact H.anti fun w'' h => hC w w'' hw (h3.trans h)
    · have hlt : j < ops.size := (Array.getElem?_eq_some_iff.1 (mem_ready.1 hj).2.choose_spec.1).1
      obtain ⟨hjun, oj, hoj, hall⟩ := mem_ready.1 hj
      have hiun : listed.getD i false = false := by
        have h0 := (mem_ready.1 hr).1
        rcases Nat.lt_or_ge i listed.size with h' | h'
        · simp [h'] at h0 ⊢; exact h0
        · simp [Array.getElem?_eq_none h']
      rcases H with H | H
      · exfalso
        cases hDj : D j with
        | true =>
          have := H.1 j hlt hDj
          rw [getD_set_ne true (Ne.symm hji), hjun] at this
          cases this
        | false =>
          have h1 := (hD j hlt hDj).ready hd hj
          rw [hiun] at h1; cases h1
      · have h1 := H.2 j (ready_mono hj hji) w hw
        have hnot : ∀ e ∈ oj.after, Region.binds .any e = true → e.on ≠ i := fun e he hb heq => by
          have h1 := hall e he hb
          rw [heq, hiun] at h1; cases h1
        have hap := hfree j oj hoj hji hjun hnot
        obtain ⟨_, h2, h3⟩ := Oper.apart_spec hap
        have hfree' : ∀ k ok, ops[k]? = some ok → k ≠ i → (listed.setIfInBounds j true).getD k true = false →
            (∀ e ∈ ok.after, Region.binds .any e = true → e.on ≠ i) → oi.apart ops ok = true := fun k ok hk hki hun hno => by
          refine hfree k ok hk hki ?_ hno
          by_cases hjk : j = k
          · subst hjk; exact hjun
          · rw [getD_set_ne true hjk] at hun; exact hun
        refine (fOp_put hoj hap (fun cs b => hsel j oj cs b hoj) h1).mono fun d u w' ⟨hdst, he, hK⟩ => ⟨he, ?_⟩
        subst hdst
        refine ih (listed.setIfInBounds j true) _ (Ext w') (upC_ext w') (fun w'' h => hCy w' w'' (hSt w w' (hCC w hw) he) h) (hd.set hj) hfree' (ready_mono hr (Ne.symm hji))
          (hy.of_same (fun _ h => h) (execOp_put oi (fun cs b => hsel i oi cs b hi) a oj.dst u h3) (wanted_put oi a oj.dst u h3)) ?_
        rw [Array.setIfInBounds_comm _ _ hji]
        rw [Act.put_comm a v u h2] at hK
        exact hK

def Wanted (ops : Array Oper) (N : Nat) (e : Env) (o : Oper) (b : Bool) : Prop := ∀ a, Has N a e → Region.wanted o (yielded ops a.tmps) = b

def Quiet (P : Program) (ops : Array Oper) (N : Nat) (e : Env) (C : World → Prop) (o : Oper) (v : Value) : Prop :=
 (Wanted ops N e o true ∧ ∀ a w, Has N a e → C w → fine P o a w (fun u w' => u = v ∧ Ext w w')) ∨ (Wanted ops N e o false ∧ v = undef)

def Str (P : Program) (ops : Array Oper) (N : Nat) (St : World → World → Prop) (F : Env → (World → Prop) → Prop) : List (Nat × Bool) → Env → (World → Prop) → Prop
  | [], e, C => F e C
  | (i, true) :: r, e, C => ∃ o v, ops[i]? = some o ∧ dstOk N o = true ∧ (∃ Cy, (∀ w, C w → Cy w) ∧ upC Cy ∧ (∀ w w', Cy w → St w w' → Cy w') ∧ (∀ w w', Cy w → Ext w w' → St w w') ∧ Quiet P ops N e Cy o v) ∧ Str P ops N St F r (putE o.dst v e) C
  | (i, false) :: r, e, C => ∃ o, ops[i]? = some o ∧ dstOk N o = true ∧ Wanted ops N e o true ∧
      ∀ w, C w → ∀ a, Has N a e → fine P o a w (fun u w' => St w w' ∧ Str P ops N St F r (putE o.dst u e) (Ext w'))

theorem dstOk.spec {N : Nat} {o : Oper} (h : dstOk N o = true) : ∀ t, o.dst = some t → t < N := by
 intro t ht
 simp only [dstOk, ht] at h
 simpa [Nat.blt_eq] using h

def reachB (ops : Array Oper) : Nat → Nat → Nat → Bool
  | 0, _, _ => false
  | n + 1, j, i => match ops[j]? with
    | none => false
    | some o => o.after.any fun e => Region.binds .any e && (Nat.beq e.on i || reachB ops n e.on i)

theorem reachB.spec : ∀ {n j i : Nat}, reachB ops n j i = true → Reach ops j i
  | 0, _, _, h => by simp [reachB] at h
  | n + 1, j, i, h => by
    simp only [reachB] at h
    cases ho : ops[j]? with
    | none => simp [ho] at h
    | some o =>
      simp only [ho, Array.any_eq_true'] at h
      obtain ⟨e, he, hb⟩ := h
      simp only [Bool.and_eq_true, Bool.or_eq_true] at hb
      obtain ⟨h1, h2⟩ := hb
      rcases h2 with h2 | h2
      · exact .one ho he h1 (Nat.eq_of_beq_eq_true h2)
      · exact .more ho he h1 (reachB.spec h2)

def isOne : List Nat → Nat → Bool
  | [x], i => Nat.beq x i
  | _, _ => false
theorem isOne.spec {l : List Nat} {i : Nat} (h : isOne l i = true) : l = [i] := by
  match l, h with
  | [x], h => simp only [isOne] at h; rw [Nat.eq_of_beq_eq_true h]

def finB (ops : Array Oper) : List Nat → Array Bool → Bool
  | [], listed => (Region.ready .any ops listed).isEmpty
  | i :: r, listed => isOne (Region.ready .any ops listed) i && finB ops r (listed.setIfInBounds i true)

def okFrom (ops : Array Oper) (fin : List Nat) : List (Nat × Bool) → Array Bool → Bool
  | [], listed => finB ops fin listed
  | (i, true) :: r, listed => (Region.ready .any ops listed).contains i && Region.free .any ops listed i && okFrom ops fin r (listed.setIfInBounds i true)
  | (i, false) :: r, listed => isOne (Region.ready .any ops listed) i && okFrom ops fin r (listed.setIfInBounds i true)

def inD (steps : List (Nat × Bool)) (i : Nat) : Bool := steps.any fun s => Nat.beq s.1 i
def checkR (ops : Array Oper) (steps : List (Nat × Bool)) (fin : List Nat) : Bool :=
 Region.noSelect ops && okFrom ops fin steps (Array.replicate ops.size false) &&
  (List.range ops.size).all (fun j => inD steps j || steps.all fun s => !s.2 || reachB ops ops.size j s.1) && Nat.beq (steps.length + fin.length) ops.size

theorem wpAny_fin : ∀ {l : List Nat} {listed : Array Bool} {a : Act} {w : World}, finB ops l listed = true → wpOps P ops Q l a w → wpAny P .any ops Q l.length listed a w
  | [], listed, a, w, hb, h => by
    simp only [finB, List.isEmpty_iff] at hb
    exact ⟨hb, by simpa [wpOps] using h⟩
  | i :: r, listed, a, w, hb, h => by
    simp only [finB, Bool.and_eq_true] at hb
    have h1 := isOne.spec hb.1
    refine ⟨fun h0 => (by rw [h1] at h0; cases h0), fun j hj => ?_⟩
    rw [h1] at hj
    simp only [List.mem_singleton] at hj
    subst hj
    rw [wpOps_cons] at h
    exact wpOp_mono (fun a w hk => wpAny_fin hb.2 hk) h

theorem Str.sound {N : Nat} {fin : List Nat} {all : List (Nat × Bool)} (hsel : Region.noSelect ops = true)
    (hD : ∀ j, j < ops.size → inD all j = false → ∀ i, (i, true) ∈ all → Reach ops j i) :
    ∀ {steps : List (Nat × Bool)} {listed : Array Bool} {e : Env} {C : World → Prop}, (∀ s ∈ steps, s ∈ all) → listed.size = ops.size →
      (∀ s ∈ all, s ∈ steps ∨ listed.getD s.1 true = true) →
      okFrom ops fin steps listed = true → Down ops listed → upC C →
      Str P ops N St (fun e' C' => ∀ a w, Has N a e' → C' w → wpOps P ops Q fin a w) steps e C →
      ∀ a, Has N a e → RAny P ops Q (inD all) St (steps.length + fin.length) listed a C
  | [], listed, e, C, hs, hsz, hcov, hok, hd, hC, h, a, ha => by
    have hF : Fin (inD all) ops listed := by
      intro i hi hDi
      simp only [inD, List.any_eq_true] at hDi
      obtain ⟨s, hs1, hs2⟩ := hDi
      have := Nat.eq_of_beq_eq_true hs2; subst this
      rcases hcov s hs1 with h | h
      · cases h
      · exact h
    have hw : ∀ w, C w → wpAny P .any ops Q fin.length listed a w := fun w hw => wpAny_fin hok (h a w ha hw)
    simp only [List.length_nil, Nat.zero_add]
    generalize fin.length = m at *
    cases m with
    | zero => exact ⟨hF, hw⟩
    | succ m => exact .inl ⟨hF, hw⟩
  | (i, true) :: r, listed, e, C, hs, hsz, hcov, hok, hd, hC, h, a, ha => by
    obtain ⟨o, v, hi, hdst, ⟨Cy, hCC, hCy, hSt, hE, hq⟩, hr⟩ := h
    simp only [okFrom, Bool.and_eq_true] at hok
    obtain ⟨⟨h1, h2⟩, h3⟩ := hok
    have hrd : i ∈ Region.ready .any ops listed := by simpa using h1
    have hlt : i < ops.size := (Array.getElem?_eq_some_iff.1 hi).1
    have hy : QY P ops Cy o v a := by
      rcases hq with ⟨h4, h5⟩ | ⟨h4, h5⟩
      · exact .inl ⟨h4 a ha, fun w hw => h5 a w ha hw⟩
      · exact .inr ⟨h4 a ha, h5⟩
    rw [List.length_cons, Nat.add_right_comm]
    refine RAny.first hCy hSt hE hi (Region.noSelect_spec hsel) (fun j hj hDj => hD j hj hDj i (hs _ (List.mem_cons_self ..))) _ listed a C hC hCC hd (Region.free_spec hi h2) hrd hy ?_
    refine Str.sound hsel hD (fun s hs' => hs s (List.mem_cons_of_mem _ hs')) (by simp [hsz]) (fun s hs' => ?_) h3 (hd.set hrd) hC hr _ (ha.put v (dstOk.spec hdst))
    rcases hcov s hs' with h | h
    · cases h with
      | head => right; simp [hsz, hlt]
      | tail _ h => exact .inl h
    · right
      by_cases hne : i = s.1
      · rw [← hne]; simp [hsz, hlt]
      · rw [getD_set_ne true hne]; exact h
  | (i, false) :: r, listed, e, C, hs, hsz, hcov, hok, hd, hC, h, a, ha => by
    obtain ⟨o, hi, hdst, hwant, hr⟩ := h
    simp only [okFrom, Bool.and_eq_true] at hok
    obtain ⟨h1, h3⟩ := hok
    have h1 := isOne.spec h1
    have hlt : i < ops.size := (Array.getElem?_eq_some_iff.1 hi).1
    have hrd : i ∈ Region.ready .any ops listed := by rw [h1]; simp
    rw [List.length_cons, Nat.add_right_comm]
    refine .inr ⟨by rw [h1]; simp, fun j hj w hw => ?_⟩
    rw [h1] at hj
    simp only [List.mem_singleton] at hj
    subst hj
    unfold fOp
    simp only [hi, hwant a ha, if_true]
    refine (hr w hw a ha).mono fun u w' ⟨he, hk⟩ => ⟨he, ?_⟩
    refine Str.sound hsel hD (fun s hs' => hs s (List.mem_cons_of_mem _ hs')) (by simp [hsz]) (fun s hs' => ?_) h3 (hd.set hrd) (upC_ext w') hk _ (ha.put u (dstOk.spec hdst))
    rcases hcov s hs' with h | h
    · cases h with
      | head => right; simp [hsz, hlt]
      | tail _ h => exact .inl h
    · right
      by_cases hne : j = s.1
      · rw [← hne]; simp [hsz, hlt]
      · rw [getD_set_ne true hne]; exact h

def Tri (P : Program) (N : Nat) (Q : Exit → Act → World → Prop) (c : Code) (e : Env) (C : World → Prop) : Prop :=
 ∀ a w, Has N a e → C w → c.wp P Q a w

theorem Tri.draw {N : Nat} {id : Nat} {e : Env} {C : World → Prop} (hm : P.follows .mixedOrders = true) (hC : upC C) (steps : List (Nat × Bool)) (fin : List Nat)
  (hck : checkR ops steps fin = true)
  (h : Str P ops N St (fun e' C' => ∀ a w, Has N a e' → C' w → wpOps P ops Q fin a w) steps e C) : Tri P N Q (.region id ops true) e C := by
 intro a w ha hw
 simp only [checkR, Bool.and_eq_true] at hck
 obtain ⟨⟨⟨h1, h2⟩, h3⟩, h4⟩ := hck
 have h4 := Nat.eq_of_beq_eq_true h4
 refine wp_region_any hm ?_
 have hR := Str.sound (P := P) (Q := Q) (all := steps) h1 (fun j hj hDj i hi => ?_) (fun s hs => hs) (by simp) (fun s hs => .inl hs) h2 ?_ hC h a ha
 ·rw [h4] at hR
  exact hR.sound _ (hC w _ hw (Ext.drew w))
 ·simp only [List.all_eq_true, List.mem_range, Bool.or_eq_true] at h3
  rcases h3 j hj with h | h
  ·rw [hDj] at h; cases h
  ·have := h _ hi
   simp only [Bool.not_true, Bool.false_eq_true, false_or] at this
   exact reachB.spec this
 ·intro j o _ hl
  simp only [Array.getD_eq_getD_getElem?, Array.getElem?_replicate] at hl
  split at hl <;> simp at hl

end
end Go.Ga

namespace Go.Ga
open Go

structure Res where
 foot : Nat → Prop
 ok : World → Prop
 st : ∀ w w', ok w → (∀ b, foot b → w'.heap[b]? = w.heap[b]?) → ok w'

structure Kp (M : Nat → Prop) (w w' : World) : Prop where
 os : w'.os = w.os
 tape : w'.tape = w.tape
 output : w'.output = w.output
 size : w.heap.size ≤ w'.heap.size
 drawn : w.drawn ≤ w'.drawn
 block : ∀ k, k < w.heap.size → ¬ M k → w'.heap[k]? = w.heap[k]?

theorem Kp.refl (M : Nat → Prop) (w : World) : Kp M w w := ⟨rfl, rfl, rfl, Nat.le_refl _, Nat.le_refl _, fun _ _ _ => rfl⟩
theorem Ext.kp {w w' : World} (h : Ext w w') (M : Nat → Prop) : Kp M w w' := ⟨h.os, h.tape, h.output, h.size, h.drawn, fun k hk _ => h.block k hk⟩
theorem Kp.trans {M : Nat → Prop} {a b c : World} (h : Kp M a b) (k : Kp M b c) : Kp M a c :=
 ⟨k.os.trans h.os, k.tape.trans h.tape, k.output.trans h.output, Nat.le_trans h.size k.size, Nat.le_trans h.drawn k.drawn,
  fun i hi hm => (k.block i (Nat.lt_of_lt_of_le hi h.size) hm).trans (h.block i hi hm)⟩
theorem Kp.ext {w w' : World} (h : Kp (fun _ => False) w w') : Ext w w' := ⟨h.os, h.tape, h.output, h.size, h.drawn, fun k hk => h.block k hk (fun h => h)⟩
theorem Kp.mono {M M' : Nat → Prop} {w w' : World} (h : Kp M w w') (hm : ∀ b, b < w.heap.size → M b → M' b) : Kp M' w w' :=
 ⟨h.os, h.tape, h.output, h.size, h.drawn, fun k hk hn => h.block k hk (fun hh => hn (hm k hk hh))⟩

structure Sep (w0 : World) (M : Nat → Prop) (rs : List Res) (w : World) : Prop where
 kp : Kp M w0 w
 ok : ∀ r ∈ rs, r.ok w
 foot : ∀ r ∈ rs, ∀ b, r.foot b → (M b ∨ w0.heap.size ≤ b) ∧ b < w.heap.size
 apart : rs.Pairwise (fun r s => ∀ b, r.foot b → s.foot b → False)

section
variable {w0 : World} {M : Nat → Prop} {rs : List Res} {w w' : World}

theorem Sep.nil : Sep w0 M [] w0 := ⟨Kp.refl _ _, by simp, by simp, .nil⟩
theorem Sep.up : upC (Sep w0 M rs) := fun w w' h k =>
 ⟨h.kp.trans (k.kp M), fun r hr => r.st w w' (h.ok r hr) (fun b hb => k.block b (h.foot r hr b hb).2),
  fun r hr b hb => ⟨(h.foot r hr b hb).1, Nat.lt_of_lt_of_le (h.foot r hr b hb).2 k.size⟩, h.apart⟩
theorem Sep.get (h : Sep w0 M rs w) {i : Nat} {r : Res} (hi : rs[i]? = some r) : r.ok w := h.ok r (List.mem_of_getElem? hi)
theorem Sep.push {r : Res} (h : Sep w0 M rs w) (k : Ext w w') (hr : r.ok w') (hf : ∀ b, r.foot b → w.heap.size ≤ b ∧ b < w'.heap.size) : Sep w0 M (r :: rs) w' := by
  have h' := Sep.up _ _ h k
  refine ⟨h'.kp, ?_, ?_, ?_⟩
  · intro s hs; cases hs with
    | head => exact hr
    | tail _ hs => exact h'.ok s hs
  · intro s hs b hb; cases hs with
    | head => exact ⟨.inr (Nat.le_trans h.kp.size (hf b hb).1), (hf b hb).2⟩
    | tail _ hs => exact h'.foot s hs b hb
  · refine List.Pairwise.cons (fun s hs b hb hb' => ?_) h'.apart
    have h1 := (hf b hb).1
    have h2 := (h.foot s hs b hb').2
    omega
theorem Sep.set {i : Nat} {r r' : Res} (h : Sep w0 M rs w) (hi : rs[i]? = some r) (k : Kp r.foot w w') (hr : r'.ok w')
  (hf : ∀ b, r'.foot b → (r.foot b ∨ w.heap.size ≤ b) ∧ b < w'.heap.size) : Sep w0 M (rs.set i r') w' := by
 have hil : i < rs.length := (List.getElem?_eq_some_iff.1 hi).1
 have hri : rs[i] = r := (List.getElem?_eq_some_iff.1 hi).2
 have hap : ∀ j (hj : j < rs.length), j ≠ i → ∀ b, r.foot b → rs[j].foot b → False := by
  intro j hj hne b hb hb'
  have hp := List.pairwise_iff_getElem.1 h.apart
  rcases Nat.lt_or_gt_of_ne hne with hlt | hlt
  ·exact hp j i hj hil hlt b hb' (by rw [hri]; exact hb)
  ·exact hp i j hil hj hlt b (by rw [hri]; exact hb) hb'
 have hrm : r ∈ rs := List.mem_of_getElem? hi
 refine ⟨?_, ?_, ?_, ?_⟩
 ·refine ⟨k.os.trans h.kp.os, k.tape.trans h.kp.tape, k.output.trans h.kp.output, Nat.le_trans h.kp.size k.size, Nat.le_trans h.kp.drawn k.drawn, fun b hb hm => ?_⟩
  rw [k.block b (Nat.lt_of_lt_of_le hb h.kp.size) (fun hf' => ?_)]
  ·exact h.kp.block b hb hm
  ·rcases (h.foot r hrm b hf').1 with h1 | h1
   ·exact hm h1
   ·omega
 ·intro s hs
  obtain ⟨j, hj, hsj⟩ := List.getElem_of_mem hs
  rw [List.getElem_set] at hsj
  split at hsj
  ·rw [← hsj]; exact hr
  ·rename_i hne
   have hj' : j < rs.length := by simpa using hj
   rw [← hsj]
   exact rs[j].st w w' (h.ok _ (List.getElem_mem _)) (fun b hb => k.block b (h.foot _ (List.getElem_mem _) b hb).2 (fun hf' => hap j hj' (Ne.symm hne) b hf' hb))
 ·intro s hs b hb
  obtain ⟨j, hj, hsj⟩ := List.getElem_of_mem hs
  rw [List.getElem_set] at hsj
  split at hsj
  ·rw [← hsj] at hb
   refine ⟨?_, (hf b hb).2⟩
   rcases (hf b hb).1 with h1 | h1
   ·exact (h.foot r hrm b h1).1
   ·exact .inr (Nat.le_trans h.kp.size h1)
  ·rw [← hsj] at hb
   have := h.foot _ (List.getElem_mem _) b hb
   exact ⟨this.1, Nat.lt_of_lt_of_le this.2 k.size⟩
 ·rw [List.pairwise_iff_getElem]
  intro j l hj hl hlt b hb hb'
  have hj' : j < rs.length := by simpa using hj
  have hl' : l < rs.length := by simpa using hl
  rw [List.getElem_set] at hb hb'
  have hsz : ∀ m (hm : m < rs.length), rs[m].foot b → b < w.heap.size := fun m hm hb => (h.foot _ (List.getElem_mem _) b hb).2
  split at hb
  ·rename_i hij; subst hij
   split at hb'
   ·omega
   ·rcases (hf b hb).1 with h1 | h1
    ·exact hap l hl' (by omega) b h1 hb'
    ·have := hsz l hl' hb'; omega
  ·split at hb'
   ·rename_i hil'; subst hil'
    rcases (hf b hb').1 with h1 | h1
    ·exact hap j hj' (by omega) b h1 hb
    ·have := hsz j hj' hb; omega
   ·exact List.pairwise_iff_getElem.1 h.apart j l hj' hl' hlt b hb hb'

def pick (rs : List Res) : List Nat → Option (List Res)
  | [] => some []
  | i :: is => match rs[i]?, pick rs is with | some r, some l => some (r :: l) | _, _ => none
theorem pick_mem : ∀ {is : List Nat} {l : List Res}, pick rs is = some l → ∀ r ∈ l, ∃ i ∈ is, rs[i]? = some r
  | [], l, h, r, hr => by simp only [pick] at h; cases h; cases hr
  | i :: is, l, h, r, hr => by
    simp only [pick] at h
    cases h1 : rs[i]? with
    | none => simp [h1] at h
    | some r' =>
      cases h2 : pick rs is with
      | none => simp [h1, h2] at h
      | some l' =>
        simp only [h1, h2] at h; cases h
        cases hr with
        | head => exact ⟨i, List.mem_cons_self .., h1⟩
        | tail _ hr => obtain ⟨j, hj, hj'⟩ := pick_mem h2 r hr; exact ⟨j, List.mem_cons_of_mem _ hj, hj'⟩
def noDup : List Nat → Bool
  | [] => true
  | i :: is => is.all (fun j => !Nat.beq i j) && noDup is
theorem pick_apart (hp : rs.Pairwise (fun r s => ∀ b, r.foot b → s.foot b → False)) : ∀ {is : List Nat} {l : List Res}, pick rs is = some l → noDup is = true → l.Pairwise (fun r s => ∀ b, r.foot b → s.foot b → False)
  | [], l, h, _ => by simp only [pick] at h; cases h; exact .nil
  | i :: is, l, h, hn => by
    simp only [pick] at h
    simp only [noDup, Bool.and_eq_true, List.all_eq_true, Bool.not_eq_true'] at hn
    cases h1 : rs[i]? with
    | none => simp [h1] at h
    | some r' =>
      cases h2 : pick rs is with
      | none => simp [h1, h2] at h
      | some l' =>
        simp only [h1, h2] at h; cases h
        refine .cons (fun s hs b hb hb' => ?_) (pick_apart hp h2 hn.2)
        obtain ⟨j, hj, hj'⟩ := pick_mem h2 s hs
        have hne : i ≠ j := fun he => by have := hn.1 j hj; rw [he, Nat.beq_refl] at this; cases this
        obtain ⟨hi1, hi2⟩ := List.getElem?_eq_some_iff.1 h1
        obtain ⟨hj1, hj2⟩ := List.getElem?_eq_some_iff.1 hj'
        have hpw := List.pairwise_iff_getElem.1 hp
        subst hi2; subst hj2
        rcases Nat.lt_or_gt_of_ne hne with hlt | hlt
        · exact hpw i j hi1 hj1 hlt b hb hb'
        · exact hpw j i hj1 hi1 hlt b hb' hb
theorem Sep.pick {is : List Nat} {l : List Res} (hl : Ga.pick rs is = some l) (hn : noDup is = true) (h : Sep w0 M rs w) : Sep w0 M l w := by
 refine ⟨h.kp, fun r hr => ?_, fun r hr => ?_, pick_apart h.apart hl hn⟩
 ·obtain ⟨i, _, hi⟩ := pick_mem hl r hr; exact h.ok r (List.mem_of_getElem? hi)
 ·obtain ⟨i, _, hi⟩ := pick_mem hl r hr; exact h.foot r (List.mem_of_getElem? hi)
end

def R.box (b : Nat) (T : TypeId) (cs : List Value) : Res where
 foot := fun k => k = b
 ok := fun w => w.heap[b]? = some (.cells cs.toArray T (0, 0))
 st := fun w w' h k => by rw [k b rfl]; exact h

theorem cell_of_block {w : World} {b off : Nat} {T : TypeId} {C : Array Value} {fr : Nat × Nat} {v : Value} (h : w.heap[b]? = some (.cells C T fr)) (hv : C[off]? = some v) :
  w.cell? ⟨b, off, none⟩ = some v := by
 simp [World.cell?, h, hv]

theorem box_cell {w0 : World} {M : Nat → Prop} {rs : List Res} {i b off : Nat} {T : TypeId} {cs : List Value} {v : Value} (hi : rs[i]? = some (R.box b T cs)) (hv : cs[off]? = some v) :
  ∀ w, Sep w0 M rs w → w.cell? ⟨b, off, none⟩ = some v := fun w h => cell_of_block (h.get hi) (by simpa using hv)

def TInfo (P : Program) (t : TypeId) (n by' : Nat) (z : Value) : Prop := ∃ i, P.info? t = some i ∧ i.size = n ∧ i.bytes = by' ∧ i.zero = some z

section
variable {P : Program} {N : Nat} {e : Env} {C : World → Prop}

def Runs (P : Program) (N : Nat) (e : Env) (C : World → Prop) (o : Oper) (v : Value) : Prop :=
 ∀ a w, Has N a e → C w → (execOp a.eval o).run P w = .ok (.value v) w

theorem Runs.fine {o : Oper} {v : Value} {a : Act} {w : World} (h : Runs P N e C o v) (ha : Has N a e) (hw : C w) : fine P o a w (fun u w' => u = v ∧ Ext w w') := by
 unfold Ga.fine; rw [h a w ha hw]; exact ⟨rfl, Ext.refl w⟩

section
variable {d : Option Tmp} {ty : TypeId} {pos : String} {af : Array Edge} {g : Option (Nat × Bool)} {x y c : Operand} {v u : Value}

theorem r_move (hx : opv e x = some v) : Runs P N e C ⟨d, .move x, ty, pos, af, g⟩ v := fun a w ha _ => by
 simp [execOp, ha.eval hx]
theorem r_assign (hx : opv e x = some v) : Runs P N e C ⟨d, .assign x, ty, pos, af, g⟩ v := fun a w ha _ => by
 simp [execOp, ha.eval hx]
theorem r_pick {b : Bool} (hc : opv e c = some (.bool b)) (hx : opv e x = some v) (hb : b = true) : Runs P N e C ⟨d, .pick c x y, ty, pos, af, g⟩ v := fun a w ha _ => by
 subst hb; simp [execOp, ha.eval hc, ha.eval hx, asBool]
theorem r_pickf {b : Bool} (hc : opv e c = some (.bool b)) (hy : opv e y = some v) (hb : b = false) : Runs P N e C ⟨d, .pick c x y, ty, pos, af, g⟩ v := fun a w ha _ => by
 subst hb; simp [execOp, ha.eval hc, ha.eval hy, asBool]
theorem r_not {b : Bool} {t : TypeId} (hx : opv e x = some (.bool b)) : Runs P N e C ⟨d, .unOp .not t x, ty, pos, af, g⟩ (.bool (!b)) := fun a w ha _ => by
 simp [execOp, ha.eval hx, Op.unary]
def band (x y : Int) : Int := IntKind.i64.wrap (BitVec.ofInt 64 x &&& BitVec.ofInt 64 y).toNat
def bor (x y : Int) : Int := IntKind.i64.wrap (BitVec.ofInt 64 x ||| BitVec.ofInt 64 y).toNat
def w64 (x : Int) : Int := IntKind.i64.wrap x
def rem (x y : Int) : Int := x.tmod y

variable {m n : Int} {t t' : TypeId}
theorem r_add (hx : opv e x = some (.int .i64 m)) (hy : opv e y = some (.int .i64 n)) : Runs P N e C ⟨d, .binOp .add t x y t', ty, pos, af, g⟩ (.int .i64 (w64 (m + n))) := fun a w ha _ => by
 simp [execOp, ha.eval hx, ha.eval hy, eqGuard, binOp, Op.intArith, w64]
theorem r_sub (hx : opv e x = some (.int .i64 m)) (hy : opv e y = some (.int .i64 n)) : Runs P N e C ⟨d, .binOp .sub t x y t', ty, pos, af, g⟩ (.int .i64 (w64 (m - n))) := fun a w ha _ => by
 simp [execOp, ha.eval hx, ha.eval hy, eqGuard, binOp, Op.intArith, w64]
theorem r_eql {k : IntKind} (hx : opv e x = some (.int k m)) (hy : opv e y = some (.int k n)) : Runs P N e C ⟨d, .binOp .eql t x y t', ty, pos, af, g⟩ (.bool (m == n)) := fun a w ha _ => by
 simp [execOp, ha.eval hx, ha.eval hy, eqGuard, binOp, Op.intCmp]
theorem r_neq {k : IntKind} (hx : opv e x = some (.int k m)) (hy : opv e y = some (.int k n)) : Runs P N e C ⟨d, .binOp .neq t x y t', ty, pos, af, g⟩ (.bool (m != n)) := fun a w ha _ => by
 simp [execOp, ha.eval hx, ha.eval hy, eqGuard, binOp, Op.intCmp]
theorem r_lss {k : IntKind} (hx : opv e x = some (.int k m)) (hy : opv e y = some (.int k n)) : Runs P N e C ⟨d, .binOp .lss t x y t', ty, pos, af, g⟩ (.bool (decide (m < n))) := fun a w ha _ => by
 simp [execOp, ha.eval hx, ha.eval hy, eqGuard, binOp, Op.intCmp]
theorem r_leq {k : IntKind} (hx : opv e x = some (.int k m)) (hy : opv e y = some (.int k n)) : Runs P N e C ⟨d, .binOp .leq t x y t', ty, pos, af, g⟩ (.bool (decide (m ≤ n))) := fun a w ha _ => by
 simp [execOp, ha.eval hx, ha.eval hy, eqGuard, binOp, Op.intCmp]
theorem r_gtr {k : IntKind} (hx : opv e x = some (.int k m)) (hy : opv e y = some (.int k n)) : Runs P N e C ⟨d, .binOp .gtr t x y t', ty, pos, af, g⟩ (.bool (decide (m > n))) := fun a w ha _ => by
 simp [execOp, ha.eval hx, ha.eval hy, eqGuard, binOp, Op.intCmp]
theorem r_geq {k : IntKind} (hx : opv e x = some (.int k m)) (hy : opv e y = some (.int k n)) : Runs P N e C ⟨d, .binOp .geq t x y t', ty, pos, af, g⟩ (.bool (decide (m ≥ n))) := fun a w ha _ => by
 simp [execOp, ha.eval hx, ha.eval hy, eqGuard, binOp, Op.intCmp]
theorem run_equalB {p q : Bool} {w : World} (ht : P.underlying t = some .bool) : (Op.equal t (.bool p) (.bool q)).run P w = .ok (p == q) w := by
 have : ∀ k, (Op.equalIn (k + 1) t (.bool p) (.bool q)).run P w = .ok (p == q) w := fun k => by simp [Op.equalIn, run_underlying ht]
 exact this 9999
theorem r_neqB {p q : Bool} (ht : P.underlying t = some .bool) (hx : opv e x = some (.bool p)) (hy : opv e y = some (.bool q)) : Runs P N e C ⟨d, .binOp .neq t x y t', ty, pos, af, g⟩ (.bool (p != q)) := fun a w ha _ => by
 simp [execOp, ha.eval hx, ha.eval hy, eqGuard, binOp, run_equalB ht]; cases p <;> cases q <;> rfl
end
end
end Go.Ga

namespace Go.Ga
open Go

def CellsAt (w : World) (p : Addr) (cs : List Value) : Prop := ∀ j v, cs[j]? = some v → w.cell? (p.add j) = some v

class Rp (α : Type) where
 n : Nat
 rep : World → (Nat → Prop) → List Value → α → Prop
 own : World → (Nat → Prop) → List Value → α → Prop
 len : ∀ {w S cs x}, rep w S cs x → cs.length = n
 st : ∀ {w w' S cs x}, rep w S cs x → (∀ b, S b → w'.heap[b]? = w.heap[b]?) → rep w' S cs x
 ost : ∀ {w w' S cs x}, own w S cs x → (∀ b, S b → w'.heap[b]? = w.heap[b]?) → own w' S cs x
 mono : ∀ {w S S' cs x}, (∀ b, S b → S' b) → rep w S cs x → rep w S' cs x
 omono : ∀ {w S S' cs x}, (∀ b, S b → S' b) → own w S cs x → own w S' cs x
 orep : ∀ {w S cs x}, own w S cs x → rep w S cs x
 loc : ∀ {w S cs x}, rep w S cs x → rep w (fun b => S b ∧ b < w.heap.size) cs x

open Go.Ga.Rp (rep own)

abbrev encRp {α : Type} (k : Nat) (enc : α → List Value) (h : ∀ x, (enc x).length = k) : Rp α where
 n := k
 rep := fun _ _ cs x => cs = enc x
 own := fun _ _ cs x => cs = enc x
 len := fun e => by rw [e]; exact h _
 st := fun h _ => h
 ost := fun h _ => h
 mono := fun _ h => h
 omono := fun _ h => h
 orep := fun h => h
 loc := fun h => h
instance : Rp Int := encRp 1 (fun x => [.int .i64 x]) (fun _ => rfl)
instance : Rp Bool := encRp 1 (fun x => [.bool x]) (fun _ => rfl)
instance : Rp ByteArray := encRp 1 (fun x => [.string x]) (fun _ => rfl)

def SlLen (v : Value) (n : Nat) : Prop := ∃ a cap, v = .slice a n cap ∧ (a = none → n = 0)

section
variable {α : Type} [Rp α]
def part (C : Array Value) (off n : Nat) : List Value := (C.toList.drop off).take n

def SlRep (w : World) (S : Nat → Prop) (v : Value) (l : List α) : Prop :=
 (v = .slice none 0 0 ∧ l = []) ∨ (∃ a, v = .slice (some a) 0 0 ∧ l = []) ∨
 ∃ b off cap C T fr, S b ∧ v = .slice (some ⟨b, off, none⟩) l.length cap ∧ l.length ≤ cap ∧ w.heap[b]? = some (.cells C T fr) ∧ off + cap * Rp.n α ≤ C.size ∧
  ∀ i x, l[i]? = some x → rep w S (part C (off + i * Rp.n α) (Rp.n α)) x

def SlOwn (w : World) (S : Nat → Prop) (v : Value) (l : List α) : Prop :=
 (v = .slice none 0 0 ∧ l = []) ∨
 ∃ b off cap C T, S b ∧ v = .slice (some ⟨b, off, none⟩) l.length cap ∧ l.length ≤ cap ∧ w.heap[b]? = some (.cells C T (0, 0)) ∧ off + cap * Rp.n α ≤ C.size ∧
  ∃ f : Nat → Nat → Prop, (∀ i j c, i ≠ j → f i c → f j c → False) ∧ (∀ i c, f i c → S c ∧ c ≠ b) ∧
   ∀ i x, l[i]? = some x → own w (f i) (part C (off + i * Rp.n α) (Rp.n α)) x

theorem SlRep.slLen {w : World} {S : Nat → Prop} {v : Value} {l : List α} (h : SlRep w S v l) : SlLen v l.length := by
 rcases h with ⟨rfl, rfl⟩ | ⟨a, rfl, rfl⟩ | ⟨b, off, cap, C, T, fr, _, rfl, _⟩
 ·exact ⟨none, 0, rfl, fun _ => rfl⟩
 ·exact ⟨_, 0, rfl, fun _ => rfl⟩
 ·exact ⟨_, cap, rfl, fun h => by cases h⟩

theorem SlRep.st {w w' : World} {S : Nat → Prop} {v : Value} {l : List α} (h : SlRep w S v l) (k : ∀ b, S b → w'.heap[b]? = w.heap[b]?) : SlRep w' S v l := by
 rcases h with h | h | ⟨b, off, cap, C, T, fr, h1, h2, h3, h4, h5, h6⟩
 ·exact .inl h
 ·exact .inr (.inl h)
 ·exact .inr (.inr ⟨b, off, cap, C, T, fr, h1, h2, h3, by rw [k b h1]; exact h4, h5, fun i x hx => Rp.st (h6 i x hx) k⟩)
theorem SlRep.mono {w : World} {S S' : Nat → Prop} {v : Value} {l : List α} (k : ∀ b, S b → S' b) (h : SlRep w S v l) : SlRep w S' v l := by
 rcases h with h | h | ⟨b, off, cap, C, T, fr, h1, h2, h3, h4, h5, h6⟩
 ·exact .inl h
 ·exact .inr (.inl h)
 ·exact .inr (.inr ⟨b, off, cap, C, T, fr, k b h1, h2, h3, h4, h5, fun i x hx => Rp.mono k (h6 i x hx)⟩)
theorem SlOwn.st {w w' : World} {S : Nat → Prop} {v : Value} {l : List α} (h : SlOwn w S v l) (k : ∀ b, S b → w'.heap[b]? = w.heap[b]?) : SlOwn w' S v l := by
 rcases h with h | ⟨b, off, cap, C, T, h1, h2, h3, h4, h5, f, hf, hg, h6⟩
 ·exact .inl h
 ·exact .inr ⟨b, off, cap, C, T, h1, h2, h3, by rw [k b h1]; exact h4, h5, f, hf, hg, fun i x hx => Rp.ost (h6 i x hx) (fun c hc => k c (hg i c hc).1)⟩
theorem SlOwn.mono {w : World} {S S' : Nat → Prop} {v : Value} {l : List α} (k : ∀ b, S b → S' b) (h : SlOwn w S v l) : SlOwn w S' v l := by
 rcases h with h | ⟨b, off, cap, C, T, h1, h2, h3, h4, h5, f, hf, hg, h6⟩
 ·exact .inl h
 ·exact .inr ⟨b, off, cap, C, T, k b h1, h2, h3, h4, h5, f, hf, fun i c hc => ⟨k c (hg i c hc).1, (hg i c hc).2⟩, h6⟩
theorem SlOwn.rep {w : World} {S : Nat → Prop} {v : Value} {l : List α} (h : SlOwn w S v l) : SlRep w S v l := by
 rcases h with h | ⟨b, off, cap, C, T, h1, h2, h3, h4, h5, f, hf, hg, h6⟩
 ·exact .inl h
 ·exact .inr (.inr ⟨b, off, cap, C, T, _, h1, h2, h3, h4, h5, fun i x hx => Rp.mono (fun c hc => (hg i c hc).1) (Rp.orep (h6 i x hx))⟩)

theorem block_lt {w : World} {b : Nat} {o : Obj} (h : w.heap[b]? = some o) : b < w.heap.size := (Array.getElem?_eq_some_iff.1 h).1
theorem SlRep.loc {w : World} {S : Nat → Prop} {v : Value} {l : List α} (h : SlRep w S v l) : SlRep w (fun b => S b ∧ b < w.heap.size) v l := by
 rcases h with h | h | ⟨b, off, cap, C, T, fr, h1, h2, h3, h4, h5, h6⟩
 ·exact .inl h
 ·exact .inr (.inl h)
 ·exact .inr (.inr ⟨b, off, cap, C, T, fr, ⟨h1, block_lt h4⟩, h2, h3, h4, h5, fun i x hx => Rp.loc (h6 i x hx)⟩)

instance : Rp (List α) where
 n := 1
 rep := fun w S cs l => ∃ v, cs = [v] ∧ SlRep w S v l
 own := fun w S cs l => ∃ v, cs = [v] ∧ SlOwn w S v l
 len := fun ⟨v, h, _⟩ => by rw [h]; rfl
 st := fun ⟨v, h, hr⟩ k => ⟨v, h, hr.st k⟩
 ost := fun ⟨v, h, hr⟩ k => ⟨v, h, hr.st k⟩
 mono := fun k ⟨v, h, hr⟩ => ⟨v, h, hr.mono k⟩
 omono := fun k ⟨v, h, hr⟩ => ⟨v, h, hr.mono k⟩
 orep := fun ⟨v, h, hr⟩ => ⟨v, h, hr.rep⟩
 loc := fun ⟨v, h, hr⟩ => ⟨v, h, hr.loc⟩
end

instance {α β : Type} [Rp α] [Rp β] : Rp (α × β) where
 n := Rp.n α + Rp.n β
 rep := fun w S cs x => ∃ c1 c2, cs = c1 ++ c2 ∧ rep w S c1 x.1 ∧ rep w S c2 x.2
 own := fun w S cs x => ∃ c1 c2, cs = c1 ++ c2 ∧ ∃ S1 S2 : Nat → Prop, (∀ c, S1 c → S2 c → False) ∧ (∀ c, S1 c → S c) ∧ (∀ c, S2 c → S c) ∧ own w S1 c1 x.1 ∧ own w S2 c2 x.2
 len := fun ⟨c1, c2, h, h1, h2⟩ => by rw [h, List.length_append, Rp.len h1, Rp.len h2]
 st := fun ⟨c1, c2, h, h1, h2⟩ k => ⟨c1, c2, h, Rp.st h1 k, Rp.st h2 k⟩
 ost := fun ⟨c1, c2, h, S1, S2, hd, hs1, hs2, h1, h2⟩ k => ⟨c1, c2, h, S1, S2, hd, hs1, hs2, Rp.ost h1 (fun b hb => k b (hs1 b hb)), Rp.ost h2 (fun b hb => k b (hs2 b hb))⟩
 mono := fun k ⟨c1, c2, h, h1, h2⟩ => ⟨c1, c2, h, Rp.mono k h1, Rp.mono k h2⟩
 omono := fun k ⟨c1, c2, h, S1, S2, hd, hs1, hs2, h1, h2⟩ => ⟨c1, c2, h, S1, S2, hd, fun c hc => k c (hs1 c hc), fun c hc => k c (hs2 c hc), h1, h2⟩
 orep := fun ⟨c1, c2, h, S1, S2, hd, hs1, hs2, h1, h2⟩ => ⟨c1, c2, h, Rp.mono hs1 (Rp.orep h1), Rp.mono hs2 (Rp.orep h2)⟩
 loc := fun ⟨c1, c2, h, h1, h2⟩ => ⟨c1, c2, h, Rp.loc h1, Rp.loc h2⟩

class Flat (α : Type) [Rp α] where
 enc : α → List Value
 rep_iff : ∀ {w S cs x}, Rp.rep w S cs x ↔ cs = enc x
 own_iff : ∀ {w S cs x}, Rp.own w S cs x ↔ cs = enc x
open Go.Ga.Flat (enc)
instance : Flat Int := ⟨fun x => [.int .i64 x], Iff.rfl, Iff.rfl⟩
instance : Flat Bool := ⟨fun x => [.bool x], Iff.rfl, Iff.rfl⟩
instance : Flat ByteArray := ⟨fun x => [.string x], Iff.rfl, Iff.rfl⟩
instance {α β : Type} [Rp α] [Rp β] [Flat α] [Flat β] : Flat (α × β) where
 enc := fun x => enc x.1 ++ enc x.2
 rep_iff := by
  intro w S cs x
  constructor
  ·rintro ⟨c1, c2, h, h1, h2⟩; rw [h, Flat.rep_iff.1 h1, Flat.rep_iff.1 h2]
  ·intro h; exact ⟨_, _, h, Flat.rep_iff.2 rfl, Flat.rep_iff.2 rfl⟩
 own_iff := by
  intro w S cs x
  constructor
  ·rintro ⟨c1, c2, h, S1, S2, _, _, _, h1, h2⟩; rw [h, Flat.own_iff.1 h1, Flat.own_iff.1 h2]
  ·intro h; exact ⟨_, _, h, fun _ => False, fun _ => False, fun _ h _ => h, fun _ h => h.elim, fun _ h => h.elim, Flat.own_iff.2 rfl, Flat.own_iff.2 rfl⟩

theorem Flat.rp {α : Type} [Rp α] [Flat α] {w : World} {S : Nat → Prop} {cs : List Value} {x : α} (h : rep w S cs x) : cs = enc x := Flat.rep_iff.1 h
theorem enc_len {α : Type} [Rp α] [Flat α] (x : α) : (enc x).length = Rp.n α := Rp.len (w := default) (S := fun _ => False) (Flat.rep_iff.2 rfl)

def slAddr (v : Value) (n : Nat) (i : Int) : Addr := match v with | .slice (some a) _ _ => a.add (i.toNat * n) | _ => default

theorem add_off (b off n : Nat) : (⟨b, off, none⟩ : Addr).add n = ⟨b, off + n, none⟩ := by
 unfold Addr.add; split
 ·simp_all
 ·rfl

theorem SlRep.elem {α : Type} [Rp α] {w : World} {S : Nat → Prop} {v : Value} {l : List α} {i : Int} {x : α} (h : SlRep w S v l) (hx : l[i.toNat]? = some x) :
  ∃ cs, CellsAt w (slAddr v (Rp.n α) i) cs ∧ rep w S cs x := by
 rcases h with ⟨rfl, rfl⟩ | ⟨a, rfl, rfl⟩ | ⟨b, off, cap, C, T, fr, h1, rfl, h3, h4, h5, h6⟩
 ·simp at hx
 ·simp at hx
 ·refine ⟨_, ?_, h6 _ x hx⟩
  intro j u hj
  have hr := Rp.len (h6 _ x hx)
  simp only [slAddr, add_off]
  refine cell_of_block h4 ?_
  have hjl : j < Rp.n α := by
   have := (List.getElem?_eq_some_iff.1 hj).1; omega
  simp only [part, List.getElem?_take, hjl, if_true, List.getElem?_drop] at hj
  rw [← Array.getElem?_toList]; exact hj

end Go.Ga

namespace Go.Ga
open Go
open Go.Ga.Rp (rep own)
open Go.Ga.Flat (enc)

def aggB : TypeDesc → Bool | .struct _ | .array _ _ => true | _ => false
def TAgg (P : Program) (t : TypeId) (b : Bool) : Prop := ∃ d, P.underlying t = some d ∧ aggB d = b
def TField (P : Program) (t : TypeId) (i off : Nat) : Prop :=
 ∃ fs f k inf, P.underlying t = some (.struct fs) ∧ fs[i]? = some f ∧ f.offset = off ∧ P.info? f.type = some inf ∧ inf.size = k + 1

section
variable {P : Program} {w : World}
theorem run_sizeOf {t : TypeId} {n by' : Nat} {z : Value} (h : TInfo P t n by' z) : (sizeOf t).run P w = .ok n w := by
 obtain ⟨i, h1, h2, h3, h4⟩ := h; simp [sizeOf, typeInfo, h1, h2]
theorem run_zeroValue {t : TypeId} {n by' : Nat} {z : Value} (h : TInfo P t n by' z) : (zeroValue t).run P w = .ok z w := by
 obtain ⟨i, h1, h2, h3, h4⟩ := h; simp [zeroValue, typeInfo, h1, h4]
theorem run_isAgg {t : TypeId} {b : Bool} (h : TAgg P t b) : (isAgg t).run P w = .ok b w := by
 obtain ⟨d, h1, h2⟩ := h
 cases d <;> simp [aggB] at h2 <;> simp [isAgg, run_underlying h1, ← h2]
theorem run_loadCellsFrom {p : Addr} : ∀ (cs : List Value) (i : Nat) (acc : Array Value), (∀ j v, cs[j]? = some v → w.cell? (p.add (i + j)) = some v) →
    (loadCellsFrom p i cs.length acc).run P w = .ok (acc ++ cs.toArray) w
  | [], i, acc, h => by simp [loadCellsFrom]
  | v :: cs, i, acc, h => by
    have h0 := h 0 v rfl
    simp only [Nat.add_zero] at h0
    have ih := run_loadCellsFrom cs (i + 1) (acc.push v) (fun j u hj => by have := h (j + 1) u hj; rwa [Nat.add_assoc, Nat.add_comm 1 j])
    simp [loadCellsFrom, load, h0, Sem.run, ih]
theorem run_loadCells {p : Addr} {cs : List Value} (h : CellsAt w p cs) : (loadCells p cs.length).run P w = .ok cs.toArray w := by
 have := run_loadCellsFrom (P := P) (w := w) (p := p) cs 0 #[] (fun j v hj => by simpa using h j v hj)
 simpa [loadCells] using this
end

section
variable {P : Program} {N : Nat} {e : Env} {C : World → Prop}
variable {d : Option Tmp} {ty : TypeId} {pos : String} {af : Array Edge} {g : Option (Nat × Bool)} {x y c : Operand} {v u : Value} {t el : TypeId}

theorem r_load {p : Addr} (ht : TAgg P t false) (hx : opv e x = some (.pointer (some p))) (hc : ∀ w, C w → w.cell? p = some v) : Runs P N e C ⟨d, .load t x, ty, pos, af, g⟩ v := fun a w ha hw => by
 simp [execOp, ha.eval hx, Instr.loadAt, Instr.sureAddr, loadVar, run_isAgg ht, load, Sem.run, hc w hw]
theorem r_loadA {p : Addr} {n by' : Nat} {z : Value} {cs : List Value} (ht : TAgg P t true) (hi : TInfo P t n by' z) (hx : opv e x = some (.pointer (some p))) (hn : cs.length = n)
  (hc : ∀ w, C w → CellsAt w p cs) : Runs P N e C ⟨d, .load t x, ty, pos, af, g⟩ (.agg cs.toArray) := fun a w ha hw => by
 subst hn
 simp [execOp, ha.eval hx, Instr.loadAt, Instr.sureAddr, loadVar, run_isAgg ht, run_sizeOf hi, run_loadCells (hc w hw)]
theorem r_fieldAddr {p : Addr} {i off : Nat} (ht : TField P t i off) (hx : opv e x = some (.pointer (some p))) : Runs P N e C ⟨d, .fieldAddr t x i, ty, pos, af, g⟩ (.pointer (some (p.add off))) := fun a w ha hw => by
 obtain ⟨fs, f, k, inf, h1, h2, h3, h4, h5⟩ := ht
 have hs : ∀ w, (sizeOf f.type).run P w = .ok (k + 1) w := fun w => by simp [sizeOf, typeInfo, h4, h5]
 simp [execOp, ha.eval hx, Instr.fieldAt, run_underlying h1, h2, Instr.sureAddr, fieldPlace, hs, h3]
theorem r_len {n : Nat} (hu : P.underlying t = some (.slice el)) (hx : opv e x = some v) (hl : SlLen v n) :
  Runs P N e C ⟨d, .call ⟨.builtin .len, #[x], #[t]⟩, ty, pos, af, g⟩ (.int .i64 n) := fun a w ha hw => by
 obtain ⟨b, cap, rfl, _⟩ := hl
 simp [execOp, resolve, invoke, builtin, Builtin.len_, ha.eval hx, run_underlying hu, goInt]
theorem r_indexAddrS {n by' m : Nat} {z : Value} {i : Int} {k : IntKind} (hu : P.underlying t = some (.slice el)) (hi : TInfo P el n by' z) (hx : opv e x = some v) (hl : SlLen v m) (hy : opv e y = some (.int k i))
    (h0 : 0 ≤ i) (h1 : i < m) : Runs P N e C ⟨d, .indexAddr t x y, ty, pos, af, g⟩ (.pointer (some (slAddr v n i))) := fun a w ha hw => by
  obtain ⟨b, cap, rfl, hb⟩ := hl
  cases b with
  | none => have := hb rfl; omega
  | some b =>
    simp [execOp, ha.eval hx, ha.eval hy, Instr.indexAt, asIntOf, run_underlying hu, h0, h1, run_sizeOf hi, slAddr]
theorem r_indexAddrA {n by' m : Nat} {z : Value} {i : Int} {k : IntKind} {p : Addr} (hu : P.underlying t = some (.array m el)) (hi : TInfo P el n by' z) (hx : opv e x = some (.pointer (some p))) (hy : opv e y = some (.int k i))
  (h0 : 0 ≤ i) (h1 : i < m) : Runs P N e C ⟨d, .indexAddr t x y, ty, pos, af, g⟩ (.pointer (some (p.add (i.toNat * n)))) := fun a w ha hw => by
 simp [execOp, ha.eval hx, ha.eval hy, Instr.indexAt, asIntOf, run_underlying hu, h0, h1, run_sizeOf hi, Instr.sureAddr]

def Makes (P : Program) (N : Nat) (e : Env) (C : World → Prop) (o : Oper) (K : Value → (World → Prop) → Prop) : Prop :=
 ∀ a w, Has N a e → C w → fine P o a w (fun u w' => Ext w w' ∧ ∃ C', upC C' ∧ C' w' ∧ K u C')
def Does (P : Program) (N : Nat) (e : Env) (C : World → Prop) (o : Oper) (K : Value → (World → Prop) → Prop) : Prop :=
 ∀ a w, Has N a e → C w → fine P o a w (fun u w' => ∃ C', C' w' ∧ K u C')
theorem Makes.does {o : Oper} {K : Value → (World → Prop) → Prop} (h : Makes P N e C o K) : Does P N e C o K :=
 fun a w ha hw => (h a w ha hw).mono fun _ _ ⟨_, C', _, h2, h3⟩ => ⟨C', h2, h3⟩

theorem ext_alloc (w : World) (o : Obj) : Ext w (w.alloc o) :=
 ⟨rfl, rfl, rfl, by simp, Nat.le_refl _, fun k hk => by show (w.heap.push o)[k]? = _; simp [Array.getElem?_push, Nat.ne_of_lt hk]⟩

variable {w0 : World} {M : Nat → Prop} {rs : List Res}

theorem alloc_at (w : World) (o : Obj) : (w.alloc o).heap[w.heap.size]? = some o := by
 show (w.heap.push o)[w.heap.size]? = _; simp
theorem alloc_size (w : World) (o : Obj) : (w.alloc o).heap.size = w.heap.size + 1 := by
 show (w.heap.push o).size = _; simp

theorem sep_new {w : World} {T : TypeId} {cs : List Value} (h : Sep w0 M rs w) :
  Sep w0 M (R.box w.heap.size T cs :: rs) (w.alloc (.cells cs.toArray T)) :=
 h.push (ext_alloc w _) (alloc_at w _) (fun b hb => by
  have hb : b = w.heap.size := hb
  rw [alloc_size]; omega)

theorem m_of {o : Oper} {K : Value → (World → Prop) → Prop} (h : ∀ a w, Has N a e → C w → ∃ u w', (execOp a.eval o).run P w = .ok (.value u) w' ∧ Ext w w' ∧ ∃ C', upC C' ∧ C' w' ∧ K u C') : Makes P N e C o K :=
 fun a w ha hw => by
  obtain ⟨u, w', h1, h2⟩ := h a w ha hw
  unfold fine; rw [h1]; exact h2
theorem d_of {o : Oper} {K : Value → (World → Prop) → Prop} (h : ∀ a w, Has N a e → C w → ∃ u w', ((execOp a.eval o).run P w = .ok (.value u) w' ∨ ((execOp a.eval o).run P w = .ok .skip w' ∧ u = undef)) ∧ ∃ C', C' w' ∧ K u C') : Does P N e C o K :=
 fun a w ha hw => by
  obtain ⟨u, w', h1 | ⟨h1, rfl⟩, h2⟩ := h a w ha hw
  ·unfold fine; rw [h1]; exact h2
  ·unfold fine; rw [h1]; exact h2

def newBox (t : TypeId) (cs : List Value) (w0 : World) (M : Nat → Prop) (rs : List Res) (u : Value) (C' : World → Prop) : Prop :=
 ∃ b, u = .pointer (some ⟨b, 0, none⟩) ∧ C' = Sep w0 M (R.box b t cs :: rs)

theorem m_alloc {n by' : Nat} {z : Value} (hi : TInfo P t n by' z) : Makes P N e (Sep w0 M rs) ⟨d, .alloc t, ty, pos, af, g⟩ (newBox t z.cells.toList w0 M rs) :=
 m_of fun a w ha hw => ⟨.pointer (some ⟨w.heap.size, 0, none⟩), w.alloc (.cells z.cells.toList.toArray t), by
  simp [execOp, Instr.alloc, run_zeroValue hi, newVar, newRow, newObj, Sem.run], ext_alloc w _, _, Sep.up, sep_new hw, _, rfl, rfl⟩
theorem m_box (hx : opv e x = some v) : Makes P N e (Sep w0 M rs) ⟨d, .box t x, ty, pos, af, g⟩ (newBox t v.cells.toList w0 M rs) :=
 m_of fun a w ha hw => ⟨.pointer (some ⟨w.heap.size, 0, none⟩), w.alloc (.cells v.cells.toList.toArray t), by
  simp [execOp, ha.eval hx, Instr.box, newVar, newRow, newObj, Sem.run], ext_alloc w _, _, Sep.up, sep_new hw, _, rfl, rfl⟩

theorem setCell_at {w : World} {b off : Nat} {T : TypeId} {cs : List Value} {v : Value} (h : w.heap[b]? = some (.cells cs.toArray T (0, 0))) :
  (w.setCell ⟨b, off, none⟩ v).heap[b]? = some (.cells (cs.set off v).toArray T (0, 0)) := by
 simp [World.setCell, Array.getElem?_modify, h]
theorem setCell_size {w : World} {p : Addr} {v : Value} : (w.setCell p v).heap.size = w.heap.size := by simp [World.setCell]
theorem setCell_kp {w : World} {b off : Nat} {v : Value} : Kp (fun k => k = b) w (w.setCell ⟨b, off, none⟩ v) :=
 ⟨rfl, rfl, rfl, by rw [setCell_size]; exact Nat.le_refl _, Nat.le_refl _, fun k _ hk => by simp [World.setCell, Array.getElem?_modify, Ne.symm hk]⟩

def setBox (i b : Nat) (t : TypeId) (cs : List Value) (w0 : World) (M : Nat → Prop) (rs : List Res) (u : Value) (C' : World → Prop) : Prop :=
 u = undef ∧ C' = Sep w0 M (rs.set i (R.box b t cs))

theorem sep_setBox {w w' : World} {i b : Nat} {T : TypeId} {cs cs' : List Value} (h : Sep w0 M rs w) (hi : rs[i]? = some (R.box b T cs)) (hk : Kp (fun k => k = b) w w')
  (hb : w'.heap[b]? = some (.cells cs'.toArray T (0, 0))) : Sep w0 M (rs.set i (R.box b T cs')) w' :=
 h.set hi hk hb (fun k hk' => ⟨.inl hk', Nat.lt_of_lt_of_le (h.foot _ (List.mem_of_getElem? hi) k hk').2 hk.size⟩)

def isLeaf : Value → Bool | .agg _ | .tuple _ => false | _ => true

theorem run_store {w : World} {b off : Nat} {T : TypeId} {C : Array Value} {u v : Value} (h : w.heap[b]? = some (.cells C T (0, 0))) (hu : C[off]? = some u) (hv : isLeaf v = true) :
  (store ⟨b, off, none⟩ v).run P w = .ok () (w.setCell ⟨b, off, none⟩ v) := by
 have h1 := cell_of_block h hu
 have h2 : w.frozen? ⟨b, off, none⟩ = false := by simp [World.frozen?, h]
 cases v <;> simp [isLeaf] at hv <;> simp [store, Sem.run, h1, h2]

def over : List Value → Nat → List Value → List Value
  | cs, _, [] => cs
  | cs, off, v :: vs => over (cs.set off v) (off + 1) vs
theorem over_length : ∀ (vs cs : List Value) (off : Nat), (over cs off vs).length = cs.length
  | [], _, _ => rfl
  | v :: vs, cs, off => by rw [over, over_length vs]; simp

theorem run_storeCells {b off0 : Nat} {T : TypeId} : ∀ (vs cs : List Value) (off : Nat) (w : World), w.heap[b]? = some (.cells cs.toArray T (0, 0)) → off0 + off + vs.length ≤ cs.length → vs.all isLeaf = true →
    ∃ w', (storeCells ⟨b, off0, none⟩ vs off).run P w = .ok () w' ∧ Kp (fun k => k = b) w w' ∧ w'.heap[b]? = some (.cells (over cs (off0 + off) vs).toArray T (0, 0)) ∧ w'.heap.size = w.heap.size
  | [], cs, off, w, h, _, _ => ⟨w, by simp [storeCells], Kp.refl _ _, h, rfl⟩
  | v :: vs, cs, off, w, h, hl, hv => by
    simp only [List.length_cons] at hl
    simp only [List.all_cons, Bool.and_eq_true] at hv
    have hlt : off0 + off < cs.length := by omega
    have h1 := run_store (P := P) (off := off0 + off) (u := cs[off0 + off]) h (by simp [hlt]) hv.1
    have h2 := setCell_at (off := off0 + off) (v := v) h
    obtain ⟨w', h3, h4, h5, h6⟩ := run_storeCells (off0 := off0) vs (cs.set (off0 + off) v) (off + 1) _ h2 (by simp; omega) hv.2
    refine ⟨w', ?_, setCell_kp.trans h4, h5, by rw [h6, setCell_size]⟩
    simp only [storeCells, add_off, Sem.run_bind, h1, Result.andThen_ok]
    exact h3

theorem d_store {n by' i b : Nat} {off : Nat} {z : Value} {T : TypeId} {cs : List Value} (hi : TInfo P t n by' z) (hx : opv e x = some (.pointer (some ⟨b, off, none⟩))) (hy : opv e y = some v)
  (hr : rs[i]? = some (R.box b T cs)) (hn : v.cells.toList.length = n) (hle : off + n ≤ cs.length) (hv : v.cells.toList.all isLeaf = true) :
  Does P N e (Sep w0 M rs) ⟨d, .store t x y, ty, pos, af, g⟩ (setBox i b T (over cs off v.cells.toList) w0 M rs) :=
 d_of fun a w ha hw => by
  obtain ⟨w', h1, h2, h3, _⟩ := run_storeCells (P := P) v.cells.toList cs 0 w (hw.get hr) (off0 := off) (by omega) hv
  refine ⟨undef, w', .inr ⟨?_, rfl⟩, _, ?_, rfl, rfl⟩
  ·have hn' : v.cells.size = n := by simpa using hn
   simp [execOp, ha.eval hx, ha.eval hy, Instr.storeAt, Instr.sureAddr, storeVar, run_sizeOf hi, hn', h1]
  ·exact sep_setBox hw hr h2 h3
end
end Go.Ga

namespace Go.Ga
open Go
open Go.Ga.Rp (rep own)
open Go.Ga.Flat (enc)

section
variable {P : Program} {N : Nat} {Q : Exit → Act → World → Prop} {e : Env} {C : World → Prop}

def Nrm (N : Nat) (Q : Exit → Act → World → Prop) (e : Env) (C : World → Prop) : Prop := ∀ a w, Has N a e → C w → Q .normal a w
def Exi (N : Nat) (Q : Exit → Act → World → Prop) (id : Nat) (e : Env) (C : World → Prop) : Prop := ∀ a w, Has N a e → C w → Q (.exit id) a w
def Rtn (N : Nat) (Q : Exit → Act → World → Prop) (e : Env) (C : World → Prop) : Prop := ∀ a w, Has N a e → C w → Q .ret a w
def Rnd (P : Program) (N : Nat) (Q : Exit → Act → World → Prop) (c : Code) (k : Nat) (e : Env) (C : World → Prop) : Prop := ∀ a w, Has N a e → C w → Code.rounds P c Q k a w

variable {x y c : Code} {id id' k : Nat} {K : Act → World → Prop}
theorem Tri.seq (h : Tri P N (Exit.then (y.wp P Q) Q) x e C) : Tri P N Q (x.seq y) e C := fun a w ha hw => wp_seq (h a w ha hw)
theorem Tri.skip (h : Nrm N Q e C) : Tri P N Q .skip e C := fun a w ha hw => wp_skip (h a w ha hw)
theorem Tri.exit (h : Exi N Q id e C) : Tri P N Q (.exit id) e C := fun a w ha hw => wp_exit (h a w ha hw)
theorem Tri.ret (h : Rtn N Q e C) : Tri P N Q .ret e C := fun a w ha hw => wp_ret (h a w ha hw)
theorem Tri.block (h : Tri P N (Exit.inBlock id Q) x e C) : Tri P N Q (.block id x) e C := fun a w ha hw => wp_block (h a w ha hw)
theorem Tri.loop (k : Nat) (h : Rnd P N Q x k e C) : Tri P N Q (.loop x) e C := fun a w ha hw => wp_loop_rounds k (h a w ha hw)
theorem Rnd.succ (h : Tri P N (Exit.then (Code.rounds P x Q k) Q) x e C) : Rnd P N Q x (k + 1) e C := fun a w ha hw => by
 rw [rounds_succ]; exact h a w ha hw
theorem Tri.cond {o : Operand} {b : Bool} (ho : opv e o = some (.bool b)) (h1 : b = true → Tri P N Q x e C) (h0 : b = false → Tri P N Q y e C) : Tri P N Q (.cond o x y) e C := fun a w ha hw => by
  cases b with
  | true => exact wp_cond (t := true) (ha.eval ho) (h1 rfl a w ha hw)
  | false => exact wp_cond (t := false) (ha.eval ho) (h0 rfl a w ha hw)
theorem Tri.mono {e' : Env} {C' : World → Prop} (h : Tri P N Q x e' C') (he : ∀ t v, look e' t = some v → look e t = some v) (hc : ∀ w, C w → C' w) : Tri P N Q x e C :=
 fun a w ha hw => h a w ⟨ha.size, fun t v hl => ha.get t v (he t v hl), ha.defers⟩ (hc w hw)
theorem Rnd.mono {e' : Env} {C' : World → Prop} (h : Rnd P N Q x k e' C') (he : ∀ t v, look e' t = some v → look e t = some v) (hc : ∀ w, C w → C' w) : Rnd P N Q x k e C :=
 fun a w ha hw => h a w ⟨ha.size, fun t v hl => ha.get t v (he t v hl), ha.defers⟩ (hc w hw)

theorem Nrm.seq (h : Tri P N Q y e C) : Nrm N (Exit.then (y.wp P Q) Q) e C := h
theorem Nrm.round (h : Rnd P N Q x k e C) : Nrm N (Exit.then (Code.rounds P x Q k) Q) e C := h
theorem Nrm.block (h : Nrm N Q e C) : Nrm N (Exit.inBlock id Q) e C := h
theorem Exi.then (h : Exi N Q id e C) : Exi N (Exit.then K Q) id e C := h
theorem Exi.same (h : Nrm N Q e C) : Exi N (Exit.inBlock id Q) id e C := fun a w ha hw => by
 show (if id = id then Q .normal a w else _); rw [if_pos rfl]; exact h a w ha hw
theorem Rtn.then (h : Rtn N Q e C) : Rtn N (Exit.then K Q) e C := h
theorem Rtn.block (h : Rtn N Q e C) : Rtn N (Exit.inBlock id Q) e C := h

def lookAll (e : Env) : List Nat → Option Env
  | [] => some []
  | t :: ts => match look e t, lookAll e ts with | some v, some r => some ((t, v) :: r) | _, _ => none
theorem lookAll_sub {e : Env} : ∀ {ts : List Nat} {e' : Env}, lookAll e ts = some e' → ∀ t v, look e' t = some v → look e t = some v
  | [], e', h, t, v, hl => by simp only [lookAll] at h; cases h; simp [look] at hl
  | s :: ts, e', h, t, v, hl => by
    simp only [lookAll] at h
    cases h1 : look e s with
    | none => simp [h1] at h
    | some u =>
      cases h2 : lookAll e ts with
      | none => simp [h1, h2] at h
      | some r =>
        simp only [h1, h2] at h; cases h
        simp only [look] at hl
        cases hb : Nat.beq s t with
        | true => rw [hb] at hl; cases hl; rw [← Nat.eq_of_beq_eq_true hb]; exact h1
        | false => rw [hb] at hl; exact lookAll_sub h2 t v hl
theorem Tri.only (ts : List Nat) {e' : Env} (he : lookAll e ts = some e') (h : Tri P N Q x e' C) : Tri P N Q x e C := h.mono (lookAll_sub he) (fun _ h => h)
theorem Rnd.only (ts : List Nat) {e' : Env} (he : lookAll e ts = some e') (h : Rnd P N Q x k e' C) : Rnd P N Q x k e C := h.mono (lookAll_sub he) (fun _ h => h)
theorem Nrm.only (ts : List Nat) {e' : Env} (he : lookAll e ts = some e') (h : Nrm N Q e' C) : Nrm N Q e C :=
 fun a w ha hw => h a w ⟨ha.size, fun t v hl => ha.get t v (lookAll_sub he t v hl), ha.defers⟩ hw

variable {w0 : World} {M : Nat → Prop} {rs l : List Res}
theorem Tri.pick (is : List Nat) (hl : Ga.pick rs is = some l) (hn : noDup is = true) (h : Tri P N Q x e (Sep w0 M l)) : Tri P N Q x e (Sep w0 M rs) :=
 h.mono (fun _ _ h => h) (fun _ hw => hw.pick hl hn)
theorem Rnd.pick (is : List Nat) (hl : Ga.pick rs is = some l) (hn : noDup is = true) (h : Rnd P N Q x k e (Sep w0 M l)) : Rnd P N Q x k e (Sep w0 M rs) :=
 h.mono (fun _ _ h => h) (fun _ hw => hw.pick hl hn)

def argEnv : Nat → List Value → Env
  | _, [] => []
  | i, v :: vs => (i, v) :: argEnv (i + 1) vs
theorem argEnv_spec : ∀ {vs : List Value} {i t : Nat} {v : Value}, look (argEnv i vs) t = some v → ∃ j, t = i + j ∧ vs[j]? = some v
  | [], i, t, v, h => by simp [argEnv, look] at h
  | u :: vs, i, t, v, h => by
    simp only [argEnv, look] at h
    cases hb : Nat.beq i t with
    | true => rw [hb] at h; cases h; exact ⟨0, (Nat.eq_of_beq_eq_true hb).symm, rfl⟩
    | false =>
      rw [hb] at h
      obtain ⟨j, h1, h2⟩ := argEnv_spec h
      exact ⟨j + 1, by omega, h2⟩

theorem Calls.of_tri {f : FuncId} {fn : Func} {c : Code} {args : List Value} {w : World} {R : Ending → World → Prop} (hf : P.funcs[f]? = some fn) (hb : fn.body = some c) (hN : fn.ntmps = N) (hle : Nat.ble args.length N = true)
  (hC : C w) (h : Tri P N (bodyPost P fn R) c (argEnv 0 args) C) : Calls P f args.toArray w R := by
 have hle := Nat.le_of_ble_eq_true hle
 refine calls_of_wp hf hb (h _ w ⟨?_, fun t v hl => ?_, rfl⟩ hC)
 ·simp [hN]; omega
 ·obtain ⟨j, h1, h2⟩ := argEnv_spec hl
  simp only [Nat.zero_add] at h1; subst h1
  have hj : t < args.length := (List.getElem?_eq_some_iff.1 h2).1
  rw [Array.getElem?_append_left (by simpa using hj)]
  simpa using h2

inductive ResV (P : Program) (e : Env) (C : World → Prop) : List ResultVar → List Value → Prop
  | nil : ResV P e C [] []
  | tmp {t : Nat} {v : Value} {r : List ResultVar} {vs : List Value} : look e t = some v → ResV P e C r vs → ResV P e C (.tmp t :: r) (v :: vs)
  | cell {a : Nat} {t : TypeId} {p : Addr} {n by' : Nat} {z : Value} {cs : List Value} {r : List ResultVar} {vs : List Value} : look e a = some (.pointer (some p)) → TAgg P t true → TInfo P t n by' z → cs.length = n →
      (∀ w, C w → CellsAt w p cs) → ResV P e C r vs → ResV P e C (.cell a t :: r) (.agg cs.toArray :: vs)
def retv : List Value → Value
  | [v] => v
  | vs => .tuple vs.toArray

def resOf (tmps : Array Value) : ResultVar → Sem Value
  | .tmp t => pure (tmps.getD t undef)
  | .cell a t => do loadVar t (← asAddr (tmps.getD a undef))

theorem getD_of {a : Act} {t : Nat} {v : Value} (hg : a.tmps[t]? = some v) : a.tmps.getD t undef = v := by simp [Array.getD_eq_getD_getElem?, hg]

theorem run_resMap {a : Act} {w : World} (ha : Has N a e) (hw : C w) {rl : List ResultVar} {vs : List Value} (h : ResV P e C rl vs) :
    (rl.mapM (m := Sem) (resOf a.tmps)).run P w = .ok vs w := by
  induction h with
  | nil => simp
  | tmp h1 _ ih =>
    simp only [List.mapM_cons, Sem.run_bind, resOf, getD_of (ha.get _ _ h1), ih, Sem.run_pure, Result.andThen_ok]
  | cell h1 h2 h3 h4 h5 _ ih =>
    subst h4
    simp only [List.mapM_cons, Sem.run_bind, resOf, getD_of (ha.get _ _ h1), ih, Sem.run_pure, Result.andThen_ok, asAddr, loadVar, run_isAgg h2, if_true, run_sizeOf h3, run_loadCells (h5 w hw)]

theorem run_results {fn : Func} {a : Act} {w : World} {vs : List Value} (ha : Has N a e) (hw : C w) (h : ResV P e C fn.results.toList vs) : (results fn a.tmps).run P w = .ok (retv vs) w := by
  have h1 := run_resMap (P := P) (w := w) ha hw h
  have h2 : results fn a.tmps = (do
    let vs ← fn.results.mapM (resOf a.tmps)
    pure (if h : vs.size = 1 then vs[0] else .tuple vs)) := rfl
  rw [h2, Sem.run_bind]
  have h3 : (fn.results.mapM (resOf a.tmps)).run P w = .ok vs.toArray w := by
    rw [← Array.toArray_toList (xs := fn.results), List.mapM_toArray]
    simp [h1]
  rw [h3]
  simp only [Result.andThen_ok, Sem.run_pure]
  match vs with
  | [] => simp [retv]
  | [v] => simp [retv]
  | v :: u :: vs => simp [retv]

theorem Rtn.body {fn : Func} {R : Ending → World → Prop} {vs : List Value} (h : ResV P e C fn.results.toList vs) (hR : ∀ w, C w → R (.returned (retv vs)) w) : Rtn N (bodyPost P fn R) e C :=
 fun _ w ha hw => ⟨ha.defers, _, run_results ha hw h, hR w hw⟩
theorem Nrm.body {fn : Func} {R : Ending → World → Prop} {vs : List Value} (h : ResV P e C fn.results.toList vs) (hR : ∀ w, C w → R (.returned (retv vs)) w) : Nrm N (bodyPost P fn R) e C :=
 fun _ w ha hw => ⟨ha.defers, _, run_results ha hw h, hR w hw⟩

def CallOk (P : Program) (f : FuncId) : Prop := ∃ fn, P.funcs[f]? = some fn ∧ fn.body.isNone = false ∧ (fn.name == "runtime.NumGoroutine") = false
variable {d : Option Tmp} {ty : TypeId} {pos : String} {af : Array Edge} {g : Option (Nat × Bool)} {fo : Operand} {ats : Array TypeId} {xs : List Operand} {vs : List Value} {caps : Array Value} {f : FuncId}

theorem run_call {a : Act} {w : World} (hf : CallOk P f) (ha : Has N a e) (hfo : opv e fo = some (.func (.func f) #[] caps)) (hxs : opvs e xs = some vs) :
  (execOp a.eval ⟨d, .call ⟨.value fo, xs.toArray, ats⟩, ty, pos, af, g⟩).run P w = .ok (.enter f ((vs ++ caps.toList).toArray)) w := by
 obtain ⟨fn, h1, h2, h3⟩ := hf
 have h4 := ha.evals hxs
 have h2' : ¬ fn.body = none := fun h => by simp [h] at h2
 have h3' : ¬ fn.name = "runtime.NumGoroutine" := by simpa using h3
 simp [execOp, resolve, ha.eval hfo, Deferred.ofValue, invoke, callFunc, h1, h2', h3', h4]

def Ans (P : Program) (C : World → Prop) (f : FuncId) (args : List Value) (v : Value) : Prop :=
 ∀ w, C w → Calls P f args.toArray w (fun e w' => e = .returned v ∧ Ext w w')
theorem q_call {o : Oper} {v : Value} (ho : o = ⟨d, .call ⟨.value fo, xs.toArray, ats⟩, ty, pos, af, g⟩) (hf : CallOk P f) (hfo : opv e fo = some (.func (.func f) #[] caps)) (hxs : opvs e xs = some vs)
  (h : Ans P C f (vs ++ caps.toList) v) : ∀ a w, Has N a e → C w → fine P o a w (fun u w' => u = v ∧ Ext w w') := fun a w ha hw => by
 subst ho
 unfold fine; rw [run_call hf ha hfo hxs]
 exact (h w hw).mono fun e w' ⟨h1, h2⟩ => ⟨v, h1, rfl, h2⟩
theorem m_call {o : Oper} {K : Value → (World → Prop) → Prop} (ho : o = ⟨d, .call ⟨.value fo, xs.toArray, ats⟩, ty, pos, af, g⟩) (hf : CallOk P f) (hfo : opv e fo = some (.func (.func f) #[] caps)) (hxs : opvs e xs = some vs)
  (h : ∀ w, C w → Calls P f (vs ++ caps.toList).toArray w (fun e w' => ∃ u, e = .returned u ∧ Ext w w' ∧ ∃ C', upC C' ∧ C' w' ∧ K u C')) : Makes P N e C o K := fun a w ha hw => by
 subst ho
 unfold fine; rw [run_call hf ha hfo hxs]
 exact (h w hw).mono fun e w' ⟨u, h1, h2⟩ => ⟨u, h1, h2⟩
theorem d_call {o : Oper} {K : Value → (World → Prop) → Prop} (ho : o = ⟨d, .call ⟨.value fo, xs.toArray, ats⟩, ty, pos, af, g⟩) (hf : CallOk P f) (hfo : opv e fo = some (.func (.func f) #[] caps)) (hxs : opvs e xs = some vs)
  (h : ∀ w, C w → Calls P f (vs ++ caps.toList).toArray w (fun e w' => ∃ u, e = .returned u ∧ ∃ C', C' w' ∧ K u C')) : Does P N e C o K := fun a w ha hw => by
 subst ho
 unfold fine; rw [run_call hf ha hfo hxs]
 exact (h w hw).mono fun e w' ⟨u, h1, h2⟩ => ⟨u, h1, h2⟩

variable {ops : Array Oper} {i : Nat} {r : List (Nat × Bool)} {F : Env → (World → Prop) → Prop} {o : Oper} {v : Value} {St : World → World → Prop}
theorem wanted_none (hg : o.guard = none) : Wanted ops N e o true := fun a _ => by unfold Region.wanted; rw [hg]
theorem wanted_some {j d : Nat} {b b' : Bool} (hg : o.guard = some (j, b)) (hj : (ops[j]?).bind (·.dst) = some d) (hl : look e d = some (.bool b')) : Wanted ops N e o (b' == b) := fun a ha => by
 unfold Region.wanted yielded; rw [hg]
 simp only [hj, Option.bind_some, ha.get _ _ hl]
 cases b <;> cases b' <;> rfl
theorem wanted_undef {j d : Nat} {b : Bool} (hg : o.guard = some (j, b)) (hj : (ops[j]?).bind (·.dst) = some d) (hl : look e d = some undef) : Wanted ops N e o false := fun a ha => by
 unfold Region.wanted yielded; rw [hg]
 simp only [hj, Option.bind_some, ha.get _ _ hl]
 cases b <;> rfl

theorem Str.q (hC : upC C) (hi : ops[i]? = some o) (hd : dstOk N o = true) (hg : Wanted ops N e o true) (h : Runs P N e C o v) (next : Str P ops N Ext F r (putE o.dst v e) C) : Str P ops N Ext F ((i, true) :: r) e C :=
 ⟨o, v, hi, hd, ⟨C, fun _ h => h, hC, hC, fun _ _ _ h => h, .inl ⟨hg, fun _ _ ha hw => h.fine ha hw⟩⟩, next⟩
theorem Str.sk (hC : upC C) (hi : ops[i]? = some o) (hd : dstOk N o = true) (hg : Wanted ops N e o false) (next : Str P ops N Ext F r (putE o.dst undef e) C) : Str P ops N Ext F ((i, true) :: r) e C :=
 ⟨o, undef, hi, hd, ⟨C, fun _ h => h, hC, hC, fun _ _ _ h => h, .inr ⟨hg, rfl⟩⟩, next⟩
theorem Str.qc (hC : upC C) (hi : ops[i]? = some o) (hd : dstOk N o = true) (hg : Wanted ops N e o true) (h : ∀ a w, Has N a e → C w → fine P o a w (fun u w' => u = v ∧ Ext w w')) (next : Str P ops N Ext F r (putE o.dst v e) C) :
  Str P ops N Ext F ((i, true) :: r) e C := ⟨o, v, hi, hd, ⟨C, fun _ h => h, hC, hC, fun _ _ _ h => h, .inl ⟨hg, h⟩⟩, next⟩
theorem Str.anti (hF : ∀ e C C', (∀ w, C' w → C w) → F e C → F e C') : ∀ {r : List (Nat × Bool)} {e : Env} {C C' : World → Prop}, (∀ w, C' w → C w) → Str P ops N St F r e C → Str P ops N St F r e C'
  | [], _, _, _, hc, h => hF _ _ _ hc h
  | (_, true) :: _, _, _, _, hc, ⟨o, v, h1, h2, ⟨Cy, q1, q2⟩, h4⟩ => ⟨o, v, h1, h2, ⟨Cy, fun w hw => q1 w (hc w hw), q2⟩, Str.anti hF hc h4⟩
  | (_, false) :: _, _, _, _, hc, ⟨o, h1, h2, h3, h4⟩ => ⟨o, h1, h2, h3, fun w hw => h4 w (hc w hw)⟩
abbrev FinF (P : Program) (ops : Array Oper) (N : Nat) (Q : Exit → Act → World → Prop) (fin : List Nat) : Env → (World → Prop) → Prop := fun e' C' => ∀ a w, Has N a e' → C' w → wpOps P ops Q fin a w
theorem finF_anti {fin : List Nat} : ∀ e (C C' : World → Prop), (∀ w, C' w → C w) → FinF P ops N Q fin e C → FinF P ops N Q fin e C' := fun _ _ _ hc hf a w ha hw => hf a w ha (hc w hw)
theorem Str.m {fin : List Nat} {K : Value → (World → Prop) → Prop} (hi : ops[i]? = some o) (hd : dstOk N o = true) (hg : Wanted ops N e o true) (h : Makes P N e C o K)
  (next : ∀ u C', K u C' → Str P ops N Ext (FinF P ops N Q fin) r (putE o.dst u e) C') : Str P ops N Ext (FinF P ops N Q fin) ((i, false) :: r) e C :=
 ⟨o, hi, hd, hg, fun w hw a ha => (h a w ha hw).mono fun u w' ⟨h1, C', h2, h3, h4⟩ => ⟨h1, Str.anti finF_anti (fun w'' hw'' => h2 w' w'' h3 hw'') (next u C' h4)⟩⟩

abbrev Keep (B : World → Prop) : World → World → Prop := fun _ w' => B w'
theorem StrB.q {B : World → Prop} (hB : upC B) (hCB : ∀ w, C w → B w) (hi : ops[i]? = some o) (hd : dstOk N o = true) (hg : Wanted ops N e o true) (h : Runs P N e B o v) (next : Str P ops N (Keep B) F r (putE o.dst v e) C) : Str P ops N (Keep B) F ((i, true) :: r) e C :=
 ⟨o, v, hi, hd, ⟨B, hCB, hB, fun _ _ _ h => h, fun w w' h k => hB w w' h k, .inl ⟨hg, fun _ _ ha hw => h.fine ha hw⟩⟩, next⟩
theorem StrB.sk {B : World → Prop} (hB : upC B) (hCB : ∀ w, C w → B w) (hi : ops[i]? = some o) (hd : dstOk N o = true) (hg : Wanted ops N e o false) (next : Str P ops N (Keep B) F r (putE o.dst undef e) C) : Str P ops N (Keep B) F ((i, true) :: r) e C :=
 ⟨o, undef, hi, hd, ⟨B, hCB, hB, fun _ _ _ h => h, fun w w' h k => hB w w' h k, .inr ⟨hg, rfl⟩⟩, next⟩
theorem StrB.qc {B : World → Prop} (hB : upC B) (hCB : ∀ w, C w → B w) (hi : ops[i]? = some o) (hd : dstOk N o = true) (hg : Wanted ops N e o true) (h : ∀ a w, Has N a e → B w → fine P o a w (fun u w' => u = v ∧ Ext w w')) (next : Str P ops N (Keep B) F r (putE o.dst v e) C) :
  Str P ops N (Keep B) F ((i, true) :: r) e C := ⟨o, v, hi, hd, ⟨B, hCB, hB, fun _ _ _ h => h, fun w w' h k => hB w w' h k, .inl ⟨hg, h⟩⟩, next⟩
theorem StrB.ef {B : World → Prop} {fin : List Nat} {K : Value → (World → Prop) → Prop} (hi : ops[i]? = some o) (hd : dstOk N o = true) (hg : Wanted ops N e o true) (h : Does P N e C o K) (hK : ∀ u C', K u C' → upC C' ∧ ∀ w, C' w → B w)
  (next : ∀ u C', K u C' → Str P ops N (Keep B) (FinF P ops N Q fin) r (putE o.dst u e) C') : Str P ops N (Keep B) (FinF P ops N Q fin) ((i, false) :: r) e C :=
 ⟨o, hi, hd, hg, fun w hw a ha => (h a w ha hw).mono fun u w' ⟨C', h3, h4⟩ => ⟨(hK u C' h4).2 w' h3, Str.anti finF_anti (fun w'' hw'' => (hK u C' h4).1 w' w'' h3 hw'') (next u C' h4)⟩⟩

theorem Tri.reg {l : List Nat} (hl : List.range ops.size = l) (h : FinF P ops N Q l e C) : Tri P N Q (.region id ops false) e C := fun a w ha hw => wp_region (by rw [hl]; exact h a w ha hw)
theorem Fin.nil (h : Nrm N Q e C) : FinF P ops N Q [] e C := h
theorem Fin.q {l : List Nat} (hi : ops[i]? = some o) (hd : dstOk N o = true) (hg : Wanted ops N e o true) (h : Runs P N e C o v) (next : FinF P ops N Q l (putE o.dst v e) C) : FinF P ops N Q (i :: l) e C := fun a w ha hw => by
 rw [wpOps_cons]; unfold wpOp; simp only [hi, hg a ha, if_true]
 refine .inl (fine.wp ?_)
 unfold fine; rw [h a w ha hw]
 exact next _ w (ha.put v (dstOk.spec hd)) hw
theorem Fin.sk {l : List Nat} (hi : ops[i]? = some o) (hd : dstOk N o = true) (hg : Wanted ops N e o false) (next : FinF P ops N Q l (putE o.dst undef e) C) : FinF P ops N Q (i :: l) e C := fun a w ha hw => by
 rw [wpOps_cons]; unfold wpOp; simp only [hi, hg a ha, Bool.false_eq_true, if_false]
 exact next _ w (ha.put undef (dstOk.spec hd)) hw
theorem Fin.qc {l : List Nat} (hC : upC C) (hi : ops[i]? = some o) (hd : dstOk N o = true) (hg : Wanted ops N e o true) (h : ∀ a w, Has N a e → C w → fine P o a w (fun u w' => u = v ∧ Ext w w')) (next : FinF P ops N Q l (putE o.dst v e) C) :
  FinF P ops N Q (i :: l) e C := fun a w ha hw => by
 rw [wpOps_cons]; unfold wpOp; simp only [hi, hg a ha, if_true]
 refine .inl (fine.wp ((h a w ha hw).mono fun u w' ⟨h1, h2⟩ => ?_))
 subst h1
 exact next _ w' (ha.put u (dstOk.spec hd)) (hC w w' hw h2)
theorem Fin.ef {l : List Nat} {K : Value → (World → Prop) → Prop} (hi : ops[i]? = some o) (hd : dstOk N o = true) (hg : Wanted ops N e o true) (h : Does P N e C o K)
  (next : ∀ u C', K u C' → FinF P ops N Q l (putE o.dst u e) C') : FinF P ops N Q (i :: l) e C := fun a w ha hw => by
 rw [wpOps_cons]; unfold wpOp; simp only [hi, hg a ha, if_true]
 refine .inl (fine.wp ((h a w ha hw).mono fun u w' ⟨C', h1, h2⟩ => ?_))
 exact next u C' h2 _ w' (ha.put u (dstOk.spec hd)) h1
end
end Go.Ga

namespace Go.Ga
open Go
open Go.Ga.Rp (rep own)
open Go.Ga.Flat (enc)

section
variable {α : Type} [Rp α]

def Rd (w : World) (v : Value) (l : List α) : Prop := SlRep w (fun _ => True) v l
theorem Rd.ext {w w' : World} {v : Value} {l : List α} (h : Rd w v l) (k : Ext w w') : Rd w' v l :=
 (SlRep.loc h).st (fun b hb => k.block b hb.2) |>.mono (fun _ _ => trivial)
theorem Rd.sep {w0 w : World} {rs : List Res} {v : Value} {l : List α} (h : Rd w0 v l) (k : Sep w0 (fun _ => False) rs w) : Rd w v l := h.ext k.kp.ext
theorem Rd.len {w : World} {v : Value} {l : List α} (h : Rd w v l) : SlLen v l.length := SlRep.slLen h
theorem SlRep.rd {w : World} {S : Nat → Prop} {v : Value} {l : List α} (h : SlRep w S v l) : Rd w v l := h.mono (fun _ _ => trivial)
theorem SlOwn.rd {w : World} {S : Nat → Prop} {v : Value} {l : List α} (h : SlOwn w S v l) : Rd w v l := h.rep.rd

def R.sl (S : Nat → Prop) (v : Value) (l : List α) : Res := ⟨S, fun w => SlOwn w S v l, fun _ _ h k => h.st k⟩
variable {w0 : World} {M : Nat → Prop} {rs : List Res} {i : Nat} {S : Nat → Prop} {v : Value} {l : List α}
theorem rd_sl (hi : rs[i]? = some (R.sl S v l)) : ∀ w, Sep w0 M rs w → Rd w v l := fun _ h => SlOwn.rd (h.get hi)
theorem Rd.flat [Flat α] {w : World} {i : Int} {x : α} (h : Rd w v l) (hx : l[i.toNat]? = some x) : CellsAt w (slAddr v (Rp.n α) i) (enc x) := by
 obtain ⟨cs, h1, h2⟩ := SlRep.elem h hx
 rw [Flat.rp h2] at h1; exact h1

theorem CellsAt.cell {w : World} {p : Addr} {cs : List Value} {j : Nat} {u : Value} (h : CellsAt w p cs) (hj : cs[j]? = some u) : w.cell? (p.add j) = some u := h j u hj
theorem Addr.add_add (p : Addr) (a b : Nat) : (p.add a).add b = p.add (a + b) := by
 unfold Addr.add
 by_cases ha : a = 0
 ·simp [ha]
 ·by_cases hb : b = 0
  ·simp [ha, hb]
  ·simp [ha, hb, Nat.add_assoc]
theorem CellsAt.sub {w : World} {p : Addr} {cs cs' : List Value} {j : Nat} (h : CellsAt w p cs) (hj : ∀ k u, cs'[k]? = some u → cs[j + k]? = some u) : CellsAt w (p.add j) cs' := fun k u hk => by
 rw [Addr.add_add]; exact h _ _ (hj k u hk)
theorem box_cells {b : Nat} {T : TypeId} {cs : List Value} (hi : rs[i]? = some (R.box b T cs)) : ∀ w, Sep w0 M rs w → CellsAt w ⟨b, 0, none⟩ cs := fun w h j u hj => by
 rw [add_off]; exact box_cell hi (by rw [Nat.zero_add]; exact hj) w h

def rdl (l : List α) (i : Int) : Option α := if 0 ≤ i then l[i.toNat]? else none
theorem rdl_some {β : Type} {l : List β} {i : Int} {x : β} (h : rdl l i = some x) : 0 ≤ i ∧ i < l.length ∧ l[i.toNat]? = some x := by
 unfold rdl at h
 split at h
 ·rename_i h0
  have := (List.getElem?_eq_some_iff.1 h).1
  exact ⟨h0, by omega, h⟩
 ·cases h
end

section
variable {α : Type} [Rp α] [Flat α]
def encs (l : List α) : List Value := l.flatMap enc
theorem encs_length (l : List α) : (encs l).length = l.length * Rp.n α := by
  induction l with
  | nil => simp [encs]
  | cons x l ih =>
    have : encs (x :: l) = enc x ++ encs l := by simp [encs]
    rw [this, List.length_append, enc_len, ih, List.length_cons, Nat.add_mul, Nat.one_mul, Nat.add_comm]
theorem encs_append (l m : List α) : encs (l ++ m) = encs l ++ encs m := by simp [encs]
theorem encs_part : ∀ (l : List α) (i : Nat) (x : α) (pre post : List Value), l[i]? = some x →
    ((pre ++ encs l ++ post).drop (pre.length + i * Rp.n α)).take (Rp.n α) = enc x
  | [], i, x, pre, post, h => by simp at h
  | y :: l, 0, x, pre, post, h => by
    simp at h; subst h
    have h1 : encs (y :: l) = enc y ++ encs l := by simp [encs]
    rw [h1, Nat.zero_mul, Nat.add_zero, List.append_assoc, List.drop_left, List.append_assoc, List.take_left' (enc_len y)]
  | y :: l, i + 1, x, pre, post, h => by
    have h1 : encs (y :: l) = enc y ++ encs l := by simp [encs]
    have ih := encs_part l i x (pre ++ enc y) post (by simpa using h)
    rw [List.length_append, enc_len] at ih
    rw [h1, show pre.length + (i + 1) * Rp.n α = pre.length + Rp.n α + i * Rp.n α by rw [Nat.add_mul, Nat.one_mul]; omega]
    simpa [List.append_assoc] using ih

theorem slOwn_block {w : World} {S : Nat → Prop} {b off cap : Nat} {T : TypeId} {l : List α} {pre post : List Value} (hS : S b) (h : w.heap[b]? = some (.cells (pre ++ encs l ++ post).toArray T (0, 0)))
  (ho : pre.length = off) (hc : l.length ≤ cap) (hp : off + cap * Rp.n α ≤ (pre ++ encs l ++ post).length) : SlOwn w S (.slice (some ⟨b, off, none⟩) l.length cap) l := by
 refine .inr ⟨b, off, cap, _, T, hS, rfl, hc, h, by simpa using hp, fun _ _ => False, fun _ _ _ _ h _ => h, fun _ _ h => h.elim, fun i x hx => Flat.own_iff.2 ?_⟩
 subst ho
 exact encs_part l i x pre post hx

theorem slOwn_open {w : World} {S : Nat → Prop} {v : Value} {l : List α} (h : SlOwn w S v l) :
    (v = .slice none 0 0 ∧ l = []) ∨ ∃ b off cap T pre post, S b ∧ v = .slice (some ⟨b, off, none⟩) l.length cap ∧ l.length ≤ cap ∧ pre.length = off ∧
      w.heap[b]? = some (.cells (pre ++ encs l ++ post).toArray T (0, 0)) ∧ off + cap * Rp.n α ≤ (pre ++ encs l ++ post).length := by
  rcases h with h | ⟨b, off, cap, C, T, h1, h2, h3, h4, h5, f, _, _, h6⟩
  · exact .inl h
  · right
    have hle : l.length * Rp.n α ≤ cap * Rp.n α := Nat.mul_le_mul_right _ h3
    have key : ∀ (m : List α) (k : Nat), off + (k + m.length) * Rp.n α ≤ C.size → (∀ i x, m[i]? = some x → part C (off + (k + i) * Rp.n α) (Rp.n α) = enc x) →
        (C.toList.drop (off + k * Rp.n α)).take (m.length * Rp.n α) = encs m := by
      intro m
      induction m with
      | nil => intro k _ _; simp [encs]
      | cons y m ih =>
        intro k hk hx
        have h0 := hx 0 y rfl
        have ih' := ih (k + 1) (by rw [List.length_cons] at hk; rw [show k + 1 + m.length = k + (m.length + 1) by omega]; exact hk) (fun i x hi => by
          have := hx (i + 1) x (by simpa using hi)
          rwa [show k + 1 + i = k + (i + 1) by omega])
        have h1 : encs (y :: m) = enc y ++ encs m := by simp [encs]
        rw [h1, ← h0, ← ih', List.length_cons, Nat.add_mul, Nat.one_mul, Nat.add_comm (m.length * _), List.take_add]
        simp only [part, Nat.add_zero, List.drop_drop]
        rw [show off + k * Rp.n α + Rp.n α = off + (k + 1) * Rp.n α by rw [Nat.add_mul, Nat.one_mul]; omega]
    have hk := key l 0 (by rw [Nat.zero_add]; omega) (fun i x hx => by rw [Nat.zero_add]; exact Flat.own_iff.1 (h6 i x hx))
    rw [Nat.zero_mul, Nat.add_zero] at hk
    have hsplit : C.toList = C.toList.take off ++ encs l ++ C.toList.drop (off + l.length * Rp.n α) := by
      rw [← hk, List.append_assoc, ← List.drop_drop, List.take_append_drop, List.take_append_drop]
    refine ⟨b, off, cap, T, C.toList.take off, C.toList.drop (off + l.length * Rp.n α), h1, h2, h3, ?_, ?_, ?_⟩
    · simp; omega
    · rw [← hsplit]; simpa using h4
    · rw [← hsplit]; simpa using h5
end
end Go.Ga

namespace Go.Ga
open Go
open Go.Ga.Rp (rep own)
open Go.Ga.Flat (enc)

theorem over_spec : ∀ (vs pre rest : List Value), vs.length ≤ rest.length → over (pre ++ rest) pre.length vs = pre ++ vs ++ rest.drop vs.length
  | [], pre, rest, _ => by simp [over]
  | v :: vs, pre, [], h => by simp at h
  | v :: vs, pre, u :: rest, h => by
    have ih := over_spec vs (pre ++ [v]) rest (by simpa using h)
    simp only [over]
    have h1 : (pre ++ u :: rest).set pre.length v = pre ++ [v] ++ rest := by
      rw [List.set_append_right _ _ (Nat.le_refl _)]; simp
    rw [h1]
    rw [show pre.length + 1 = (pre ++ [v]).length by simp, ih]
    simp

theorem foldl_over (off : Nat) : ∀ (vs : List Value) (j : Nat) (cs : List Value),
    (((vs.zipIdx j).foldl (fun (cs : Array Value) (p : Value × Nat) => cs.setIfInBounds (off + p.2) p.1) cs.toArray)) = (over cs (off + j) vs).toArray
  | [], j, cs => by simp [over]
  | v :: vs, j, cs => by
    rw [List.zipIdx_cons, List.foldl_cons]
    have ih := foldl_over off vs (j + 1) (cs.set (off + j) v)
    simp only [over]
    rw [show off + j + 1 = off + (j + 1) by omega, ← ih]
    simp

theorem fill_spec (n : Nat) : ∀ (ps : List (Nat × Value)) (k : Nat) (pre rest : List Value), (∀ j p, ps[j]? = some p → p.1 = k + j ∧ p.2.cells.toList.length = n) →
    pre.length = k * n → rest.length = ps.length * n →
    Instr.fill (fun i => some (i * n, n)) (pre ++ rest).toArray ps = some (pre ++ ps.flatMap (fun p => p.2.cells.toList)).toArray
  | [], k, pre, rest, h, hp, hr => by
    have : rest = [] := by simpa using hr
    subst this; simp [Instr.fill]
  | p :: ps, k, pre, rest, h, hp, hr => by
    obtain ⟨h1, h2⟩ := h 0 p rfl
    obtain ⟨i, v⟩ := p
    simp only [Nat.add_zero] at h1 h2
    subst h1
    rw [List.length_cons, Nat.add_mul, Nat.one_mul] at hr
    have h2' : v.cells.size = n := by simpa using h2
    have h3 : ¬ (v.cells.size ≠ n ∨ i * n + v.cells.size > (pre ++ rest).toArray.size) := by
      simp [h2', hp]; omega
    have h4 : (v.cells.zipIdx.foldl (fun cs (p : Value × Nat) => cs.setIfInBounds (i * n + p.2) p.1) (pre ++ rest).toArray) = (pre ++ v.cells.toList ++ rest.drop n).toArray := by
      have h5 := foldl_over (i * n) v.cells.toList 0 (pre ++ rest)
      rw [Nat.add_zero, ← hp, over_spec _ _ _ (by omega), h2] at h5
      rw [← h5, ← Array.foldl_toList]
      simp [hp]
    have ih := fill_spec n ps (i + 1) (pre ++ v.cells.toList) (rest.drop n) (fun j q hj => by
      have := h (j + 1) q (by simpa using hj)
      exact ⟨by omega, this.2⟩) (by simp [hp, h2', Nat.add_mul]) (by simp; omega)
    simp only [Instr.fill]
    rw [if_neg (by simpa using h3)]
    rw [h4, ih]
    simp

section
variable {P : Program} {N : Nat} {e : Env} {C : World → Prop}
variable {d : Option Tmp} {ty : TypeId} {pos : String} {af : Array Edge} {g : Option (Nat × Bool)} {x y c : Operand} {v u : Value} {t el : TypeId}
variable {w0 : World} {M : Nat → Prop} {rs : List Res}

theorem eval_parts {a : Act} (ha : Has N a e) {parts : Array (Nat × Operand)} {vs : List Value} (hp : opvs e (parts.toList.map (·.2)) = some vs) (hi : parts.toList.map (·.1) = List.range vs.length) :
  ∀ j p, (parts.map fun (i, x) => (i, a.eval x)).toList[j]? = some p → p.1 = 0 + j ∧ vs[j]? = some p.2 := by
 intro j p hj
 have h1 := ha.evals hp
 simp only [Array.toList_map, List.getElem?_map, Option.map_eq_some_iff] at hj
 obtain ⟨q, hq, rfl⟩ := hj
 have h2 := congrArg (fun l => l[j]?) hi
 simp only [List.getElem?_map, hq, Option.map_some] at h2
 have hlt : j < vs.length := by
  rcases Nat.lt_or_ge j vs.length with h | h
  ·exact h
  ·rw [List.getElem?_eq_none (by simpa using h)] at h2; cases h2
 rw [List.getElem?_range hlt] at h2
 refine ⟨by simpa using h2, ?_⟩
 rw [← h1]; simp [hq]

def newLit (n : Nat) (el : TypeId) (cs : List Value) (w0 : World) (M : Nat → Prop) (rs : List Res) (u : Value) (C' : World → Prop) : Prop :=
 ∃ b, u = .slice (some ⟨b, 0, none⟩) n n ∧ C' = Sep w0 M (R.box b el cs :: rs)

theorem run_build {a : Act} {w : World} {parts : Array (Nat × Operand)} {vs : List Value} {n by' : Nat} {z : Value} (ha : Has N a e) (hu : P.underlying t = some (.slice el)) (hi : TInfo P el n by' z)
    (hp : opvs e (parts.toList.map (·.2)) = some vs) (hix : parts.toList.map (·.1) = List.range vs.length) (hn : ∀ v ∈ vs, v.cells.toList.length = n) (hs : vs.length * n ≤ 16777216) :
    (execOp a.eval ⟨d, .buildSlice t vs.length parts, ty, pos, af, g⟩).run P w = .ok (.value (.slice (some ⟨w.heap.size, 0, none⟩) vs.length vs.length)) (w.alloc (.cells (vs.flatMap fun v => v.cells.toList).toArray el)) := by
  have hps := eval_parts ha hp hix
  have hlen : (parts.map fun (i, x) => (i, a.eval x)).toList.length = vs.length := by
    have := congrArg List.length hix
    simpa using this
  have hmap : (parts.map fun (i, x) => (i, a.eval x)).toList.flatMap (fun p => p.2.cells.toList) = vs.flatMap fun v => v.cells.toList := by
    have : (parts.map fun (i, x) => (i, a.eval x)).toList.map (·.2) = vs := by
      refine List.ext_getElem? fun j => ?_
      rw [List.getElem?_map]
      cases hj : (parts.map fun (i, x) => (i, a.eval x)).toList[j]? with
      | none => rw [List.getElem?_eq_none (by have := List.getElem?_eq_none_iff.1 hj; omega)]; rfl
      | some p => rw [(hps j p hj).2]; rfl
    have h3 : ∀ l : List (Nat × Value), l.flatMap (fun p => p.2.cells.toList) = (l.map (·.2)).flatMap fun v => v.cells.toList := fun l => by rw [List.flatMap_map]
    rw [h3, this]
  have hfill : ∀ zs : List Value, zs.length = vs.length * n → Instr.fill (fun i => some (i * n, n)) zs.toArray (parts.map fun (i, x) => (i, a.eval x)).toList = some (vs.flatMap fun v => v.cells.toList).toArray := fun zs hz => by
    have := fill_spec n (parts.map fun (i, x) => (i, a.eval x)).toList 0 [] zs (fun j p hj => ⟨(hps j p hj).1, hn _ (List.mem_of_getElem? (hps j p hj).2)⟩) (by simp) (by rw [hlen]; exact hz)
    rw [hmap] at this; simpa using this
  have hs' : ¬ (vs.length * n > 2 ^ 24) := by omega
  have hb : (Instr.buildSlice t vs.length (parts.map fun (i, x) => (i, a.eval x))).run P w = .ok (.slice (some ⟨w.heap.size, 0, none⟩) vs.length vs.length) (w.alloc (.cells (vs.flatMap fun v => v.cells.toList).toArray el)) := by
    unfold Instr.buildSlice
    simp only [Sem.run_bind, run_underlying hu, Result.andThen_ok, run_sizeOf hi, if_neg hs']
    by_cases h0 : vs.length * n = 0
    · have hf := hfill ((Array.range (vs.length * n)).map ((#[] : Array Value)[· % (#[] : Array Value).size]!)).toList (by simp)
      rw [Array.toArray_toList] at hf
      simp only [if_pos h0, Sem.run_bind, Sem.run_pure, Result.andThen_ok]
      rw [hf]
      simp [newRow, newObj, Sem.run]
    · have hf := hfill ((Array.range (vs.length * n)).map (z.cells[· % z.cells.size]!)).toList (by simp)
      rw [Array.toArray_toList] at hf
      simp only [if_neg h0, Sem.run_bind, Sem.run_pure, Result.andThen_ok, run_zeroValue hi]
      rw [hf]
      simp [newRow, newObj, Sem.run]
  simp [execOp, hb]

theorem m_build {parts : Array (Nat × Operand)} {vs : List Value} {n by' m : Nat} {z : Value} (hu : P.underlying t = some (.slice el)) (hi : TInfo P el n by' z)
  (hp : opvs e (parts.toList.map (·.2)) = some vs) (hm : vs.length = m) (hix : parts.toList.map (·.1) = List.range m) (hn : ∀ v ∈ vs, v.cells.toList.length = n) (hs : Nat.ble (m * n) 16777216 = true) :
  Makes P N e (Sep w0 M rs) ⟨d, .buildSlice t m parts, ty, pos, af, g⟩ (newLit m el (vs.flatMap fun v => v.cells.toList) w0 M rs) :=
 m_of fun a w ha hw => by
  subst hm
  exact ⟨_, _, run_build ha hu hi hp hix hn (Nat.le_of_ble_eq_true hs), ext_alloc w _, _, Sep.up, sep_new hw, _, rfl, rfl⟩

theorem sl_of_box {α : Type} [Rp α] [Flat α] {i b : Nat} {T : TypeId} {cs : List Value} {l : List α} (hi : rs[i]? = some (R.box b T cs)) (hc : cs = encs l) :
  ∀ w, Sep w0 M rs w → Sep w0 M (rs.set i (R.sl (fun k => k = b) (.slice (some ⟨b, 0, none⟩) l.length l.length) l)) w := fun w h => by
 have hb := h.get hi
 refine h.set hi (Kp.refl _ _) ?_ (fun k hk => ⟨.inl hk, (h.foot _ (List.mem_of_getElem? hi) k hk).2⟩)
 subst hc
 have := slOwn_block (S := fun k => k = b) (pre := []) (post := []) (l := l) (cap := l.length) (off := 0) rfl (by simpa using (show w.heap[b]? = some (.cells (encs l).toArray T (0, 0)) from hb)) rfl (Nat.le_refl _) (by simp [encs_length])
 exact this
theorem sl_of_box0 {α : Type} [Rp α] {i b : Nat} {T : TypeId} (hi : rs[i]? = some (R.box b T [])) :
  ∀ w, Sep w0 M rs w → Sep w0 M (rs.set i (R.sl (fun k => k = b) (.slice (some ⟨b, 0, none⟩) 0 0) ([] : List α))) w := fun w h => by
 have hb := h.get hi
 refine h.set hi (Kp.refl _ _) ?_ (fun k hk => ⟨.inl hk, (h.foot _ (List.mem_of_getElem? hi) k hk).2⟩)
 exact .inr ⟨b, 0, 0, _, T, rfl, rfl, Nat.le_refl _, hb, by simp, fun _ _ => False, fun _ _ _ _ h _ => h, fun _ _ h => h.elim, fun i x hx => by simp at hx⟩

theorem firstCells_rd {α : Type} [Rp α] [Flat α] {w : World} {v : Value} {l : List α} (h : Rd w v l) : (Builtin.firstCells (Rp.n α) l.length v).run P w = .ok (encs l).toArray w := by
  rcases h with ⟨rfl, rfl⟩ | ⟨a, rfl, rfl⟩ | ⟨b, off, cap, Cb, T, fr, _, rfl, h3, h4, h5, h6⟩
  · simp [Builtin.firstCells, encs]
  · simp [Builtin.firstCells, encs, loadCells, loadCellsFrom]
  · have hlen : (encs l).length = l.length * Rp.n α := encs_length l
    have hc : CellsAt w ⟨b, off, none⟩ (encs l) := by
      have key : ∀ (m : List α) (k : Nat), (∀ i x, m[i]? = some x → Ga.part Cb (off + (k + i) * Rp.n α) (Rp.n α) = enc x) → ∀ j u, (encs m)[j]? = some u → Cb[off + k * Rp.n α + j]? = some u := by
        intro m
        induction m with
        | nil => intro k _ j u hj; simp [encs] at hj
        | cons y m ih =>
          intro k hx j u hj
          have h1 : encs (y :: m) = enc y ++ encs m := by simp [encs]
          rw [h1] at hj
          have h0 := hx 0 y rfl
          rcases Nat.lt_or_ge j (Rp.n α) with hlt | hge
          · rw [List.getElem?_append_left (by rw [enc_len]; exact hlt), ← h0] at hj
            simp only [Ga.part, List.getElem?_take, hlt, if_true, List.getElem?_drop, Nat.add_zero] at hj
            rw [← Array.getElem?_toList]; exact hj
          · rw [List.getElem?_append_right (by rw [enc_len]; exact hge), enc_len] at hj
            have := ih (k + 1) (fun i x hi => by
              have := hx (i + 1) x (by simpa using hi)
              rwa [show k + 1 + i = k + (i + 1) by omega]) _ u hj
            rwa [show off + (k + 1) * Rp.n α + (j - Rp.n α) = off + k * Rp.n α + j by rw [Nat.add_mul, Nat.one_mul]; omega] at this
      intro j u hj
      rw [add_off]
      have := key l 0 (fun i x hx => by rw [Nat.zero_add]; exact Flat.rp (h6 i x hx)) j u hj
      exact cell_of_block h4 (by simpa using this)
    have := run_loadCells (P := P) hc
    rw [hlen] at this
    simp [Builtin.firstCells, this]

theorem growBy_le : ∀ (r c nl : Nat), Builtin.growBy nl r c ≤ max c (nl + (nl + 768) / 4 + 1)
  | 0, c, nl => by simp [Builtin.growBy]; omega
  | r + 1, c, nl => by
    simp only [Builtin.growBy]
    split
    · omega
    · have := growBy_le r (c + (c + 768) / 4) nl
      have h2 : c + (c + 768) / 4 ≤ nl + (nl + 768) / 4 := by omega
      omega
theorem nextslicecap_le (nl oc : Nat) (h : oc < nl) : Builtin.nextslicecap nl oc ≤ 2 * nl + 1000 := by
 unfold Builtin.nextslicecap
 split
 ·omega
 ·split
  ·omega
  ·have := growBy_le 4 oc nl; omega

theorem isLeaf_encs {α : Type} [Rp α] [Flat α] (hl : ∀ x : α, (enc x).all isLeaf = true) (l : List α) : (encs l).all isLeaf = true := by
 simp only [encs, List.all_flatMap, List.all_eq_true]
 intro x hx; exact List.all_eq_true.1 (hl x)

class Leafy (α : Type) [Rp α] [Flat α] : Prop where
 all : ∀ x : α, (enc x).all isLeaf = true
instance : Leafy Int := ⟨fun _ => rfl⟩
instance : Leafy Bool := ⟨fun _ => rfl⟩
instance : Leafy ByteArray := ⟨fun _ => rfl⟩
instance {α β : Type} [Rp α] [Rp β] [Flat α] [Flat β] [Leafy α] [Leafy β] : Leafy (α × β) := ⟨fun x => by
 show (enc x.1 ++ enc x.2).all isLeaf = true
 rw [List.all_append, Leafy.all, Leafy.all]; rfl⟩

theorem zeroCells_size (z : Array Value) (n : Nat) : (Builtin.zeroCells z n).size = n * z.size := by simp [Builtin.zeroCells]

def appd (i : Nat) {α : Type} [Rp α] (l : List α) (w0 : World) (M : Nat → Prop) (rs : List Res) (u : Value) (C' : World → Prop) : Prop :=
 ∃ S, C' = Sep w0 M (rs.set i (R.sl S u l)) ∧ SlLen u l.length

theorem d_append {α : Type} [Rp α] [Flat α] [Leafy α] {t' : TypeId} {by' i : Nat} {z v v2 : Value} {l l2 : List α} {S : Nat → Prop} (hu : P.underlying t = some (.slice el)) (hu' : P.underlying t' = some (.slice el)) (hi : TInfo P el (Rp.n α) by' z) (hz : z.cells.size = Rp.n α) (hby : by' ≤ 120)
  (hx : opv e x = some v) (hy : opv e y = some v2) (hr : rs[i]? = some (R.sl S v l)) (h2 : ∀ w, Sep w0 M rs w → Rd w v2 l2) (hb : (l ++ l2).length < 1099511627776) :
  Does P N e (Sep w0 M rs) ⟨d, .call ⟨.builtin .append, #[x, y], #[t, t']⟩, ty, pos, af, g⟩ (appd i (l ++ l2) w0 M rs) :=
 d_of fun a w ha hw => by
  have hown : SlOwn w S v l := hw.get hr
  have hrd2 := h2 w hw
  obtain ⟨a2, cap2, e2, _⟩ := hrd2.len
  have hfc2 := firstCells_rd (P := P) hrd2
  rw [List.length_append] at hb
  have hns : (l ++ l2).length = l.length + l2.length := List.length_append
  have hmono : ∀ b, S b → b < w.heap.size := fun b hb => (hw.foot _ (List.mem_of_getElem? hr) b hb).2
  have hlen2 : (Builtin.lenOf v2).run P w = .ok l2.length w := by rw [e2]; simp [Builtin.lenOf]
  have hres : ∃ u w', (Builtin.append_ #[t, t'] ty #[v, v2]).run P w = .ok u w' ∧ ∃ C', C' w' ∧ appd i (l ++ l2) w0 M rs u C' := by
   obtain ⟨inf, g1, g2, g3, g4⟩ := hi
   have hti : ∀ w' : World, (typeInfo el).run P w' = .ok inf w' := fun w' => by simp [typeInfo, g1]
   have hzv : ∀ w' : World, (zeroValue el).run P w' = .ok z w' := fun w' => by simp [zeroValue, hti, g4]
   have hsz : ∀ w' : World, (sizeOf el).run P w' = .ok (Rp.n α) w' := fun w' => by simp [sizeOf, hti, g2]
   have hroom1 : ∀ (m : Nat) (w' : World), (askRoom m).run P w' = .ok () w' := fun m w' => by
    unfold askRoom; split <;> simp [mark, Sem.run]
   have hnew : ∀ {cap : Nat}, ¬ l.length + l2.length ≤ cap → (∃ base, v = .slice base l.length cap) →
     ∃ u w', (Builtin.append_ #[t, t'] ty #[v, v2]).run P w = .ok u w' ∧ ∃ C', C' w' ∧ appd i (l ++ l2) w0 M rs u C' := by
    rintro cap hroom ⟨base, hv⟩
    have hcap := nextslicecap_le (l.length + l2.length) cap (by omega)
    have hbig : ¬ (2 ^ 48 < (Builtin.nextslicecap (l.length + l2.length) cap) * inf.bytes) := by
     have : (Builtin.nextslicecap (l.length + l2.length) cap) * inf.bytes ≤ (2 * (l.length + l2.length) + 1000) * 120 := Nat.mul_le_mul hcap (by omega)
     omega
    have h63 : ¬ (9223372036854775807 < (l.length : Int) + l2.length ∧ inf.bytes = 0) := by omega
    generalize hncq : (Question.appendCap (l.length + l2.length) cap el).cut (w.tape w.drawn (Question.appendCap (l.length + l2.length) cap el)) = nc
    have hnc : l.length + l2.length ≤ nc := by rw [← hncq]; simp [Question.cut]
    have ha1 : (Builtin.firstCells (Rp.n α) l.length v).run P w.drew = .ok (encs l).toArray w.drew := firstCells_rd (SlRep.st (SlOwn.rd hown) (fun b _ => rfl))
    have ha2 : (Builtin.firstCells (Rp.n α) l2.length v2).run P w.drew = .ok (encs l2).toArray w.drew := firstCells_rd (SlRep.st hrd2 (fun b _ => rfl))
    have hpost : (encs l).toArray ++ ((encs l2).toArray ++ Builtin.zeroCells z.cells (nc - (l.length + l2.length))) = (encs (l ++ l2) ++ (Builtin.zeroCells z.cells (nc - (l.length + l2.length))).toList).toArray := by
     rw [encs_append]; simp
    refine ⟨.slice (some ⟨w.heap.size, 0, none⟩) (l.length + l2.length) nc, w.drew.alloc (.cells (encs (l ++ l2) ++ (Builtin.zeroCells z.cells (nc - (l.length + l2.length))).toList).toArray el), ?_, _, ?_, fun k => k = w.heap.size, rfl, ?_⟩
    ·subst hv
     unfold Builtin.append_
     simp [run_underlying hu, run_underlying hu', hsz, hlen2, hroom, hti, hbig, h63, Question.forced, ha1, ha2, hncq, hroom1, hzv, newRow, newObj, Sem.run, hpost]
    ·have hext : Ext w (w.drew.alloc (.cells (encs (l ++ l2) ++ (Builtin.zeroCells z.cells (nc - (l.length + l2.length))).toList).toArray el)) := (Ext.drew w).trans (ext_alloc w.drew _)
     refine hw.set hr (hext.kp _) ?_ (fun b hb => ?_)
     ·have hblk := alloc_at w.drew (.cells (encs (l ++ l2) ++ (Builtin.zeroCells z.cells (nc - (l.length + l2.length))).toList).toArray el)
      have := slOwn_block (S := fun k => k = w.heap.size) (pre := []) (off := 0) (cap := nc) (l := l ++ l2) (b := w.heap.size) (T := el) (post := (Builtin.zeroCells z.cells (nc - (l.length + l2.length))).toList) (w := w.drew.alloc (.cells (encs (l ++ l2) ++ (Builtin.zeroCells z.cells (nc - (l.length + l2.length))).toList).toArray el)) rfl (by rw [List.nil_append]; exact hblk) rfl (by rw [hns]; exact hnc) (by
       have hzl : (Builtin.zeroCells z.cells (nc - (l.length + l2.length))).toList.length = (nc - (l.length + l2.length)) * Rp.n α := by
        rw [Array.length_toList, zeroCells_size, hz]
       rw [List.length_append, List.length_append, encs_length, hzl, hns, List.length_nil, Nat.zero_add, Nat.zero_add, ← Nat.add_mul]
       exact Nat.mul_le_mul_right _ (by omega))
      rw [hns] at this; exact this
     ·subst hb
      refine ⟨.inr (Nat.le_refl _), ?_⟩
      rw [alloc_size]; exact Nat.lt_succ_self _
    ·rw [hns]; exact ⟨_, _, rfl, fun h => by cases h⟩
   rcases slOwn_open hown with ⟨rfl, rfl⟩ | ⟨b, off, cap, T, pre, post, h1, rfl, h3, h4, h5, h6⟩
   ·by_cases h0 : l2.length = 0
    ·have : l2 = [] := List.eq_nil_of_length_eq_zero h0
     subst this
     refine ⟨.slice none 0 0, w, ?_, _, ?_, S, rfl, ⟨none, 0, rfl, fun _ => rfl⟩⟩
     ·unfold Builtin.append_
      have hfc := firstCells_rd (P := P) hrd2
      simp only [List.length_nil] at hfc hlen2
      simp [run_underlying hu, run_underlying hu', hsz, hlen2, hfc]
     ·exact hw.set hr (Kp.refl _ _) hown (fun b hb => ⟨.inl hb, hmono b hb⟩)
    ·exact hnew (cap := 0) (by simp only [List.length_nil]; omega) ⟨none, rfl⟩
   ·by_cases hroom : l.length + l2.length ≤ cap
    ·have hfc := firstCells_rd (P := P) hrd2
     have hmul : (l.length + l2.length) * Rp.n α ≤ cap * Rp.n α := Nat.mul_le_mul_right _ hroom
     have hsplit : post = post.take (l2.length * Rp.n α) ++ post.drop (l2.length * Rp.n α) := (List.take_append_drop _ _).symm
     have hplen : (encs l2).length ≤ post.length := by
      rw [encs_length]
      simp only [List.length_append, encs_length] at h6
      rw [Nat.add_mul] at hmul; omega
     obtain ⟨w', g5, g6, g7, g8⟩ := run_storeCells (P := P) (off0 := off + l.length * Rp.n α) (encs l2) (pre ++ encs l ++ post) 0 w h5 (by
      simp only [List.length_append, encs_length] at hplen ⊢; rw [h4]; omega) (isLeaf_encs Leafy.all l2)
     rw [Nat.add_zero, show off + l.length * Rp.n α = (pre ++ encs l).length by rw [List.length_append, encs_length, h4], over_spec _ _ _ hplen] at g7
     refine ⟨.slice (some ⟨b, off, none⟩) (l.length + l2.length) cap, w', ?_, _, ?_, S, rfl, ?_⟩
     ·unfold Builtin.append_
      simp [run_underlying hu, run_underlying hu', hsz, hlen2, hroom, hfc, add_off, g5]
     ·refine hw.set hr (g6.mono (fun k _ hk => by subst hk; exact h1)) ?_ (fun b hb => ⟨.inl hb, by rw [g8]; exact hmono b hb⟩)
      have := slOwn_block (S := S) (pre := pre) (off := off) (cap := cap) (l := l ++ l2) (b := b) (w := w') (T := T) (post := post.drop (encs l2).length) h1 (by
       rw [g7, encs_append]; simp [List.append_assoc]) h4 (by rw [hns]; exact hroom) (by
       simp only [List.length_append, encs_length, List.length_drop] at h6 hplen ⊢
       rw [Nat.add_mul]; omega)
      rw [hns] at this; exact this
     ·rw [hns]; exact ⟨_, _, rfl, fun h => by cases h⟩
    ·exact hnew hroom ⟨_, rfl⟩
  obtain ⟨u, w', h1, h3⟩ := hres
  refine ⟨u, w', .inl ?_, h3⟩
  simp [execOp, resolve, invoke, builtin, ha.eval hx, ha.eval hy, h1]
end
end Go.Ga

namespace Go.Ga
open Go
open Go.Ga.Rp (rep own)
open Go.Ga.Flat (enc)

section
variable {P : Program} {N : Nat} {Q : Exit → Act → World → Prop} {e : Env} {C : World → Prop} {ops : Array Oper} {i d : Nat} {o : Oper} {v : Value} {r : List (Nat × Bool)} {fin l : List Nat}
variable {K : Value → (World → Prop) → Prop}

theorem dok (hd : o.dst = some d) (hN : Nat.blt d N = true) : dstOk N o = true := by unfold dstOk; rw [hd]; exact hN
theorem dok0 (hd : o.dst = none) : dstOk N o = true := by unfold dstOk; rw [hd]
theorem putS (hd : o.dst = some d) : putE o.dst v e = (d, v) :: e := by rw [hd]; rfl
theorem put0 (hd : o.dst = none) : putE o.dst v e = e := by rw [hd]; rfl

abbrev W (ops : Array Oper) (N : Nat) (e : Env) (o : Oper) := Wanted ops N e o true
theorem wg {j d : Nat} {b b' : Bool} (hg : o.guard = some (j, b)) (hj : (ops[j]?).bind (·.dst) = some d) (hl : look e d = some (.bool b')) (hb : b' = b) : Wanted ops N e o true := by
 have := wanted_some (N := N) hg hj hl
 subst hb
 rwa [show (b' == b') = true by cases b' <;> rfl] at this
theorem wf {j d : Nat} {b b' : Bool} (hg : o.guard = some (j, b)) (hj : (ops[j]?).bind (·.dst) = some d) (hl : look e d = some (.bool b')) (hb : b' = !b) : Wanted ops N e o false := by
 have := wanted_some (N := N) hg hj hl
 subst hb
 rwa [show ((!b) == b) = false by cases b <;> rfl] at this

theorem F.q (hi : ops[i]? = some o) (hd : o.dst = some d) (hN : Nat.blt d N = true) (hg : W ops N e o) (h : Runs P N e C o v) (next : FinF P ops N Q l ((d, v) :: e) C) : FinF P ops N Q (i :: l) e C :=
 Fin.q hi (dok hd hN) hg h (by rw [putS hd]; exact next)
theorem F.qg {j d1 : Nat} {b b1 : Bool} (hq : (ops[i]?, o.dst, Nat.blt d N, o.guard, (ops[j]?).bind (·.dst), look e d1) = (some o, some d, true, some (j, b), some d1, some (.bool b1))) (hb : b1 = b) (h : Runs P N e C o v) (next : FinF P ops N Q l ((d, v) :: e) C) : FinF P ops N Q (i :: l) e C := by
 simp only [Prod.mk.injEq] at hq
 exact F.q hq.1 hq.2.1 hq.2.2.1 (wg hq.2.2.2.1 hq.2.2.2.2.1 hq.2.2.2.2.2 hb) h next
theorem F.qn (hq : (ops[i]?, o.dst, Nat.blt d N, o.guard) = (some o, some d, true, none)) (h : Runs P N e C o v) (next : FinF P ops N Q l ((d, v) :: e) C) : FinF P ops N Q (i :: l) e C := by
 simp only [Prod.mk.injEq] at hq
 exact F.q hq.1 hq.2.1 hq.2.2.1 (wanted_none hq.2.2.2) h next
theorem F.sk (hi : ops[i]? = some o) (hd : o.dst = some d) (hN : Nat.blt d N = true) (hg : Wanted ops N e o false) (next : FinF P ops N Q l ((d, undef) :: e) C) : FinF P ops N Q (i :: l) e C :=
 Fin.sk hi (dok hd hN) hg (by rw [putS hd]; exact next)
theorem F.skf {j d1 : Nat} {b b1 : Bool} (hq : (ops[i]?, o.dst, Nat.blt d N, o.guard, (ops[j]?).bind (·.dst), look e d1) = (some o, some d, true, some (j, b), some d1, some (.bool b1))) (hb : b1 = !b) (next : FinF P ops N Q l ((d, undef) :: e) C) : FinF P ops N Q (i :: l) e C := by
 simp only [Prod.mk.injEq] at hq
 exact F.sk hq.1 hq.2.1 hq.2.2.1 (wf hq.2.2.2.1 hq.2.2.2.2.1 hq.2.2.2.2.2 hb) next
theorem F.qc {w0 : World} {M : Nat → Prop} {rs : List Res} (hi : ops[i]? = some o) (hd : o.dst = some d) (hN : Nat.blt d N = true) (hg : W ops N e o) (h : ∀ a w, Has N a e → Sep w0 M rs w → fine P o a w (fun u w' => u = v ∧ Ext w w'))
  (next : FinF P ops N Q l ((d, v) :: e) (Sep w0 M rs)) : FinF P ops N Q (i :: l) e (Sep w0 M rs) :=
 Fin.qc Sep.up hi (dok hd hN) hg h (by rw [putS hd]; exact next)
theorem F.qcn {w0 : World} {M : Nat → Prop} {rs : List Res} (hq : (ops[i]?, o.dst, Nat.blt d N, o.guard) = (some o, some d, true, none)) (h : ∀ a w, Has N a e → Sep w0 M rs w → fine P o a w (fun u w' => u = v ∧ Ext w w'))
  (next : FinF P ops N Q l ((d, v) :: e) (Sep w0 M rs)) : FinF P ops N Q (i :: l) e (Sep w0 M rs) := by
 simp only [Prod.mk.injEq] at hq
 exact F.qc hq.1 hq.2.1 hq.2.2.1 (wanted_none hq.2.2.2) h next
theorem F.m (hi : ops[i]? = some o) (hd : o.dst = some d) (hN : Nat.blt d N = true) (hg : W ops N e o) (h : Makes P N e C o K)
  (next : ∀ u C', K u C' → FinF P ops N Q l ((d, u) :: e) C') : FinF P ops N Q (i :: l) e C :=
 Fin.ef hi (dok hd hN) hg h.does (fun u C' hk => by rw [putS hd]; exact next u C' hk)
theorem F.mn (hq : (ops[i]?, o.dst, Nat.blt d N, o.guard) = (some o, some d, true, none)) (h : Makes P N e C o K)
  (next : ∀ u C', K u C' → FinF P ops N Q l ((d, u) :: e) C') : FinF P ops N Q (i :: l) e C := by
 simp only [Prod.mk.injEq] at hq
 exact F.m hq.1 hq.2.1 hq.2.2.1 (wanted_none hq.2.2.2) h next
theorem F.ef (hi : ops[i]? = some o) (hd : o.dst = some d) (hN : Nat.blt d N = true) (hg : W ops N e o) (h : Does P N e C o K)
  (next : ∀ u C', K u C' → FinF P ops N Q l ((d, u) :: e) C') : FinF P ops N Q (i :: l) e C :=
 Fin.ef hi (dok hd hN) hg h (fun u C' hk => by rw [putS hd]; exact next u C' hk)
theorem F.efn (hq : (ops[i]?, o.dst, Nat.blt d N, o.guard) = (some o, some d, true, none)) (h : Does P N e C o K)
  (next : ∀ u C', K u C' → FinF P ops N Q l ((d, u) :: e) C') : FinF P ops N Q (i :: l) e C := by
 simp only [Prod.mk.injEq] at hq
 exact F.ef hq.1 hq.2.1 hq.2.2.1 (wanted_none hq.2.2.2) h next
theorem F.ef0 (hi : ops[i]? = some o) (hd : o.dst = none) (hg : W ops N e o) (h : Does P N e C o K)
  (next : ∀ u C', K u C' → FinF P ops N Q l e C') : FinF P ops N Q (i :: l) e C :=
 Fin.ef hi (dok0 hd) hg h (fun u C' hk => by rw [put0 hd]; exact next u C' hk)
theorem F.nil (h : Nrm N Q e C) : FinF P ops N Q [] e C := h

abbrev SF (P : Program) (ops : Array Oper) (N : Nat) (Q : Exit → Act → World → Prop) (fin : List Nat) (r : List (Nat × Bool)) (e : Env) (C : World → Prop) := Str P ops N Ext (FinF P ops N Q fin) r e C
theorem S.q {w0 : World} {M : Nat → Prop} {rs : List Res} (hi : ops[i]? = some o) (hd : o.dst = some d) (hN : Nat.blt d N = true) (hg : W ops N e o) (h : Runs P N e (Sep w0 M rs) o v) (next : SF P ops N Q fin r ((d, v) :: e) (Sep w0 M rs)) : SF P ops N Q fin ((i, true) :: r) e (Sep w0 M rs) :=
 Str.q Sep.up hi (dok hd hN) hg h (by rw [putS hd]; exact next)
theorem S.qg {j d1 : Nat} {b b1 : Bool} {w0 : World} {M : Nat → Prop} {rs : List Res} (hq : (ops[i]?, o.dst, Nat.blt d N, o.guard, (ops[j]?).bind (·.dst), look e d1) = (some o, some d, true, some (j, b), some d1, some (.bool b1))) (hb : b1 = b) (h : Runs P N e (Sep w0 M rs) o v) (next : SF P ops N Q fin r ((d, v) :: e) (Sep w0 M rs)) : SF P ops N Q fin ((i, true) :: r) e (Sep w0 M rs) := by
 simp only [Prod.mk.injEq] at hq
 exact S.q hq.1 hq.2.1 hq.2.2.1 (wg hq.2.2.2.1 hq.2.2.2.2.1 hq.2.2.2.2.2 hb) h next
theorem S.qn {w0 : World} {M : Nat → Prop} {rs : List Res} (hq : (ops[i]?, o.dst, Nat.blt d N, o.guard) = (some o, some d, true, none)) (h : Runs P N e (Sep w0 M rs) o v) (next : SF P ops N Q fin r ((d, v) :: e) (Sep w0 M rs)) : SF P ops N Q fin ((i, true) :: r) e (Sep w0 M rs) := by
 simp only [Prod.mk.injEq] at hq
 exact S.q hq.1 hq.2.1 hq.2.2.1 (wanted_none hq.2.2.2) h next
theorem S.sk {w0 : World} {M : Nat → Prop} {rs : List Res} (hi : ops[i]? = some o) (hd : o.dst = some d) (hN : Nat.blt d N = true) (hg : Wanted ops N e o false) (next : SF P ops N Q fin r ((d, undef) :: e) (Sep w0 M rs)) : SF P ops N Q fin ((i, true) :: r) e (Sep w0 M rs) :=
 Str.sk Sep.up hi (dok hd hN) hg (by rw [putS hd]; exact next)
theorem S.skf {j d1 : Nat} {b b1 : Bool} {w0 : World} {M : Nat → Prop} {rs : List Res} (hq : (ops[i]?, o.dst, Nat.blt d N, o.guard, (ops[j]?).bind (·.dst), look e d1) = (some o, some d, true, some (j, b), some d1, some (.bool b1))) (hb : b1 = !b) (next : SF P ops N Q fin r ((d, undef) :: e) (Sep w0 M rs)) : SF P ops N Q fin ((i, true) :: r) e (Sep w0 M rs) := by
 simp only [Prod.mk.injEq] at hq
 exact S.sk hq.1 hq.2.1 hq.2.2.1 (wf hq.2.2.2.1 hq.2.2.2.2.1 hq.2.2.2.2.2 hb) next
theorem S.qc {w0 : World} {M : Nat → Prop} {rs : List Res} (hi : ops[i]? = some o) (hd : o.dst = some d) (hN : Nat.blt d N = true) (hg : W ops N e o) (h : ∀ a w, Has N a e → Sep w0 M rs w → fine P o a w (fun u w' => u = v ∧ Ext w w'))
  (next : SF P ops N Q fin r ((d, v) :: e) (Sep w0 M rs)) : SF P ops N Q fin ((i, true) :: r) e (Sep w0 M rs) :=
 Str.qc Sep.up hi (dok hd hN) hg h (by rw [putS hd]; exact next)
theorem S.qcn {w0 : World} {M : Nat → Prop} {rs : List Res} (hq : (ops[i]?, o.dst, Nat.blt d N, o.guard) = (some o, some d, true, none)) (h : ∀ a w, Has N a e → Sep w0 M rs w → fine P o a w (fun u w' => u = v ∧ Ext w w'))
  (next : SF P ops N Q fin r ((d, v) :: e) (Sep w0 M rs)) : SF P ops N Q fin ((i, true) :: r) e (Sep w0 M rs) := by
 simp only [Prod.mk.injEq] at hq
 exact S.qc hq.1 hq.2.1 hq.2.2.1 (wanted_none hq.2.2.2) h next
theorem S.m (hi : ops[i]? = some o) (hd : o.dst = some d) (hN : Nat.blt d N = true) (hg : W ops N e o) (h : Makes P N e C o K)
  (next : ∀ u C', K u C' → SF P ops N Q fin r ((d, u) :: e) C') : SF P ops N Q fin ((i, false) :: r) e C :=
 Str.m hi (dok hd hN) hg h (fun u C' hk => by rw [putS hd]; exact next u C' hk)

abbrev BF (P : Program) (ops : Array Oper) (N : Nat) (B : World → Prop) (Q : Exit → Act → World → Prop) (fin : List Nat) (r : List (Nat × Bool)) (e : Env) (C : World → Prop) := Str P ops N (Keep B) (FinF P ops N Q fin) r e C
theorem B.q {w0 : World} {M : Nat → Prop} {rs : List Res} (hi : ops[i]? = some o) (hd : o.dst = some d) (hN : Nat.blt d N = true) (hg : W ops N e o) (h : Runs P N e (Sep w0 M rs) o v) (next : BF P ops N (Sep w0 M rs) Q fin r ((d, v) :: e) (Sep w0 M rs)) : BF P ops N (Sep w0 M rs) Q fin ((i, true) :: r) e (Sep w0 M rs) :=
 StrB.q Sep.up (fun _ h => h) hi (dok hd hN) hg h (by rw [putS hd]; exact next)
theorem B.sk {w0 : World} {M : Nat → Prop} {rs : List Res} (hi : ops[i]? = some o) (hd : o.dst = some d) (hN : Nat.blt d N = true) (hg : Wanted ops N e o false) (next : BF P ops N (Sep w0 M rs) Q fin r ((d, undef) :: e) (Sep w0 M rs)) : BF P ops N (Sep w0 M rs) Q fin ((i, true) :: r) e (Sep w0 M rs) :=
 StrB.sk Sep.up (fun _ h => h) hi (dok hd hN) hg (by rw [putS hd]; exact next)
theorem B.qc {w0 : World} {M : Nat → Prop} {rs : List Res} (hi : ops[i]? = some o) (hd : o.dst = some d) (hN : Nat.blt d N = true) (hg : W ops N e o) (h : ∀ a w, Has N a e → Sep w0 M rs w → fine P o a w (fun u w' => u = v ∧ Ext w w'))
  (next : BF P ops N (Sep w0 M rs) Q fin r ((d, v) :: e) (Sep w0 M rs)) : BF P ops N (Sep w0 M rs) Q fin ((i, true) :: r) e (Sep w0 M rs) :=
 StrB.qc Sep.up (fun _ h => h) hi (dok hd hN) hg h (by rw [putS hd]; exact next)
theorem B.ef {B : World → Prop} (hi : ops[i]? = some o) (hd : o.dst = some d) (hN : Nat.blt d N = true) (hg : W ops N e o) (h : Does P N e C o K) (hK : ∀ u C', K u C' → upC C' ∧ ∀ w, C' w → B w)
  (next : ∀ u C', K u C' → BF P ops N B Q fin r ((d, u) :: e) C') : BF P ops N B Q fin ((i, false) :: r) e C :=
 StrB.ef hi (dok hd hN) hg h hK (fun u C' hk => by rw [putS hd]; exact next u C' hk)
theorem B.ef0 {B : World → Prop} (hi : ops[i]? = some o) (hd : o.dst = none) (hg : W ops N e o) (h : Does P N e C o K) (hK : ∀ u C', K u C' → upC C' ∧ ∀ w, C' w → B w)
  (next : ∀ u C', K u C' → BF P ops N B Q fin r e C') : BF P ops N B Q fin ((i, false) :: r) e C :=
 StrB.ef hi (dok0 hd) hg h hK (fun u C' hk => by rw [put0 hd]; exact next u C' hk)
theorem B.nil {B : World → Prop} (h : FinF P ops N Q fin e C) : BF P ops N B Q fin [] e C := h
theorem upd {w0 : World} {M : Nat → Prop} {rs l : List Res} {C' : World → Prop} (h : C' = Sep w0 M rs) (is : List Nat) (hl : Ga.pick rs is = some l) (hn : noDup is = true) : upC C' ∧ ∀ w, C' w → Sep w0 M l w := by
 subst h; exact ⟨Sep.up, fun w hw => hw.pick hl hn⟩
theorem Tri.drawA {id : Nat} (hm : P.follows .mixedOrders = true) (hC : upC C) (steps : List (Nat × Bool)) (fin : List Nat) (hck : checkR ops steps fin = true) (h : SF P ops N Q fin steps e C) : Tri P N Q (.region id ops true) e C := Tri.draw hm hC steps fin hck h
theorem Tri.drawB {id : Nat} (hm : P.follows .mixedOrders = true) (hC : upC C) (steps : List (Nat × Bool)) (fin : List Nat) (hck : checkR ops steps fin = true) (h : Str P ops N (Keep C) (FinF P ops N Q fin) steps e C) : Tri P N Q (.region id ops true) e C := Tri.draw hm hC steps fin hck h
theorem S.nil (h : FinF P ops N Q fin e C) : SF P ops N Q fin [] e C := h

theorem Tri.cut {c : Code} (J : Env → (World → Prop) → Prop) (h1 : ∀ e' C', J e' C' → Nrm N Q e' C') (h2 : (∀ e' C', J e' C' → Nrm N Q e' C') → Tri P N Q c e C) : Tri P N Q c e C := h2 h1
theorem Nrm.pick {w0 : World} {M : Nat → Prop} {rs l : List Res} (is : List Nat) (hl : Ga.pick rs is = some l) (hn : noDup is = true) (h : Nrm N Q e (Sep w0 M l)) : Nrm N Q e (Sep w0 M rs) :=
 fun a w ha hw => h a w ha (hw.pick hl hn)
theorem Nrm.imp {C' : World → Prop} (hc : ∀ w, C w → C' w) (h : Nrm N Q e C') : Nrm N Q e C := fun a w ha hw => h a w ha (hc w hw)
theorem Tri.imp {c : Code} {C' : World → Prop} (hc : ∀ w, C w → C' w) (h : Tri P N Q c e C') : Tri P N Q c e C := fun a w ha hw => h a w ha (hc w hw)

theorem Tri.rounds {c : Code} (I : Nat → Env → (World → Prop) → Prop) (k : Nat) (h0 : I k e C) (hz : ∀ e C, ¬ I 0 e C)
    (hs : ∀ k e C, I (k + 1) e C → (∀ e' C', I k e' C' → Rnd P N Q c k e' C') → Tri P N (Exit.then (Code.rounds P c Q k) Q) c e C) : Tri P N Q (.loop c) e C := by
  have key : ∀ k e C, I k e C → Rnd P N Q c k e C := by
    intro k
    induction k with
    | zero => intro e C h; exact absurd h (hz e C)
    | succ k ih => intro e C h; exact Rnd.succ (hs k e C h ih)
  exact Tri.loop k (key k e C h0)

theorem bind_some {α β : Type} {x : Option α} {f : α → Option β} {b : β} (h : x.bind f = some b) : ∃ a, x = some a ∧ f a = some b := by
  cases x with
  | none => cases h
  | some a => exact ⟨a, rfl, h⟩
theorem if_tt {α : Type} {b : Bool} {x y z : α} (hb : b = true) (h : (if b = true then x else y) = z) : x = z := by rwa [if_pos hb] at h
theorem if_ff {α : Type} {b : Bool} {x y z : α} (hb : b = false) (h : (if b = true then x else y) = z) : y = z := by rwa [if_neg (by simp [hb])] at h
theorem ck {α : Type} {p : Prop} [Decidable p] {x : Option α} {z : α} (h : (if p then x else none) = some z) : p ∧ x = some z := by
 by_cases hp : p
 ·rw [if_pos hp] at h; exact ⟨hp, h⟩
 ·rw [if_neg hp] at h; cases h

theorem TInfo.of {t : TypeId} {n b : Nat} {z : Value} (h : (P.info? t).map (fun i => (i.size, i.bytes, i.zero)) = some (n, b, some z)) : TInfo P t n b z := by
  cases hi : P.info? t with
  | none => rw [hi] at h; cases h
  | some i => rw [hi] at h; simp only [Option.map_some, Option.some.injEq, Prod.mk.injEq] at h; exact ⟨i, hi, h.1, h.2.1, h.2.2⟩
theorem TAgg.of {t : TypeId} {b : Bool} (h : (P.underlying t).map aggB = some b) : TAgg P t b := by
  cases hi : P.underlying t with
  | none => rw [hi] at h; cases h
  | some d => rw [hi] at h; exact ⟨d, hi, by simpa using h⟩
def fieldOf (P : Program) (t : TypeId) (i : Nat) : Option (Nat × Nat) :=
  match P.underlying t with
  | some (.struct fs) => match fs[i]? with
    | some f => (P.info? f.type).map fun inf => (f.offset, inf.size)
    | none => none
  | _ => none
theorem TField.of {t : TypeId} {i off k : Nat} (h : fieldOf P t i = some (off, k + 1)) : TField P t i off := by
  unfold fieldOf at h
  split at h
  · rename_i fs hu
    split at h
    · rename_i f hf
      cases hi : P.info? f.type with
      | none => rw [hi] at h; cases h
      | some inf =>
        rw [hi] at h
        simp only [Option.map_some, Option.some.injEq, Prod.mk.injEq] at h
        exact ⟨fs, f, k, inf, hu, hf, h.1, hi, h.2⟩
    · cases h
  · cases h
theorem CallOk.of {f : FuncId} {fn : Func} (h : P.funcs[f]? = some fn) (h1 : fn.body.isNone = false) (h2 : (fn.name == "runtime.NumGoroutine") = false) : CallOk P f := ⟨fn, h, h1, h2⟩

abbrev noM : Nat → Prop := fun _ => False
theorem Sep.ext {w0 w : World} {rs : List Res} (h : Sep w0 noM rs w) : Ext w0 w := h.kp.ext
theorem Sep.join {w0 w w' : World} {M : Nat → Prop} {rs ns : List Res} (h : Sep w0 M rs w) (k : Sep w noM ns w') : Sep w0 M (ns ++ rs) w' := by
 have h' := Sep.up _ _ h k.ext
 refine ⟨h'.kp, fun r hr => ?_, fun r hr b hb => ?_, ?_⟩
 ·rcases List.mem_append.1 hr with hr | hr
  ·exact k.ok r hr
  ·exact h'.ok r hr
 ·rcases List.mem_append.1 hr with hr | hr
  ·have := k.foot r hr b hb
   refine ⟨.inr ?_, this.2⟩
   rcases this.1 with h1 | h1
   ·exact h1.elim
   ·exact Nat.le_trans h.kp.size h1
  ·exact h'.foot r hr b hb
 ·refine List.pairwise_append.2 ⟨k.apart, h'.apart, fun r hr s hs b hb hb' => ?_⟩
  have h1 := (k.foot r hr b hb).1
  have h2 := (h.foot s hs b hb').2
  rcases h1 with h1 | h1
  ·exact h1
  ·omega
end
end Go.Ga

namespace Go.Ga
open Go
open Go.Ga.Rp (rep own)
open Go.Ga.Flat (enc)

section
variable {α : Type} [Rp α]
theorem len_set {β : Type} {v : Value} {l : List β} {i : Nat} {x : β} (h : SlLen v l.length) : SlLen v (l.set i x).length := by rw [List.length_set]; exact h
theorem len_nil : SlLen (.slice none 0 0) 0 := ⟨none, 0, rfl, fun _ => rfl⟩
theorem Sep.pushNil {w0 w : World} {M : Nat → Prop} {rs : List Res} (h : Sep w0 M rs w) : Sep w0 M (R.sl (fun _ => False) (.slice none 0 0) ([] : List α) :: rs) w :=
 h.push (Ext.refl w) (.inl ⟨rfl, rfl⟩) (fun _ hb => hb.elim)
end

section
variable {w : World} {p : Addr} {cs cs' : List Value} {u : Value} {a b c : Nat}
theorem cell_0 (h : CellsAt w p cs) (hu : cs[0]? = some u) : w.cell? p = some u := h 0 u hu
theorem cell_1 (h : CellsAt w p cs) (hu : cs[a]? = some u) : w.cell? (p.add a) = some u := h a u hu
theorem cell_2 (h : CellsAt w p cs) (hu : cs[a + b]? = some u) : w.cell? ((p.add a).add b) = some u := by rw [Addr.add_add]; exact h _ u hu
theorem cells_sub (h : CellsAt w p cs) (hs : (cs.drop a).take cs'.length = cs') : CellsAt w (p.add a) cs' := h.sub fun k u hk => by
 rw [← hs, List.getElem?_take] at hk
 split at hk
 ·rwa [List.getElem?_drop] at hk
 ·cases hk
theorem cells_1 (h : CellsAt w p cs) (hs : (cs.drop a).take cs'.length = cs') : CellsAt w (p.add a) cs' := cells_sub h hs
end

def Lr {S R X : Type} (s : S ⊕ R) (g : R → Option X) (f : S → Option X) : Option X := match s with | .inl a => f a | .inr r => g r
theorem Lr_inl {S R X : Type} {a : S} {g : R → Option X} {f : S → Option X} {x : Option X} (h : Lr (.inl a) g f = x) : f a = x := h
theorem Lr_inr {S R X : Type} {r : R} {g : R → Option X} {f : S → Option X} {x : Option X} (h : Lr (.inr r) g f = x) : g r = x := h

def Post (X : Value → List Res → Prop) (w : World) : Ending → World → Prop := fun e w' => ∃ u ns, e = .returned u ∧ X u ns ∧ Sep w noM ns w'

section
variable {P : Program} {N : Nat} {e : Env} {C : World → Prop} {Q : Exit → Act → World → Prop}
variable {d : Option Tmp} {ty : TypeId} {pos : String} {af : Array Edge} {g : Option (Nat × Bool)} {x y c : Operand} {v u : Value} {t el : TypeId} {k : Nat}
variable {w0 : World} {M : Nat → Prop} {rs : List Res}

theorem Tri.condT {o : Operand} {b : Bool} {p q : Code} (ho : opv e o = some (.bool b)) (hb : b = true) (h : Tri P N Q p e C) : Tri P N Q (.cond o p q) e C :=
 Tri.cond ho (fun _ => h) (fun h0 => by rw [hb] at h0; cases h0)
theorem Tri.condF {o : Operand} {b : Bool} {p q : Code} (ho : opv e o = some (.bool b)) (hb : b = false) (h : Tri P N Q q e C) : Tri P N Q (.cond o p q) e C :=
 Tri.cond ho (fun h0 => by rw [hb] at h0; cases h0) (fun _ => h)

theorem r_extract {vs : Array Value} (hx : opv e x = some (.tuple vs)) (hv : vs[k]? = some v) : Runs P N e C ⟨d, .extract x k, ty, pos, af, g⟩ v := fun a w ha _ => by
 simp [execOp, ha.eval hx, Instr.extract, hv]

def newSl {α : Type} [Rp α] (l : List α) (w0 : World) (M : Nat → Prop) (rs : List Res) (u : Value) (C' : World → Prop) : Prop :=
 ∃ S, SlLen u l.length ∧ C' = Sep w0 M (R.sl S u l :: rs)
theorem Makes.imp {o : Oper} {K K' : Value → (World → Prop) → Prop} (h : Makes P N e C o K) (hk : ∀ u C', K u C' → ∃ C'', K' u C'' ∧ upC C'' ∧ ∀ w, C' w → C'' w) : Makes P N e C o K' :=
 fun a w ha hw => (h a w ha hw).mono fun u w' ⟨h1, C', _, h3, h4⟩ => by
  obtain ⟨C'', g1, g2, g3⟩ := hk u C' h4
  exact ⟨h1, C'', g2, g3 w' h3, g1⟩
theorem m_build0 {α : Type} [Rp α] {parts : Array (Nat × Operand)} {n by' : Nat} {z : Value} (hu : P.underlying t = some (.slice el)) (hi : TInfo P el n by' z) (hp : parts = #[] := by rfl) :
  Makes P N e (Sep w0 M rs) ⟨d, .buildSlice t 0 parts, ty, pos, af, g⟩ (newSl ([] : List α) w0 M rs) := by
 subst hp
 refine (m_build (vs := []) hu hi rfl rfl rfl (by intro v hv; cases hv) (by simp)).imp ?_
 rintro u C' ⟨b, rfl, rfl⟩
 exact ⟨_, ⟨fun k => k = b, ⟨_, _, rfl, fun h => by cases h⟩, rfl⟩, Sep.up, fun w hw => sl_of_box0 (i := 0) rfl w hw⟩
theorem m_buildF {α : Type} [Rp α] [Flat α] {l : List α} {parts : Array (Nat × Operand)} {vs : List Value} {by' m : Nat} {z : Value} (hu : P.underlying t = some (.slice el)) (hi : TInfo P el (Rp.n α) by' z)
  (hp : opvs e (parts.toList.map (·.2)) = some vs) (hm : vs.length = m) (hl : l.length = m) (hix : parts.toList.map (·.1) = List.range m) (hn : vs.map (fun v => v.cells.toList) = l.map enc) (hs : m * Rp.n α ≤ 16777216 := by decide) :
  Makes P N e (Sep w0 M rs) ⟨d, .buildSlice t m parts, ty, pos, af, g⟩ (newSl l w0 M rs) := by
 have hcells : vs.flatMap (fun v => v.cells.toList) = encs l := by
  unfold encs
  rw [List.flatMap_def, hn, List.flatMap_def]
 refine (m_build hu hi hp hm hix (fun v hv => ?_) (Nat.ble_eq_true_of_le hs)).imp ?_
 ·have : v.cells.toList ∈ vs.map (fun v => v.cells.toList) := List.mem_map.2 ⟨v, hv, rfl⟩
  rw [hn] at this
  obtain ⟨x, _, hx⟩ := List.mem_map.1 this
  rw [← hx, enc_len]
 ·rintro u C' ⟨b, rfl, rfl⟩
  refine ⟨_, ⟨fun k => k = b, ⟨_, _, by rw [hl], fun h => by cases h⟩, rfl⟩, Sep.up, fun w hw => ?_⟩
  have := sl_of_box (i := 0) (l := l) (b := b) (T := el) rfl hcells w hw
  rw [hl] at this; exact this

theorem m_make {α : Type} [Rp α] [Flat α] {x0 : α} {n : Int} {by' : Nat} {z : Value} (hu : P.underlying t = some (.slice el)) (hi : TInfo P el (Rp.n α) by' z) (hx : opv e x = some (.int .i64 n)) (hy : opv e y = some (.int .i64 n)) (hz : z.cells.toList = enc x0)
    (h0 : 0 ≤ n) (h1 : n < 1099511627776) (hby : by' ≤ 120) : Makes P N e (Sep w0 M rs) ⟨d, .makeSlice t x y, ty, pos, af, g⟩ (newSl (List.replicate n.toNat x0) w0 M rs) :=
  m_of fun a w ha hw => by
    obtain ⟨inf, g1, g2, g3, g4⟩ := hi
    obtain ⟨m, rfl⟩ := Int.eq_ofNat_of_zero_le h0
    have hm : m < 1099511627776 := by omega
    have hti : (typeInfo el).run P w = .ok inf w := by simp [typeInfo, g1]
    have hzv : (zeroValue el).run P w = .ok z w := by simp [zeroValue, hti, g4]
    have hsz : (sizeOf el).run P w = .ok (Rp.n α) w := by simp [sizeOf, hti, g2]
    have hwr : IntKind.i64.wrap (m : Int) = m := by rw [IntKind.wrap_i64]; omega
    have hbig : ¬ (281474976710656 < (inf.bytes : Int) * m) := by
      have : inf.bytes * m ≤ 120 * 1099511627776 := Nat.mul_le_mul (by omega) (by omega)
      have h2 : (inf.bytes : Int) * m = ((inf.bytes * m : Nat) : Int) := by simp
      rw [h2]; omega
    have hroom1 : ∀ (m : Nat) (w' : World), (askRoom m).run P w' = .ok () w' := fun m w' => by
      unfold askRoom; split <;> simp [mark, Sem.run]
    have hzs : z.cells.size = Rp.n α := by
      have := congrArg List.length hz; rw [enc_len] at this; simpa using this
    have hcells : (Array.range (m * Rp.n α)).map (z.cells[· % z.cells.size]!) = (encs (List.replicate m x0)).toArray := by
      have key : ∀ j, j < m * Rp.n α → (encs (List.replicate m x0))[j]? = (enc x0)[j % Rp.n α]? := by
        intro j hj
        have hpos : 0 < Rp.n α := by rcases Nat.eq_zero_or_pos (Rp.n α) with h | h; · (rw [h] at hj; omega)
                                     · exact h
        have h1 := encs_part (List.replicate m x0) (j / Rp.n α) x0 [] [] (by
          rw [List.getElem?_replicate, if_pos (Nat.div_lt_of_lt_mul (by rwa [Nat.mul_comm]))])
        simp only [List.nil_append, List.append_nil, List.length_nil, Nat.zero_add] at h1
        rw [← h1, List.getElem?_take, if_pos (Nat.mod_lt _ hpos), List.getElem?_drop]
        congr 1
        have := Nat.div_add_mod j (Rp.n α); rw [Nat.mul_comm] at this; exact this.symm
      refine Array.ext_getElem? fun j => ?_
      rcases Nat.lt_or_ge j (m * Rp.n α) with hj | hj
      · have hpos : 0 < Rp.n α := by rcases Nat.eq_zero_or_pos (Rp.n α) with h | h; · (rw [h] at hj; omega)
                                     · exact h
        have hlt : j % z.cells.size < z.cells.size := by rw [hzs]; exact Nat.mod_lt _ hpos
        have e1 : z.cells[j % z.cells.size]? = (enc x0)[j % Rp.n α]? := by rw [← hz, hzs]; simp
        have e2 := key j hj
        rw [← e1] at e2
        simp [hj, hlt] at e2 ⊢
        exact e2.symm
      · have e2 : (encs (List.replicate m x0))[j]? = none := List.getElem?_eq_none (by rw [encs_length, List.length_replicate]; exact hj)
        simp [hj] at e2 ⊢
        omega
    refine ⟨.slice (some ⟨w.heap.size, 0, none⟩) m m, w.alloc (.cells (encs (List.replicate m x0)).toArray el), ?_, ext_alloc w _, _, Sep.up, ?_, fun k => k = w.heap.size, ⟨some ⟨w.heap.size, 0, none⟩, m, by simp, fun h => by cases h⟩, rfl⟩
    · have hmk : (Instr.makeSlice t (.int .i64 m) (.int .i64 m)).run P w = .ok (.slice (some ⟨w.heap.size, 0, none⟩) m m) (w.alloc (.cells (encs (List.replicate m x0)).toArray el)) := by
        unfold Instr.makeSlice
        have hneg : ¬ ((m : Int) < 0) := by omega
        by_cases h0 : m * Rp.n α = 0
        · have he : (encs (List.replicate m x0)) = [] := List.eq_nil_of_length_eq_zero (by rw [encs_length, List.length_replicate]; exact h0)
          simp [run_underlying hu, asInt, asIntOf, hti, hwr, hbig, hroom1, hsz, h0, hneg, newRow, newObj, Sem.run, he]
          have hr0 : Array.range 0 = #[] := Array.eq_empty_of_size_eq_zero (by simp)
          simp [hr0]
        · simp [run_underlying hu, asInt, asIntOf, hti, hwr, hbig, hroom1, hsz, h0, hneg, newRow, newObj, Sem.run, hzv, hcells]
      simp [execOp, ha.eval hx, ha.eval hy, hmk]
    · have h1 := sep_new (T := el) (cs := encs (List.replicate m x0)) hw
      have h2 := sl_of_box (i := 0) (l := List.replicate m x0) (b := w.heap.size) (T := el) rfl rfl _ h1
      simpa using h2

def setSl (i : Nat) {α : Type} [Rp α] (S : Nat → Prop) (v : Value) (l : List α) (w0 : World) (M : Nat → Prop) (rs : List Res) (u : Value) (C' : World → Prop) : Prop :=
 u = undef ∧ C' = Sep w0 M (rs.set i (R.sl S v l))
theorem d_storeE {α : Type} [Rp α] [Flat α] [Leafy α] {by' i : Nat} {z v2 : Value} {l : List α} {S : Nat → Prop} {j : Int} {x0 x1 : α} (hi : TInfo P t (Rp.n α) by' z) (hx : opv e x = some (.pointer (some (slAddr v (Rp.n α) j)))) (hy : opv e y = some v2)
  (hr : rs[i]? = some (R.sl S v l)) (hj : 0 ≤ j ∧ j < l.length ∧ l[j.toNat]? = some x0) (hv : v2.cells.toList = enc x1) :
  Does P N e (Sep w0 M rs) ⟨d, .store t x y, ty, pos, af, g⟩ (setSl i S v (l.set j.toNat x1) w0 M rs) :=
 d_of fun a w ha hw => by
  have hown : SlOwn w S v l := hw.get hr
  obtain ⟨h0, h1, h2⟩ := hj
  have hjl : j.toNat < l.length := by omega
  rcases slOwn_open hown with ⟨rfl, rfl⟩ | ⟨b, off, cap, T, pre, post, g1, rfl, g3, g4, g5, g6⟩
  ·simp at hjl
  ·have hsplit : l = l.take j.toNat ++ x0 :: l.drop (j.toNat + 1) := by
    have h3 := (List.getElem?_eq_some_iff.1 h2).2
    rw [← h3, ← List.drop_eq_getElem_cons hjl, List.take_append_drop]
   have hset : l.set j.toNat x1 = l.take j.toNat ++ x1 :: l.drop (j.toNat + 1) := List.set_eq_take_append_cons_drop .. |>.trans (if_pos hjl)
   have hnl : (l.take j.toNat).length = j.toNat := by simp; omega
   have he : encs l = encs (l.take j.toNat) ++ (enc x0 ++ encs (l.drop (j.toNat + 1))) := by
    rw [show encs l = encs (l.take j.toNat ++ x0 :: l.drop (j.toNat + 1)) by rw [← hsplit], encs_append]; simp [encs]
   have hes : encs (l.set j.toNat x1) = encs (l.take j.toNat) ++ (enc x1 ++ encs (l.drop (j.toNat + 1))) := by
    rw [hset, encs_append]; simp [encs]
   have hpl : (pre ++ encs (l.take j.toNat)).length = off + j.toNat * Rp.n α := by rw [List.length_append, encs_length, hnl, g4]
   have hsp : pre ++ encs l ++ post = (pre ++ encs (l.take j.toNat)) ++ (enc x0 ++ (encs (l.drop (j.toNat + 1)) ++ post)) := by rw [he]; simp [List.append_assoc]
   obtain ⟨w', q1, q2, q3, q4⟩ := run_storeCells (P := P) (off0 := off + j.toNat * Rp.n α) (enc x1) (pre ++ encs l ++ post) 0 w g5 (by
    rw [hsp, List.length_append, hpl, List.length_append, enc_len, enc_len]; omega) (Leafy.all x1)
   rw [Nat.add_zero, hsp, ← hpl, over_spec _ _ _ (by rw [List.length_append, enc_len, enc_len]; omega), enc_len, ← enc_len x0, List.drop_left] at q3
   refine ⟨undef, w', .inr ⟨?_, rfl⟩, _, ?_, rfl, rfl⟩
   ·have hn' : v2.cells.size = Rp.n α := by
     have := congrArg List.length hv; rw [enc_len] at this; simpa using this
    simp only [slAddr, add_off] at hx
    simp [execOp, ha.eval hx, ha.eval hy, Instr.storeAt, Instr.sureAddr, storeVar, run_sizeOf hi, hn', hv, q1]
   ·refine hw.set hr (q2.mono (fun k _ hk => by subst hk; exact g1)) ?_ (fun b hb => ⟨.inl hb, by rw [q4]; exact (hw.foot _ (List.mem_of_getElem? hr) b hb).2⟩)
    have := slOwn_block (S := S) (pre := pre) (off := off) (cap := cap) (l := l.set j.toNat x1) (b := b) (w := w') (T := T) (post := post) g1 (by
     rw [q3, hes]; simp [List.append_assoc]) g4 (by rw [List.length_set]; exact g3) (by
     simp only [List.length_append, encs_length, List.length_set] at g6 ⊢; exact g6)
    rw [List.length_set] at this; exact this

variable {fo : Operand} {ats : Array TypeId} {xs : List Operand} {vs : List Value} {caps : Array Value} {f : FuncId} {o : Oper}
theorem q_callF (ho : o = ⟨d, .call ⟨.value fo, xs.toArray, ats⟩, ty, pos, af, g⟩) (hf : CallOk P f) (hfo : opv e fo = some (.func (.func f) #[] #[])) (hxs : opvs e xs = some vs)
  (h : ∀ w, C w → Calls P f vs.toArray w (fun e w' => e = .returned v ∧ Ext w w')) : ∀ a w, Has N a e → C w → fine P o a w (fun u w' => u = v ∧ Ext w w') :=
 q_call ho hf hfo hxs (fun w hw => by simpa using h w hw)
theorem q_callC (ho : o = ⟨d, .call ⟨.value fo, xs.toArray, ats⟩, ty, pos, af, g⟩) (hf : CallOk P f) (hfo : opv e fo = some (.func (.func f) #[] caps)) (hxs : opvs e xs = some vs)
  (h : ∀ w, C w → Calls P f (vs ++ caps.toList).toArray w (fun e w' => e = .returned v ∧ Ext w w')) : ∀ a w, Has N a e → C w → fine P o a w (fun u w' => u = v ∧ Ext w w') :=
 q_call ho hf hfo hxs h
theorem m_callF {X : Value → List Res → Prop} (ho : o = ⟨d, .call ⟨.value fo, xs.toArray, ats⟩, ty, pos, af, g⟩) (hf : CallOk P f) (hfo : opv e fo = some (.func (.func f) #[] #[])) (hxs : opvs e xs = some vs)
  (h : ∀ w, Sep w0 M rs w → Calls P f vs.toArray w (Post X w)) : Makes P N e (Sep w0 M rs) o (fun u C' => ∃ ns, X u ns ∧ C' = Sep w0 M (ns ++ rs)) :=
 m_call ho hf hfo hxs (fun w hw => by
  have := h w hw
  simp only [List.append_nil]
  exact this.mono fun e w' ⟨u, ns, h1, h2, h3⟩ => ⟨u, h1, h3.ext, _, Sep.up, hw.join h3, ns, h2, rfl⟩)
end
end Go.Ga
namespace Go.Ga
open Go
open Go.Ga.Rp (rep own)
open Go.Ga.Flat (enc)

theorem sl_cells {v : Value} {n : Nat} (h : SlLen v n) : v.cells.toList = [v] := by obtain ⟨a, c, rfl, _⟩ := h; rfl
theorem sl_leaf {v : Value} {n : Nat} (h : SlLen v n) : isLeaf v = true := by obtain ⟨a, c, rfl, _⟩ := h; rfl
def Leaves (cs : List Value) : Prop := ∀ v ∈ cs, isLeaf v = true
theorem lf_nil : Leaves [] := fun _ h => by cases h
theorem lf_cons {v : Value} {cs : List Value} (h : isLeaf v = true) (k : Leaves cs) : Leaves (v :: cs) := fun u hu => by
  cases hu with
  | head => exact h
  | tail _ hu => exact k u hu
theorem Leaves.all {cs : List Value} (h : Leaves cs) : cs.all isLeaf = true := List.all_eq_true.2 h

section
variable {P : Program} {N : Nat} {e : Env} {C : World → Prop} {Q : Exit → Act → World → Prop}
variable {d : Option Tmp} {ty : TypeId} {pos : String} {af : Array Edge} {g : Option (Nat × Bool)} {x y c : Operand} {v u : Value} {t el : TypeId} {k : Nat}
variable {w0 : World} {M : Nat → Prop} {rs : List Res}
theorem d_storeG0 {n by' i b : Nat} {z : Value} {T : TypeId} {cs cs2 : List Value} (hi : TInfo P t n by' z) (hx : opv e x = some (.pointer (some ⟨b, 0, none⟩))) (hy : opv e y = some v)
  (hr : rs[i]? = some (R.box b T cs)) (hc : v.cells.toList = cs2) (hn : cs2.length = n) (hle : 0 + n ≤ cs.length) (hv : Leaves cs2) :
  Does P N e (Sep w0 M rs) ⟨d, .store t x y, ty, pos, af, g⟩ (setBox i b T (over cs 0 cs2) w0 M rs) := by
 subst hc; exact d_store hi hx hy hr hn hle hv.all
theorem d_storeG1 {n by' i b a : Nat} {z : Value} {T : TypeId} {cs cs2 : List Value} (hi : TInfo P t n by' z) (hx : opv e x = some (.pointer (some ((⟨b, 0, none⟩ : Addr).add a)))) (hy : opv e y = some v)
  (hr : rs[i]? = some (R.box b T cs)) (hc : v.cells.toList = cs2) (hn : cs2.length = n) (hle : a + n ≤ cs.length) (hv : Leaves cs2) :
  Does P N e (Sep w0 M rs) ⟨d, .store t x y, ty, pos, af, g⟩ (setBox i b T (over cs a cs2) w0 M rs) := by
 subst hc; rw [add_off, Nat.zero_add] at hx; exact d_store hi hx hy hr hn hle hv.all
theorem m_boxG {cs : List Value} (hx : opv e x = some v) (hc : v.cells.toList = cs) : Makes P N e (Sep w0 M rs) ⟨d, .box t x, ty, pos, af, g⟩ (newBox t cs w0 M rs) := by
 subst hc; exact m_box hx

theorem cell_dynB {w : World} {p : Addr} {cs : List Value} {l : List Int} {i : Int} {j : Int} (h : CellsAt w p cs) (hc : cs = l.map (fun z => .int .i64 z)) (hi : rdl l i = some j) : w.cell? (p.add (i.toNat * 1)) = some (.int .i64 j) := by
 subst hc
 refine h _ _ ?_
 rw [Nat.mul_one, List.getElem?_map, (rdl_some hi).2.2]; rfl
theorem set3 {a b c z i : Int} (h0 : 0 ≤ i) (h1 : i < 3) : [a, b, c].set i.toNat z = [if i = 0 then z else a, if i = 1 then z else b, if i = 2 then z else c] := by
 rcases (by omega : i = 0 ∨ i = 1 ∨ i = 2) with rfl | rfl | rfl <;> rfl
theorem d_storeDyn {by' i b : Nat} {z : Value} {T : TypeId} {l l' : List Int} {j m : Int} {n0 : Int} (hi : TInfo P t 1 by' z) (hx : opv e x = some (.pointer (some ((⟨b, 0, none⟩ : Addr).add (j.toNat * 1))))) (hy : opv e y = some (.int .i64 m))
  (hr : rs[i]? = some (R.box b T (l.map fun z => .int .i64 z))) (hj : rdl l j = some n0) (hl : l.set j.toNat m = l') :
  Does P N e (Sep w0 M rs) ⟨d, .store t x y, ty, pos, af, g⟩ (setBox i b T (l'.map fun z => .int .i64 z) w0 M rs) := by
 have h2 := rdl_some hj
 have h3 := d_storeG1 (cs2 := [.int .i64 m]) hi hx hy hr rfl rfl (by rw [Nat.mul_one, List.length_map]; omega) (lf_cons rfl lf_nil) (d := d) (ty := ty) (pos := pos) (af := af) (g := g) (N := N) (M := M) (w0 := w0)
 rw [Nat.mul_one] at h3
 have h4 : over (l.map fun z => Value.int .i64 z) j.toNat [.int .i64 m] = l'.map fun z => .int .i64 z := by
  simp only [over]; rw [← hl, List.map_set]
 rw [h4] at h3; exact h3

def overAll (cs : List Value) : List (Nat × List Value) → List Value
  | [] => cs
  | (off, vs) :: r => overAll (over cs off vs) r
inductive Parts (place : Nat → Option (Nat × Nat)) (N : Nat) : List (Nat × Value) → List (Nat × List Value) → Prop
  | nil : Parts place N [] []
  | cons {i off : Nat} {v : Value} {cs : List Value} {ps : List (Nat × Value)} {qs : List (Nat × List Value)} : v.cells.toList = cs → place i = some (off, cs.length) → off + cs.length ≤ N → Parts place N ps qs → Parts place N ((i, v) :: ps) ((off, cs) :: qs)
theorem fill_parts {place : Nat → Option (Nat × Nat)} {M : Nat} : ∀ {ps : List (Nat × Value)} {qs : List (Nat × List Value)} {cs : List Value}, Parts place M ps qs → cs.length = M → Instr.fill place cs.toArray ps = some (overAll cs qs).toArray
  | _, _, cs, .nil, _ => by simp [Instr.fill, overAll]
  | _, _, cs, .cons (i := i) (off := off) (v := v) (cs := vs) h1 h2 h3 h4, hl => by
    subst h1
    have hsz : v.cells.toList.length = v.cells.size := by simp
    rw [hsz] at h3 h2
    simp only [Instr.fill, h2]
    have hno : ¬ ((decide (v.cells.size ≠ v.cells.size) || decide (off + v.cells.size > cs.toArray.size)) = true) := by
      have hs2 : cs.toArray.size = M := by simp [hl]
      rw [hs2]; simp; omega
    rw [if_neg (by simpa using hno)]
    have h5 := foldl_over off v.cells.toList 0 cs
    rw [Nat.add_zero] at h5
    have h6 : (v.cells.zipIdx.foldl (fun cs (p : Value × Nat) => cs.setIfInBounds (off + p.2) p.1) cs.toArray) = (over cs off v.cells.toList).toArray := by
      rw [← h5, ← Array.foldl_toList]; simp
    rw [h6]
    exact fill_parts h4 (by rw [over_length]; exact hl)
def placesOf (P : Program) (t : TypeId) : Option (List (Nat × Nat)) :=
  match P.underlying t with
  | some (.struct fs) => fs.toList.mapM fun f => (P.info? f.type).map fun i => (f.offset, i.size)
  | _ => none
theorem run_places {w : World} : ∀ {fs : List Field} {pl : List (Nat × Nat)}, fs.mapM (fun f => (P.info? f.type).map fun i => (f.offset, i.size)) = some pl →
    (fs.mapM (m := Sem) fun f => do pure (f.offset, ← sizeOf f.type)).run P w = .ok pl w
  | [], pl, h => by simp at h; subst h; simp
  | f :: fs, pl, h => by
    simp only [List.mapM_cons] at h
    cases h1 : P.info? f.type with
    | none => simp [h1] at h
    | some i =>
      simp only [h1, Option.map_some] at h
      cases h2 : fs.mapM (fun f => (P.info? f.type).map fun i => (f.offset, i.size)) with
      | none => simp [h2] at h
      | some q =>
        simp [h2] at h; subst h
        have ih := run_places (w := w) h2
        have hs : (sizeOf f.type).run P w = .ok i.size w := by simp [sizeOf, typeInfo, h1]
        simp only [List.mapM_cons, Sem.run_bind, hs, Result.andThen_ok, Sem.run_pure, ih]
theorem r_build {n by' : Nat} {z : Value} {parts : Array (Nat × Operand)} {pl : List (Nat × Nat)} {vs : List Value} {qs : List (Nat × List Value)} {cs : List Value} (hpl : placesOf P t = some pl) (hi : TInfo P t n by' z)
  (hp : opvs e (parts.toList.map (·.2)) = some vs) (hq : Parts (pl.toArray[·]?) n ((parts.toList.map (·.1)).zip vs) qs) (hz : z.cells.toList.length = n) (hcs : overAll z.cells.toList qs = cs) :
  Runs P N e C ⟨d, .build t parts, ty, pos, af, g⟩ (.agg cs.toArray) := fun a w ha _ => by
 subst hcs
 unfold placesOf at hpl
 split at hpl
 ·rename_i fs hu
  have h1 := run_places (P := P) (w := w) hpl
  have h2 : (fs.mapM (m := Sem) fun f => do pure (f.offset, ← sizeOf f.type)).run P w = .ok pl.toArray w := by
   rw [← Array.toArray_toList (xs := fs), List.mapM_toArray, map_eq_pure_bind, Sem.run_bind, h1]; simp
  have h3 : (parts.map fun (i, x) => (i, a.eval x)).toList = (parts.toList.map (·.1)).zip vs := by
   have := ha.evals hp
   rw [← this]; simp [List.zip_map', List.map_map, Function.comp_def]
  have h4 := fill_parts hq hz
  rw [Array.toArray_toList] at h4
  simp only [execOp, Instr.build, Sem.run_bind, run_zeroValue hi, Result.andThen_ok, Sem.run_pure, run_underlying hu, h2, h3, h4]
 ·cases hpl
end
end Go.Ga

namespace Go.Ga
open Go
open Go.Ga.Rp (rep own)
open Go.Ga.Flat (enc)
section
variable {P : Program} {N : Nat} {e : Env} {C : World → Prop} {Q : Exit → Act → World → Prop}
variable {d : Option Tmp} {ty : TypeId} {pos : String} {af : Array Edge} {g : Option (Nat × Bool)} {x y c : Operand} {v u : Value} {t el : TypeId} {k : Nat}
variable {w0 : World} {M : Nat → Prop} {rs : List Res}

theorem CellsAt.ext {w w' : World} {p : Addr} {cs : List Value} (h : CellsAt w p cs) (k : Ext w w') : CellsAt w' p cs := fun j v hj => by
 have h1 := h j v hj
 have hb : (p.add j).block < w.heap.size := by
  unfold World.cell? at h1
  split at h1
  ·exact block_lt ‹_›
  ·cases h1
 have h2 : w'.cell? (p.add j) = w.cell? (p.add j) := by unfold World.cell?; rw [k.block _ hb]
 rw [h2]; exact h1
theorem CellsAt.sep {w0 w : World} {rs : List Res} {p : Addr} {cs : List Value} (h : CellsAt w0 p cs) (k : Sep w0 noM rs w) : CellsAt w p cs := h.ext k.ext

theorem r_eqlN {n : Nat} (hu : P.underlying t = some (.slice el)) (hx : opv e x = some v) (hy : opv e y = some (.slice none 0 0)) (hv : ∃ a c, v = .slice (some a) n c) {t' : TypeId} : Runs P N e C ⟨d, .binOp .eql t x y t', ty, pos, af, g⟩ (.bool false) := fun a w ha _ => by
 obtain ⟨p, c, rfl⟩ := hv
 have hq : (Op.equal t (.slice (some p) n c) (.slice none 0 0)).run P w = .ok false w := by
  have : ∀ k, (Op.equalIn (k + 1) t (.slice (some p) n c) (.slice none 0 0)).run P w = .ok false w := fun k => by simp [Op.equalIn, run_underlying hu]
  exact this 9999
 simp [execOp, ha.eval hx, ha.eval hy, eqGuard, binOp, hq]
theorem r_eqlNN (hu : P.underlying t = some (.slice el)) (hx : opv e x = some (.slice none 0 0)) (hy : opv e y = some (.slice none 0 0)) {t' : TypeId} : Runs P N e C ⟨d, .binOp .eql t x y t', ty, pos, af, g⟩ (.bool true) := fun a w ha _ => by
 have hq : (Op.equal t (.slice none 0 0) (.slice none 0 0)).run P w = .ok true w := by
  have : ∀ k, (Op.equalIn (k + 1) t (.slice none 0 0) (.slice none 0 0)).run P w = .ok true w := fun k => by simp [Op.equalIn, run_underlying hu]
  exact this 9999
 simp [execOp, ha.eval hx, ha.eval hy, eqGuard, binOp, hq]
theorem Rd.cases {α : Type} [Rp α] {w : World} {v : Value} {l : List α} (h : Rd w v l) : (v = .slice none 0 0 ∧ l = []) ∨ ∃ a c, v = .slice (some a) l.length c := by
 rcases h with h | ⟨a, h, h'⟩ | ⟨b, off, cap, C, T, fr, _, h2, _⟩
 ·exact .inl h
 ·subst h'; exact .inr ⟨_, _, h⟩
 ·exact .inr ⟨_, _, h2⟩

def slSub (v : Value) (n lo hi : Nat) : Value := match v with | .slice a _ c => .slice (if c = lo then a else a.map (·.add (lo * n))) (hi - lo) (c - lo) | v => v
end
end Go.Ga
namespace Go.Ga
open Go
open Go.Ga.Rp (rep own)
open Go.Ga.Flat (enc)
theorem Runs.does {P : Program} {N : Nat} {e : Env} {C : World → Prop} {o : Oper} {v : Value} (h : Runs P N e C o v) : Does P N e C o (fun u C' => u = v ∧ C' = C) := fun a w ha hw => by
 unfold Ga.fine; rw [h a w ha hw]; exact ⟨C, hw, rfl, rfl⟩
end Go.Ga

namespace Go.Ga
open Go
open Go.Ga.Rp (rep own)
open Go.Ga.Flat (enc)
def slc {α : Type} (l : List α) (lo hi : Int) : Option (List α) := if 0 ≤ lo ∧ lo ≤ hi ∧ hi ≤ l.length then some ((l.take hi.toNat).drop lo.toNat) else none
theorem slc_some {α : Type} {l x : List α} {lo hi : Int} (h : slc l lo hi = some x) : 0 ≤ lo ∧ lo ≤ hi ∧ hi ≤ l.length ∧ x = (l.take hi.toNat).drop lo.toNat := by
 unfold slc at h; split at h
 ·rename_i h1; exact ⟨h1.1, h1.2.1, h1.2.2, (Option.some.inj h).symm⟩
 ·cases h
theorem slc_length {α : Type} {l x : List α} {lo hi : Int} (h : slc l lo hi = some x) : x.length = hi.toNat - lo.toNat := by
 obtain ⟨h1, h2, h3, rfl⟩ := slc_some h
 simp; omega
section
variable {α : Type} [Rp α]
theorem sub_get {β : Type} {l : List β} {x : β} {lo hi i : Nat} (h : ((l.take hi).drop lo)[i]? = some x) : lo + i < hi ∧ l[lo + i]? = some x := by
 rw [List.getElem?_drop, List.getElem?_take] at h
 split at h
 ·exact ⟨by omega, h⟩
 ·cases h
theorem part_off {C : Array Value} {off lo i n : Nat} : part C (off + lo * n + i * n) n = part C (off + (lo + i) * n) n := by rw [Nat.add_assoc, ← Nat.add_mul]
theorem SlRep.sub {w : World} {S : Nat → Prop} {v : Value} {l : List α} {lo hi : Nat} (h : SlRep w S v l) (h1 : lo ≤ hi) (h2 : hi ≤ l.length) : SlRep w S (slSub v (Rp.n α) lo hi) ((l.take hi).drop lo) := by
 rcases h with ⟨rfl, rfl⟩ | ⟨a, rfl, rfl⟩ | ⟨b, off, cap, C, T, fr, hb, rfl, hl, hC, hsz, he⟩
 ·obtain rfl : hi = 0 := by simpa using h2
  obtain rfl : lo = 0 := by omega
  exact .inl ⟨rfl, by simp⟩
 ·obtain rfl : hi = 0 := by simpa using h2
  obtain rfl : lo = 0 := by omega
  exact .inr (.inl ⟨a, rfl, by simp⟩)
 ·have hlen : ((l.take hi).drop lo).length = hi - lo := by simp; omega
  by_cases hc : cap = lo
  ·refine .inr (.inl ⟨⟨b, off, none⟩, ?_, List.length_eq_zero_iff.1 (by rw [hlen]; omega)⟩)
   have e1 : hi - lo = 0 := by omega
   have e2 : cap - lo = 0 := by omega
   simp [slSub, hc, e1]
  ·refine .inr (.inr ⟨b, off + lo * Rp.n α, cap - lo, C, T, fr, hb, ?_, by rw [hlen]; omega, hC, ?_, ?_⟩)
   ·simp [slSub, hc, add_off, hlen]
   ·have : lo * Rp.n α + (cap - lo) * Rp.n α = cap * Rp.n α := by rw [← Nat.add_mul]; congr 1; omega
    omega
   ·intro i x hx
    have := sub_get hx
    rw [part_off]; exact he _ x this.2
theorem SlOwn.sub {w : World} {S : Nat → Prop} {v : Value} {l : List α} {lo hi : Nat} (h : SlOwn w S v l) (h1 : lo ≤ hi) (h2 : hi ≤ l.length) : SlOwn w S (slSub v (Rp.n α) lo hi) ((l.take hi).drop lo) := by
 rcases h with ⟨rfl, rfl⟩ | ⟨b, off, cap, C, T, hb, rfl, hl, hC, hsz, f, hf, hg, he⟩
 ·obtain rfl : hi = 0 := by simpa using h2
  obtain rfl : lo = 0 := by omega
  exact .inl ⟨rfl, by simp⟩
 ·have hlen : ((l.take hi).drop lo).length = hi - lo := by simp; omega
  by_cases hc : cap = lo
  ·refine .inr ⟨b, off, 0, C, T, hb, ?_, by rw [hlen]; omega, hC, by omega, fun _ _ => False, fun _ _ _ _ h => h.elim, fun _ _ h => h.elim, ?_⟩
   ·simp [slSub, hc, hlen]
   ·intro i x hx
    have := sub_get hx
    omega
  ·refine .inr ⟨b, off + lo * Rp.n α, cap - lo, C, T, hb, ?_, by rw [hlen]; omega, hC, ?_, fun i c => f (lo + i) c, fun i j c hij => hf _ _ c (by omega), fun i c => hg _ c, ?_⟩
   ·simp [slSub, hc, add_off, hlen]
   ·have : lo * Rp.n α + (cap - lo) * Rp.n α = cap * Rp.n α := by rw [← Nat.add_mul]; congr 1; omega
    omega
   ·intro i x hx
    have := sub_get hx
    rw [part_off]; exact he _ x this.2
theorem rd_slc {w : World} {v : Value} {l x : List α} {lo hi : Int} (h : Rd w v l) (hx : slc l lo hi = some x) : Rd w (slSub v (Rp.n α) lo.toNat hi.toNat) x := by
 obtain ⟨h1, h2, h3, rfl⟩ := slc_some hx
 exact SlRep.sub h (by omega) (by omega)
end
section
variable {P : Program} {N : Nat} {e : Env} {C : World → Prop}
variable {d : Option Tmp} {ty : TypeId} {pos : String} {af : Array Edge} {g : Option (Nat × Bool)} {x y y' : Operand} {v u : Value} {t el : TypeId}
theorem Rd.shape {β : Type} [Rp β] {w : World} {l : List β} (h : Rd w v l) : ∃ a c, v = .slice a l.length c ∧ l.length ≤ c := by
 rcases h with ⟨rfl, rfl⟩ | ⟨a, rfl, rfl⟩ | ⟨b, off, cap, C, T, fr, _, rfl, hl, _⟩
 ·exact ⟨_, _, rfl, Nat.le_refl _⟩
 ·exact ⟨_, _, rfl, Nat.le_refl _⟩
 ·exact ⟨_, _, rfl, hl⟩
theorem r_sliceL {β : Type} [Rp β] {l r : List β} {n by' : Nat} {z : Value} {lo : Int} (hu : P.underlying t = some (.slice el)) (ht : TInfo P el n by' z) (hx : opv e x = some v) (hr : ∀ w, C w → Rd w v l) (hy : opv e y = some (.int .i64 lo))
  (h : slc l lo (l.length : Int) = some r) : Runs P N e C ⟨d, .slice t x (some y) none none, ty, pos, af, g⟩ (slSub v n lo.toNat (l.length : Int).toNat) := fun a w ha hc => by
 obtain ⟨p, cap, rfl, hcap⟩ := (hr w hc).shape
 obtain ⟨h1, h2, h3, _⟩ := slc_some h
 obtain ⟨lo, rfl⟩ := Int.eq_ofNat_of_zero_le h1
 have e2 : lo ≤ l.length := by omega
 simp [execOp, ha.eval hx, ha.eval hy, Instr.sliceAt, Instr.slice, Instr.sliceBounds, Instr.sliceBound, asIntOf, run_underlying hu, run_sizeOf ht, e2, slSub]
theorem r_sliceH {β : Type} [Rp β] {l r : List β} {n by' : Nat} {z : Value} {hi : Int} (hu : P.underlying t = some (.slice el)) (ht : TInfo P el n by' z) (hx : opv e x = some v) (hr : ∀ w, C w → Rd w v l) (hy' : opv e y' = some (.int .i64 hi))
  (h : slc l 0 hi = some r) : Runs P N e C ⟨d, .slice t x none (some y') none, ty, pos, af, g⟩ (slSub v n (0 : Int).toNat hi.toNat) := fun a w ha hc => by
 obtain ⟨p, cap, rfl, hcap⟩ := (hr w hc).shape
 obtain ⟨h1, h2, h3, _⟩ := slc_some h
 obtain ⟨hi, rfl⟩ := Int.eq_ofNat_of_zero_le (show 0 ≤ hi by omega)
 have e1 : hi ≤ cap := by omega
 simp [execOp, ha.eval hx, ha.eval hy', Instr.sliceAt, Instr.slice, Instr.sliceBounds, Instr.sliceBound, asIntOf, run_underlying hu, run_sizeOf ht, e1, slSub]
end
end Go.Ga
namespace Go.Ga
open Go
section
variable {P : Program} {N : Nat} {e : Env} {C : World → Prop}
variable {d : Option Tmp} {ty : TypeId} {pos : String} {af : Array Edge} {g : Option (Nat × Bool)} {x y : Operand} {v u : Value} {t el : TypeId}
end
end Go.Ga

namespace Go.Ga
open Go
open Go.Ga.Rp (rep own)
open Go.Ga.Flat (enc)
def footM (cs : List Res) : Nat → Prop := fun b => ∃ r ∈ cs, r.foot b
section
variable {α : Type} [Rp α] {w0 w : World} {M : Nat → Prop} {rs cs rest ns : List Res} {v : Value} {l : List α} {w' : World}
theorem Sep.sub (h : Sep w0 M (cs ++ rest) w) : Sep w (footM cs) cs w :=
 ⟨Kp.refl _ _, fun r hr => h.ok r (List.mem_append_left _ hr), fun r hr b hb => ⟨.inl ⟨r, hr, hb⟩, (h.foot r (List.mem_append_left _ hr) b hb).2⟩, (List.pairwise_append.1 h.apart).1⟩
theorem Sep.back (h : Sep w0 M (cs ++ rest) w) (k : Sep w (footM cs) ns w') : Sep w0 M (ns ++ rest) w' := by
 have hap := List.pairwise_append.1 h.apart
 have hrest : ∀ r ∈ rest, ∀ b, r.foot b → b < w.heap.size ∧ ¬ footM cs b := fun r hr b hb =>
  ⟨(h.foot r (List.mem_append_right _ hr) b hb).2, fun ⟨s, hs, hb'⟩ => hap.2.2 s hs r hr b hb' hb⟩
 refine ⟨⟨k.kp.os.trans h.kp.os, k.kp.tape.trans h.kp.tape, k.kp.output.trans h.kp.output, Nat.le_trans h.kp.size k.kp.size, Nat.le_trans h.kp.drawn k.kp.drawn, fun b hb hm => ?_⟩, fun r hr => ?_, fun r hr b hb => ?_, ?_⟩
 ·rw [k.kp.block b (Nat.lt_of_lt_of_le hb h.kp.size) (fun ⟨s, hs, hb'⟩ => ?_)]
  ·exact h.kp.block b hb hm
  ·rcases (h.foot s (List.mem_append_left _ hs) b hb').1 with h1 | h1
   ·exact hm h1
   ·omega
 ·rcases List.mem_append.1 hr with hr | hr
  ·exact k.ok r hr
  ·exact r.st w w' (h.ok r (List.mem_append_right _ hr)) (fun b hb => k.kp.block b (hrest r hr b hb).1 (hrest r hr b hb).2)
 ·rcases List.mem_append.1 hr with hr | hr
  ·have := k.foot r hr b hb
   refine ⟨?_, this.2⟩
   rcases this.1 with ⟨s, hs, h1⟩ | h1
   ·exact (h.foot s (List.mem_append_left _ hs) b h1).1
   ·exact .inr (Nat.le_trans h.kp.size h1)
  ·have := h.foot r (List.mem_append_right _ hr) b hb
   exact ⟨this.1, Nat.lt_of_lt_of_le this.2 k.kp.size⟩
 ·refine List.pairwise_append.2 ⟨k.apart, hap.2.1, fun r hr s hs b hb hb' => ?_⟩
  have h1 := (k.foot r hr b hb).1
  have h2 := hrest s hs b hb'
  rcases h1 with h1 | h1
  ·exact h2.2 h1
  ·omega
end
def PostM (M : Nat → Prop) (X : Value → List Res → Prop) (w : World) : Ending → World → Prop := fun e w' => ∃ u ns, e = .returned u ∧ X u ns ∧ Sep w M ns w'
section
variable {P : Program} {N : Nat} {e : Env} {d : Option Tmp} {ty : TypeId} {pos : String} {af : Array Edge} {g : Option (Nat × Bool)} {o : Oper}
variable {w0 : World} {M : Nat → Prop} {rs cs rest : List Res} {fo : Operand} {xs : List Operand} {vs : List Value} {ats : Array TypeId} {f : FuncId}
theorem d_callM {X : Value → List Res → Prop} (is js : List Nat) (ho : o = ⟨d, .call ⟨.value fo, xs.toArray, ats⟩, ty, pos, af, g⟩) (hf : CallOk P f) (hfo : opv e fo = some (.func (.func f) #[] #[])) (hxs : opvs e xs = some vs)
  (hp : Ga.pick rs (is ++ js) = some (cs ++ rest)) (hn : noDup (is ++ js) = true)
  (h : ∀ w, Sep w0 M (cs ++ rest) w → Calls P f vs.toArray w (PostM (footM cs) X w)) : Does P N e (Sep w0 M rs) o (fun u C' => ∃ ns, X u ns ∧ C' = Sep w0 M (ns ++ rest)) := by
 refine d_call ho hf hfo hxs (fun w hw => ?_)
 have hw' := hw.pick hp hn
 simp only [List.append_nil]
 exact (h w hw').mono fun e w' ⟨u, ns, h1, h2, h3⟩ => ⟨u, h1, _, hw'.back h3, ns, h2, rfl⟩
end
end Go.Ga
namespace Go.Ga
open Go
section
variable {P : Program} {N : Nat} {e : Env} {o : Oper} {C C' : World → Prop} {K : Value → (World → Prop) → Prop}
end
end Go.Ga
namespace Go.Ga
open Go
open Go.Ga.Rp (rep own)
open Go.Ga.Flat (enc)
section
variable {P : Program} {N : Nat} {e : Env}
variable {d : Option Tmp} {ty : TypeId} {pos : String} {af : Array Edge} {g : Option (Nat × Bool)} {x y : Operand} {v u : Value} {t : TypeId}
variable {w0 : World} {M : Nat → Prop} {rs : List Res}
theorem d_storeP {α : Type} [Rp α] [Flat α] {by' i k : Nat} {z u' : Value} {l : List α} {S : Nat → Prop} {j : Int} {x0 x1 : α} (hi : TInfo P t 1 by' z) (hx : opv e x = some (.pointer (some ((slAddr v (Rp.n α) j).add k)))) (hy : opv e y = some u)
  (hr : rs[i]? = some (R.sl S v l)) (hj : 0 ≤ j ∧ j < l.length ∧ l[j.toNat]? = some x0) (hv : u.cells.toList = [u']) (hk : k < Rp.n α) (hen : enc x1 = (enc x0).set k u') (hlf : [u'].all isLeaf = true) :
  Does P N e (Sep w0 M rs) ⟨d, .store t x y, ty, pos, af, g⟩ (setSl i S v (l.set j.toNat x1) w0 M rs) :=
 d_of fun a w ha hw => by
  have hown : SlOwn w S v l := hw.get hr
  obtain ⟨h0, h1, h2⟩ := hj
  have hjl : j.toNat < l.length := by omega
  rcases slOwn_open hown with ⟨rfl, rfl⟩ | ⟨b, off, cap, T, pre, post, g1, rfl, g3, g4, g5, g6⟩
  ·simp at hjl
  ·have hsplit : l = l.take j.toNat ++ x0 :: l.drop (j.toNat + 1) := by
    have h3 := (List.getElem?_eq_some_iff.1 h2).2
    rw [← h3, ← List.drop_eq_getElem_cons hjl, List.take_append_drop]
   have hset : l.set j.toNat x1 = l.take j.toNat ++ x1 :: l.drop (j.toNat + 1) := List.set_eq_take_append_cons_drop .. |>.trans (if_pos hjl)
   have hnl : (l.take j.toNat).length = j.toNat := by simp; omega
   have hkl : k < (enc x0).length := by rw [enc_len]; exact hk
   have hcut : enc x0 = (enc x0).take k ++ (enc x0)[k] :: (enc x0).drop (k + 1) := by rw [← List.drop_eq_getElem_cons hkl, List.take_append_drop]
   have hcut' : enc x1 = (enc x0).take k ++ u' :: (enc x0).drop (k + 1) := hen.trans (List.set_eq_take_append_cons_drop .. |>.trans (if_pos hkl))
   have he : encs l = encs (l.take j.toNat) ++ (enc x0 ++ encs (l.drop (j.toNat + 1))) := by
    rw [show encs l = encs (l.take j.toNat ++ x0 :: l.drop (j.toNat + 1)) by rw [← hsplit], encs_append]; simp [encs]
   have hes : encs (l.set j.toNat x1) = encs (l.take j.toNat) ++ (enc x1 ++ encs (l.drop (j.toNat + 1))) := by
    rw [hset, encs_append]; simp [encs]
   have hpl : (pre ++ encs (l.take j.toNat) ++ (enc x0).take k).length = off + j.toNat * Rp.n α + k := by
    rw [List.length_append, List.length_append, encs_length, hnl, g4, List.length_take]; omega
   have hsp : pre ++ encs l ++ post = (pre ++ encs (l.take j.toNat) ++ (enc x0).take k) ++ ((enc x0)[k] :: ((enc x0).drop (k + 1) ++ (encs (l.drop (j.toNat + 1)) ++ post))) := by
    have hc3 : ∀ tl, enc x0 ++ tl = (enc x0).take k ++ ((enc x0)[k] :: ((enc x0).drop (k + 1) ++ tl)) := fun tl => by
     have := congrArg (· ++ tl) hcut; simpa only [List.append_assoc, List.cons_append] using this
    rw [he]; simp only [List.append_assoc]; rw [hc3]
   obtain ⟨w', q1, q2, q3, q4⟩ := run_storeCells (P := P) (off0 := off + j.toNat * Rp.n α + k) [u'] (pre ++ encs l ++ post) 0 w g5 (by
    rw [hsp, List.length_append, hpl]; simp) hlf
   rw [Nat.add_zero, hsp, ← hpl, over_spec _ _ _ (by simp)] at q3
   simp only [List.length_singleton, List.drop_succ_cons, List.drop_zero] at q3
   refine ⟨undef, w', .inr ⟨?_, rfl⟩, _, ?_, rfl, rfl⟩
   ·have hn' : u.cells.size = 1 := by
     have := congrArg List.length hv; simpa using this
    simp only [slAddr, add_off] at hx
    simp [execOp, ha.eval hx, ha.eval hy, Instr.storeAt, Instr.sureAddr, storeVar, run_sizeOf hi, hn', hv, q1]
   ·refine hw.set hr (q2.mono (fun k _ hk => by subst hk; exact g1)) ?_ (fun b hb => ⟨.inl hb, by rw [q4]; exact (hw.foot _ (List.mem_of_getElem? hr) b hb).2⟩)
    have := slOwn_block (S := S) (pre := pre) (off := off) (cap := cap) (l := l.set j.toNat x1) (b := b) (w := w') (T := T) (post := post) g1 (by
     rw [q3, hes, hcut']; simp [List.append_assoc]) g4 (by rw [List.length_set]; exact g3) (by
     simp only [List.length_append, encs_length, List.length_set] at g6 ⊢; exact g6)
    rw [List.length_set] at this; exact this
end
end Go.Ga
namespace Go.Ga
open Go
open Go.Ga.Flat (enc)
theorem setV3 {a b c z i : Int} (h0 : 0 ≤ i) (h1 : i < 3) : enc ((if i = 0 then z else a, if i = 1 then z else b, if i = 2 then z else c) : Int × Int × Int) = (enc ((a, b, c) : Int × Int × Int)).set (i.toNat * 1) (.int .i64 z) := by
 rcases (by omega : i = 0 ∨ i = 1 ∨ i = 2) with rfl | rfl | rfl <;> rfl
theorem dlt {i : Int} {n : Nat} (h0 : 0 ≤ i) (h1 : i < n) : i.toNat * 1 < n := by omega
end Go.Ga

namespace Go.Ga
open Go
set_option linter.unusedVariables false
inductive Tre where
  | nil : Tre
  | stop : Tre
  | q : Nat → Tre → Tre
  | alt : Nat → Tre → Tre → Tre
section
variable {P : Program} {ops : Array Oper} {Q : Exit → Act → World → Prop} {N : Nat} {St : World → World → Prop}
def StrT (P : Program) (ops : Array Oper) (N : Nat) (St : World → World → Prop) (F : Env → (World → Prop) → Prop) : Tre → Env → (World → Prop) → Prop
  | .nil, e, C => F e C
  | .stop, _, _ => True
  | .q i t, e, C => ∃ o v, ops[i]? = some o ∧ dstOk N o = true ∧ (∃ Cy, (∀ w, C w → Cy w) ∧ upC Cy ∧ (∀ w w', Cy w → St w w' → Cy w') ∧ (∀ w w', Cy w → Ext w w' → St w w') ∧ Quiet P ops N e Cy o v) ∧ StrT P ops N St F t (putE o.dst v e) C
  | .alt i t r, e, C => (∃ o, ops[i]? = some o ∧ dstOk N o = true ∧ Wanted ops N e o true ∧
      ∀ w, C w → ∀ a, Has N a e → fine P o a w (fun u w' => St w w' ∧ StrT P ops N St F t (putE o.dst u e) (Ext w'))) ∧ StrT P ops N St F r e C
theorem StrT.anti {F : Env → (World → Prop) → Prop} (hF : ∀ e C C', (∀ w, C' w → C w) → F e C → F e C') : ∀ {t : Tre} {e : Env} {C C' : World → Prop}, (∀ w, C' w → C w) → StrT P ops N St F t e C → StrT P ops N St F t e C'
  | .nil, e, C, C', hc, h => hF e C C' hc h
  | .stop, _, _, _, _, _ => trivial
  | .q i t, e, C, C', hc, ⟨o, v, h1, h2, ⟨Cy, h3, h4⟩, h5⟩ => ⟨o, v, h1, h2, ⟨Cy, fun w hw => h3 w (hc w hw), h4⟩, StrT.anti hF hc h5⟩
  | .alt i t r, e, C, C', hc, ⟨⟨o, h1, h2, h3, h4⟩, h5⟩ => ⟨⟨o, h1, h2, h3, fun w hw => h4 w (hc w hw)⟩, StrT.anti hF hc h5⟩
end
section
variable {P : Program} {N : Nat} {Q : Exit → Act → World → Prop} {e : Env} {C : World → Prop} {ops : Array Oper} {i d : Nat} {o : Oper} {v : Value} {t r : Tre} {fin : List Nat}
variable {K : Value → (World → Prop) → Prop}
abbrev TF (P : Program) (ops : Array Oper) (N : Nat) (B : World → Prop) (Q : Exit → Act → World → Prop) (fin : List Nat) (t : Tre) (e : Env) (C : World → Prop) := StrT P ops N (Keep B) (FinF P ops N Q fin) t e C
theorem T.q {w0 : World} {M : Nat → Prop} {rs : List Res} (hi : ops[i]? = some o) (hd : o.dst = some d) (hN : Nat.blt d N = true) (hg : W ops N e o) (h : Runs P N e (Sep w0 M rs) o v) (next : TF P ops N (Sep w0 M rs) Q fin t ((d, v) :: e) (Sep w0 M rs)) : TF P ops N (Sep w0 M rs) Q fin (.q i t) e (Sep w0 M rs) :=
 ⟨o, v, hi, dok hd hN, ⟨_, fun _ h => h, Sep.up, fun _ _ _ h => h, fun w w' h k => Sep.up w w' h k, .inl ⟨hg, fun _ _ ha hw => h.fine ha hw⟩⟩, by rw [putS hd]; exact next⟩
theorem T.sk {w0 : World} {M : Nat → Prop} {rs : List Res} (hi : ops[i]? = some o) (hd : o.dst = some d) (hN : Nat.blt d N = true) (hg : Wanted ops N e o false) (next : TF P ops N (Sep w0 M rs) Q fin t ((d, undef) :: e) (Sep w0 M rs)) : TF P ops N (Sep w0 M rs) Q fin (.q i t) e (Sep w0 M rs) :=
 ⟨o, undef, hi, dok hd hN, ⟨_, fun _ h => h, Sep.up, fun _ _ _ h => h, fun w w' h k => Sep.up w w' h k, .inr ⟨hg, rfl⟩⟩, by rw [putS hd]; exact next⟩
theorem T.qc {w0 : World} {M : Nat → Prop} {rs : List Res} (hi : ops[i]? = some o) (hd : o.dst = some d) (hN : Nat.blt d N = true) (hg : W ops N e o) (h : ∀ a w, Has N a e → Sep w0 M rs w → fine P o a w (fun u w' => u = v ∧ Ext w w'))
  (next : TF P ops N (Sep w0 M rs) Q fin t ((d, v) :: e) (Sep w0 M rs)) : TF P ops N (Sep w0 M rs) Q fin (.q i t) e (Sep w0 M rs) :=
 ⟨o, v, hi, dok hd hN, ⟨_, fun _ h => h, Sep.up, fun _ _ _ h => h, fun w w' h k => Sep.up w w' h k, .inl ⟨hg, h⟩⟩, by rw [putS hd]; exact next⟩
theorem T.ef {B : World → Prop} (hi : ops[i]? = some o) (hd : o.dst = some d) (hN : Nat.blt d N = true) (hg : W ops N e o) (h : Does P N e C o K) (hK : ∀ u C', K u C' → upC C' ∧ ∀ w, C' w → B w)
  (next : ∀ u C', K u C' → TF P ops N B Q fin t ((d, u) :: e) C') (other : TF P ops N B Q fin r e C) : TF P ops N B Q fin (.alt i t r) e C :=
 ⟨⟨o, hi, dok hd hN, hg, fun w hw a ha => (h a w ha hw).mono fun u w' ⟨C', h3, h4⟩ => ⟨(hK u C' h4).2 w' h3, by rw [putS hd]; exact StrT.anti finF_anti (fun w'' hw'' => (hK u C' h4).1 w' w'' h3 hw'') (next u C' h4)⟩⟩, other⟩
theorem T.ef0 {B : World → Prop} (hi : ops[i]? = some o) (hd : o.dst = none) (hg : W ops N e o) (h : Does P N e C o K) (hK : ∀ u C', K u C' → upC C' ∧ ∀ w, C' w → B w)
  (next : ∀ u C', K u C' → TF P ops N B Q fin t e C') (other : TF P ops N B Q fin r e C) : TF P ops N B Q fin (.alt i t r) e C :=
 ⟨⟨o, hi, dok0 hd, hg, fun w hw a ha => (h a w ha hw).mono fun u w' ⟨C', h3, h4⟩ => ⟨(hK u C' h4).2 w' h3, by rw [put0 hd]; exact StrT.anti finF_anti (fun w'' hw'' => (hK u C' h4).1 w' w'' h3 hw'') (next u C' h4)⟩⟩, other⟩
theorem T.nil {B : World → Prop} (h : FinF P ops N Q fin e C) : TF P ops N B Q fin .nil e C := h
end
end Go.Ga
namespace Go.Ga
open Go
section
variable {P : Program} {N : Nat} {Q : Exit → Act → World → Prop} {e : Env} {C : World → Prop} {ops : Array Oper} {i d : Nat} {o : Oper} {v : Value} {t r : Tre} {fin : List Nat}
end
end Go.Ga

namespace Go.Ga
open Go
open Go.Ga.Rp (rep own)
open Go.Ga.Flat (enc)
set_option linter.unusedVariables false
section
variable {w0 w : World} {M : Nat → Prop} {rs cs rest ns : List Res}
end
section
variable {α : Type} [Rp α]
variable {w0 w : World} {M : Nat → Prop} {rs cs rest ns : List Res} {S : Nat → Prop} {v : Value} {l : List α} {i : Nat} {cells : List Value} {x y : α}
end
section
variable {P : Program} {N : Nat} {Q : Exit → Act → World → Prop} {e : Env} {C : World → Prop} {c : Code} {K : (World → Prop) → Prop}
variable {α : Type} [Rp α] {w0 : World} {M : Nat → Prop} {rs cs rest : List Res} {S : Nat → Prop} {v : Value} {l : List α} {i : Nat} {cells : List Value} {y : α}
end
section
variable {α : Type} [Rp α] {w0 : World} {M : Nat → Prop} {rs cs rest : List Res} {S S0 : Nat → Prop} {v : Value} {l : List α} {i : Nat} {cells : List Value} {y : α}
end
section
variable {P : Program} {N : Nat} {e : Env}
variable {d : Option Tmp} {ty : TypeId} {pos : String} {af : Array Edge} {g : Option (Nat × Bool)} {x y : Operand} {v u : Value} {t el : TypeId}
variable {w0 : World} {M : Nat → Prop} {rs : List Res}
end
end Go.Ga
namespace Go.Ga
open Go
open Go.Ga.Rp (rep own)
open Go.Ga.Flat (enc)
set_option linter.unusedVariables false

structure Raw (n : Nat) where
 cs : List Value
 len : cs.length = n
 lf : cs.all isLeaf = true
instance {n : Nat} : Rp (Raw n) := encRp n (fun x => x.cs) (fun x => x.len)
instance {n : Nat} : Flat (Raw n) := ⟨fun x => x.cs, Iff.rfl, Iff.rfl⟩
instance {n : Nat} : Leafy (Raw n) := ⟨fun x => x.lf⟩
class OwnLeaf (α : Type) [Rp α] : Prop where
 lf : ∀ {w : World} {S : Nat → Prop} {cs : List Value} {x : α}, own w S cs x → cs.all isLeaf = true
instance : OwnLeaf Int := ⟨fun h => by rw [Flat.own_iff.1 h]; rfl⟩
instance : OwnLeaf Bool := ⟨fun h => by rw [Flat.own_iff.1 h]; rfl⟩
instance : OwnLeaf ByteArray := ⟨fun h => by rw [Flat.own_iff.1 h]; rfl⟩
instance {α : Type} [Rp α] : OwnLeaf (List α) := ⟨fun h => by
 obtain ⟨v, rfl, h | ⟨b, off, cap, C, T, h1, rfl, _⟩⟩ := h
 ·rw [h.1]; rfl
 ·rfl⟩
instance {α β : Type} [Rp α] [Rp β] [OwnLeaf α] [OwnLeaf β] : OwnLeaf (α × β) := ⟨fun ⟨c1, c2, h, S1, S2, _, _, _, h1, h2⟩ => by
 rw [h, List.all_append, OwnLeaf.lf h1, OwnLeaf.lf h2]; rfl⟩
section
variable {α : Type} [Rp α]
variable {w0 w : World} {M : Nat → Prop} {rs cs rest : List Res} {S : Nat → Prop} {v : Value} {l l2 : List α} {L L2 : List (Raw (Rp.n α))} {x : α}
end
section
variable {P : Program} {N : Nat} {e : Env} {C : World → Prop} {o : Oper} {K K' : Value → (World → Prop) → Prop}
theorem Does.post (h : Does P N e C o K) (hk : ∀ u C', K u C' → ∃ C'', (∀ w, C' w → C'' w) ∧ K' u C'') : Does P N e C o K' := fun a w ha hw => (h a w ha hw).mono fun u w' ⟨C', h1, h2⟩ => by
 obtain ⟨C'', h3, h4⟩ := hk u C' h2
 exact ⟨C'', h3 w' h1, h4⟩
variable {d : Option Tmp} {ty : TypeId} {pos : String} {af : Array Edge} {g : Option (Nat × Bool)} {x y : Operand} {v u : Value} {t el : TypeId}
variable {w0 : World} {M : Nat → Prop} {rs cs rest : List Res} {α : Type} [Rp α]
end
end Go.Ga

namespace Go.Ga
open Go
open Go.Ga.Rp (rep own)
open Go.Ga.Flat (enc)
set_option linter.unusedVariables false
theorem set_self {β : Type} {l : List β} {i : Nat} {x : β} (h : l[i]? = some x) : l.set i x = l := by
 refine List.ext_getElem? fun j => ?_
 by_cases hj : i = j
 ·subst hj; rw [List.getElem?_set_self (List.getElem?_eq_some_iff.1 h).1, h]
 ·rw [List.getElem?_set_ne hj]
section
variable {α : Type} [Rp α] [Flat α]
theorem encs_take_drop (l : List α) (i : Nat) : encs l = encs (l.take i) ++ encs (l.drop i) := by rw [← encs_append, List.take_append_drop]
theorem zeroCells_enc {z : Value} {x0 : α} (hz : z.cells.toList = enc x0) (m : Nat) : (Builtin.zeroCells z.cells m).toList = encs (List.replicate m x0) := by
  have hs : z.cells.size = Rp.n α := by have := congrArg List.length hz; rw [enc_len] at this; simpa using this
  refine List.ext_getElem? fun j => ?_
  have hlen : (Builtin.zeroCells z.cells m).toList.length = m * Rp.n α := by rw [Array.length_toList, zeroCells_size, hs]
  rcases Nat.lt_or_ge j (m * Rp.n α) with hj | hj
  · have hpos : 0 < Rp.n α := by rcases Nat.eq_zero_or_pos (Rp.n α) with h | h; · (rw [h] at hj; omega)
                                 · exact h
    have h1 := encs_part (List.replicate m x0) (j / Rp.n α) x0 [] [] (by
      rw [List.getElem?_replicate, if_pos (Nat.div_lt_of_lt_mul (by rwa [Nat.mul_comm]))])
    simp only [List.nil_append, List.append_nil, List.length_nil, Nat.zero_add] at h1
    have h2 : (encs (List.replicate m x0))[j]? = (enc x0)[j % Rp.n α]? := by
      rw [← h1, List.getElem?_take, if_pos (Nat.mod_lt _ hpos), List.getElem?_drop]
      congr 1
      have := Nat.div_add_mod j (Rp.n α); rw [Nat.mul_comm] at this; exact this.symm
    rw [h2, ← hz]
    have hlt : j % z.cells.size < z.cells.size := by rw [hs]; exact Nat.mod_lt _ hpos
    have hj' : j < m * z.cells.size := by rw [hs]; exact hj
    simp only [Builtin.zeroCells, Array.toList_map, Array.toList_range, List.getElem?_map, List.getElem?_range hj', Option.map_some, Array.getElem?_toList, ← hs]
    rw [Array.getElem?_eq_getElem hlt, getElem!_pos z.cells _ hlt]
  · rw [List.getElem?_eq_none (by omega), List.getElem?_eq_none (by rw [encs_length, List.length_replicate]; exact hj)]
end
section
variable {P : Program} {N : Nat} {e : Env}
variable {d : Option Tmp} {ty : TypeId} {pos : String} {af : Array Edge} {g : Option (Nat × Bool)} {x y y' y'' : Operand} {v u : Value} {t el : TypeId}
variable {w0 : World} {M : Nat → Prop} {rs : List Res}
theorem slSub_addr {b off cap n m lo hi : Nat} (h : lo < hi) (hc : hi ≤ cap) : slSub (.slice (some ⟨b, off, none⟩) m cap) n lo hi = .slice (some ⟨b, off + lo * n, none⟩) (hi - lo) (cap - lo) := by
 have : ¬ cap = lo := by omega
 simp [slSub, this, add_off]

def slTo (v : Value) (n : Nat) : Value := match v with | .slice a _ c => .slice a n c | v => v
def SlCap (v : Value) (n : Nat) : Prop := ∃ a c, v = .slice a n c ∧ n ≤ c
theorem SlOwn.cap {α : Type} [Rp α] {w : World} {S : Nat → Prop} {l : List α} (h : SlOwn w S v l) : SlCap v l.length := (SlOwn.rd h).shape
theorem d_appendSelf {α : Type} [Rp α] [Flat α] [Leafy α] {t' : TypeId} {by' p : Nat} {z : Value} {l r1 r2 : List α} {S : Nat → Prop} {i j : Int} (hu : P.underlying t = some (.slice el)) (hu' : P.underlying t' = some (.slice el)) (hi : TInfo P el (Rp.n α) by' z)
  (hx : opv e x = some (slSub v (Rp.n α) (0 : Int).toNat i.toNat)) (hy : opv e y = some (slSub v (Rp.n α) j.toNat (l.length : Int).toNat)) (hr : rs[p]? = some (R.sl S v l)) (h1 : slc l 0 i = some r1) (h2 : slc l j (l.length : Int) = some r2) (hij : i ≤ j) :
  Does P N e (Sep w0 M rs) ⟨d, .call ⟨.builtin .append, #[x, y], #[t, t']⟩, ty, pos, af, g⟩ (fun u C' => u = slTo v (r1 ++ r2).length ∧ C' = Sep w0 M (rs.set p (R.sl S (slTo v (r1 ++ r2).length) (r1 ++ r2)))) :=
 d_of fun a w ha hw => by
  rw [show (r1 ++ r2).length = r1.length + r2.length from List.length_append]
  obtain ⟨a1, a2, a3, e1⟩ := slc_some h1
  obtain ⟨b1, b2, b3, e2⟩ := slc_some h2
  have hown : SlOwn w S v l := hw.get hr
  have hrd2 : Rd w (slSub v (Rp.n α) j.toNat (l.length : Int).toNat) r2 := rd_slc (SlOwn.rd hown) h2
  have hl1 : r1.length = i.toNat := by rw [slc_length h1]; simp
  have hl2 : r2.length = l.length - j.toNat := by rw [slc_length h2]; simp
  have hr1 : r1 = l.take i.toNat := by rw [e1]; simp
  have hr2 : r2 = l.drop j.toNat := by rw [e2]; simp
  have hfc := firstCells_rd (P := P) hrd2
  obtain ⟨q2, c2, ev2, _⟩ := hrd2.len
  have hlen2 : (Builtin.lenOf (slSub v (Rp.n α) j.toNat (l.length : Int).toNat)).run P w = .ok r2.length w := by rw [ev2]; simp [Builtin.lenOf]
  rcases slOwn_open hown with ⟨rfl, rfl⟩ | ⟨b, off, cap, T, pre, post, g1, rfl, g3, g4, g5, g6⟩
  ·have hz1 : r1 = [] := by rw [hr1]; simp
   have hz2 : r2 = [] := by rw [hr2]; simp
   subst hz1; subst hz2
   have hi0 : i.toNat = 0 := by simpa using hl1.symm
   refine ⟨.slice none 0 0, w, .inl ?_, _, ?_, rfl, rfl⟩
   ·have hj0 : j.toNat = 0 := by simp only [List.length_nil] at b2; omega
    have hx' : opv e x = some (.slice none 0 0) := by rw [hx]; simp [slSub, hi0]
    have hsub : slSub (.slice none 0 0) (Rp.n α) j.toNat (([] : List α).length : Int).toNat = .slice none 0 0 := by simp [slSub, hj0]
    rw [hsub] at hy hfc hlen2
    have : (Builtin.append_ #[t, t'] ty #[.slice none 0 0, .slice none 0 0]).run P w = .ok (.slice none 0 0) w := by
     unfold Builtin.append_
     simp only [List.length_nil] at hfc hlen2 ⊢
     simp [run_underlying hu, run_underlying hu', run_sizeOf hi, hlen2, hfc]
    simp [execOp, resolve, invoke, builtin, ha.eval hx', ha.eval hy, this]
   ·show Sep w0 M (rs.set p (R.sl S (.slice none 0 0) ([] ++ []))) w
    have : rs.set p (R.sl S (.slice none 0 0) ([] : List α)) = rs := by rw [set_self hr]
    rw [List.append_nil, this]; exact hw
  ·have hrm : r1.length + r2.length ≤ l.length := by omega
   have hsp : pre ++ encs l ++ post = (pre ++ encs r1) ++ (encs (l.drop i.toNat) ++ post) := by
    rw [encs_take_drop l i.toNat, hr1]; simp [List.append_assoc]
   have hpl : (pre ++ encs r1).length = off + r1.length * Rp.n α := by rw [List.length_append, encs_length, g4]
   have hml : (encs r2).length ≤ (encs (l.drop i.toNat) ++ post).length := by
    have : r2.length * Rp.n α ≤ (l.length - i.toNat) * Rp.n α := Nat.mul_le_mul_right _ (by omega)
    rw [List.length_append, encs_length, encs_length, List.length_drop]; omega
   obtain ⟨w', s1, s2, s3, s4⟩ := run_storeCells (P := P) (off0 := off + r1.length * Rp.n α) (encs r2) (pre ++ encs l ++ post) 0 w g5 (by
    rw [hsp, List.length_append, hpl]; omega) (isLeaf_encs Leafy.all r2)
   rw [Nat.add_zero, hsp, ← hpl, over_spec _ _ _ hml] at s3
   have hroom : r1.length + r2.length ≤ cap := by omega
   refine ⟨.slice (some ⟨b, off, none⟩) (r1.length + r2.length) cap, w', .inl ?_, _, ?_, rfl, rfl⟩
   ·have key : (Builtin.append_ #[t, t'] ty #[slSub (.slice (some ⟨b, off, none⟩) l.length cap) (Rp.n α) (0 : Int).toNat i.toNat, slSub (.slice (some ⟨b, off, none⟩) l.length cap) (Rp.n α) j.toNat (l.length : Int).toNat]).run P w = .ok (.slice (some ⟨b, off, none⟩) (r1.length + r2.length) cap) w' := by
     have ex : slSub (.slice (some ⟨b, off, none⟩) l.length cap) (Rp.n α) (0 : Int).toNat i.toNat = .slice (some ⟨b, off, none⟩) r1.length cap := by
      by_cases hc : cap = 0
      ·simp [slSub, hc, hl1]
      ·simp [slSub, hc, add_off, hl1]
     rw [ex]
     generalize slSub (.slice (some ⟨b, off, none⟩) l.length cap) (Rp.n α) j.toNat (l.length : Int).toNat = v2 at hfc hlen2 ⊢
     unfold Builtin.append_
     simp [run_underlying hu, run_underlying hu', run_sizeOf hi, hlen2, hroom, hfc, add_off, s1]
    generalize slSub (.slice (some ⟨b, off, none⟩) l.length cap) (Rp.n α) (0 : Int).toNat i.toNat = vx at hx key
    generalize slSub (.slice (some ⟨b, off, none⟩) l.length cap) (Rp.n α) j.toNat (l.length : Int).toNat = vy at hy key
    simp [execOp, resolve, invoke, builtin, ha.eval hx, ha.eval hy, key]
   ·refine hw.set hr (s2.mono (fun k _ hk => by subst hk; exact g1)) ?_ (fun b hb => ⟨.inl hb, by rw [s4]; exact (hw.foot _ (List.mem_of_getElem? hr) b hb).2⟩)
    have := slOwn_block (S := S) (pre := pre) (off := off) (cap := cap) (l := r1 ++ r2) (b := b) (w := w') (T := T) (post := (encs (l.drop i.toNat) ++ post).drop (encs r2).length) g1 (by
     rw [s3, encs_append]; simp [List.append_assoc]) g4 (by rw [List.length_append]; exact hroom) (by
     have e3 : (encs (l.drop i.toNat)).length = (l.length - i.toNat) * Rp.n α := by rw [encs_length, List.length_drop]
     have e4 : l.length * Rp.n α = i.toNat * Rp.n α + (l.length - i.toNat) * Rp.n α := by rw [← Nat.add_mul]; congr 1; omega
     rw [hl1] at hpl
     simp only [List.length_append, List.length_drop, encs_length, Nat.add_mul, hl1] at g6 hml ⊢
     rw [e4] at g6
     omega)
    rw [List.length_append] at this; exact this
theorem r_sliceBeyond {n by' : Nat} {z : Value} {m q : Nat} (hu : P.underlying t = some (.slice el)) (ht : TInfo P el n by' z) {C : World → Prop} (hx : opv e x = some (slTo v m)) (hc : SlCap v q) (hy : opv e y = some (.int .i64 m)) (hy' : opv e y' = some (.int .i64 q)) (hmq : m ≤ q) :
  Runs P N e C ⟨d, .slice t x (some y) (some y') none, ty, pos, af, g⟩ (slSub (slTo v m) n m q) := fun a w ha _ => by
 obtain ⟨p, cap, rfl, h1⟩ := hc
 have h2 : q ≤ cap := h1
 simp [execOp, ha.eval hx, ha.eval hy, ha.eval hy', Instr.sliceAt, Instr.slice, Instr.sliceBounds, Instr.sliceBound, asIntOf, run_underlying hu, run_sizeOf ht, slTo, slSub, h2, hmq]
theorem d_clearBeyond {α : Type} [Rp α] [Flat α] [Leafy α] {by' p m q : Nat} {z : Value} {l : List α} {x0 : α} {S : Nat → Prop} (hu : P.underlying t = some (.slice el)) (hi : TInfo P el (Rp.n α) by' z) (hz : z.cells.toList = enc x0)
  (hx : opv e x = some (slSub (slTo v m) (Rp.n α) m q)) (hr : rs[p]? = some (R.sl S (slTo v m) l)) (hm : m = l.length) (hmq : m ≤ q) (hc : SlCap v q) :
  Does P N e (Sep w0 M rs) ⟨d, .call ⟨.builtin .clear, #[x], #[t]⟩, ty, pos, af, g⟩ (fun _ C' => C' = Sep w0 M rs) :=
 d_of fun a w ha hw => by
  obtain ⟨p0, cap, rfl, hcap⟩ := hc
  subst hm
  have hzc := zeroCells_enc hz (q - l.length)
  by_cases h0 : q - l.length = 0
  ·refine ⟨.tuple #[], w, .inl ?_, _, hw, rfl⟩
   have : (Builtin.clear_ #[t] ty #[slSub (slTo (.slice p0 q cap) l.length) (Rp.n α) l.length q]).run P w = .ok (.tuple #[]) w := by
    unfold Builtin.clear_
    simp only [slSub, slTo, h0]
    generalize (if cap = l.length then p0 else Option.map (fun x => x.add (l.length * Rp.n α)) p0) = q0
    cases q0 <;> simp [run_underlying hu]
   simp [execOp, resolve, invoke, builtin, ha.eval hx, this]
  ·have hown : SlOwn w S (slTo (.slice p0 q cap) l.length) l := hw.get hr
   rcases slOwn_open hown with ⟨hv, hl⟩ | ⟨b, off, cap', T, pre, post, g1, hv, g3, g4, g5, g6⟩
   ·simp only [slTo] at hv; injection hv with e1 e2 e3; omega
   ·simp only [slTo] at hv
    injection hv with e1 e2 e3
    subst e1; subst e3
    have hpl : (pre ++ encs l).length = off + l.length * Rp.n α := by rw [List.length_append, encs_length, g4]
    have hml : (encs (List.replicate (q - l.length) x0)).length ≤ post.length := by
     have h1 : (q - l.length) * Rp.n α + l.length * Rp.n α = q * Rp.n α := by rw [← Nat.add_mul]; congr 1; omega
     have h2 : q * Rp.n α ≤ cap * Rp.n α := Nat.mul_le_mul_right _ hcap
     rw [encs_length, List.length_replicate]
     simp only [List.length_append, encs_length] at g6; omega
    obtain ⟨w', s1, s2, s3, s4⟩ := run_storeCells (P := P) (off0 := off + l.length * Rp.n α) (encs (List.replicate (q - l.length) x0)) (pre ++ encs l ++ post) 0 w g5 (by
     rw [List.length_append, hpl]; omega) (isLeaf_encs Leafy.all _)
    rw [Nat.add_zero, ← hpl, over_spec _ _ _ hml] at s3
    refine ⟨.tuple #[], w', .inl ?_, _, ?_, rfl⟩
    ·simp only [slTo] at hx
     rw [slSub_addr (by omega) hcap] at hx
     have : (Builtin.clear_ #[t] ty #[.slice (some ⟨b, off + l.length * Rp.n α, none⟩) (q - l.length) (cap - l.length)]).run P w = .ok (.tuple #[]) w' := by
      unfold Builtin.clear_
      obtain ⟨m, hm⟩ : ∃ m, q - l.length = m + 1 := ⟨q - l.length - 1, by omega⟩
      rw [hm] at hzc s1 ⊢
      simp [run_underlying hu, run_zeroValue hi, hzc, s1]
     simp [execOp, resolve, invoke, builtin, ha.eval hx, this]
    ·have hset : rs.set p (R.sl S (slTo (.slice (some ⟨b, off, none⟩) q cap) l.length) l) = rs := by rw [set_self hr]
     rw [← hset]
     refine hw.set hr (s2.mono (fun k _ hk => by subst hk; exact g1)) ?_ (fun b hb => ⟨.inl hb, by rw [s4]; exact (hw.foot _ (List.mem_of_getElem? hr) b hb).2⟩)
     exact slOwn_block (S := S) (pre := pre) (off := off) (cap := cap) (l := l) (b := b) (w := w') (T := T) (post := encs (List.replicate (q - l.length) x0) ++ post.drop (encs (List.replicate (q - l.length) x0)).length) g1 (by
      rw [s3]; simp [List.append_assoc]) g4 g3 (by
      simp only [List.length_append, List.length_drop] at g6 hml ⊢; omega)
def sl3 (v : Value) (q n lo hi : Nat) : Value := slSub (match v with | .slice a m _ => .slice a m q | v => v) n lo hi
theorem r_slice3 {β : Type} [Rp β] {l r : List β} {n by' : Nat} {z : Value} {lo hi : Int} {C : World → Prop} (hu : P.underlying t = some (.slice el)) (ht : TInfo P el n by' z) (hx : opv e x = some v) (hr : ∀ w, C w → Rd w v l) (hy : opv e y = some (.int .i64 lo)) (hy' : opv e y' = some (.int .i64 hi)) (hy'' : opv e y'' = some (.int .i64 l.length))
  (h : slc l lo hi = some r) : Runs P N e C ⟨d, .slice t x (some y) (some y') (some y''), ty, pos, af, g⟩ (sl3 v l.length n lo.toNat hi.toNat) := fun a w ha hc => by
 obtain ⟨p, cap, rfl, hcap⟩ := (hr w hc).shape
 obtain ⟨h1, h2, h3, _⟩ := slc_some h
 obtain ⟨lo, rfl⟩ := Int.eq_ofNat_of_zero_le h1
 obtain ⟨hi, rfl⟩ := Int.eq_ofNat_of_zero_le (show 0 ≤ hi by omega)
 have e1 : hi ≤ l.length := by omega
 have e2 : lo ≤ hi := by omega
 simp [execOp, ha.eval hx, ha.eval hy, ha.eval hy', ha.eval hy'', Instr.sliceAt, Instr.slice, Instr.sliceBounds, Instr.sliceBound, asIntOf, run_underlying hu, run_sizeOf ht, e1, e2, sl3, slSub, hcap]
theorem slTo_len {q m : Nat} (h : SlLen v q) (hm : m ≤ q) : SlLen (slTo v m) m := by
 obtain ⟨b, cap, rfl, hb⟩ := h
 exact ⟨b, cap, rfl, fun hn => by have := hb hn; omega⟩
theorem self_le {β : Type} {l r1 r2 : List β} {i j : Int} (h1 : slc l 0 i = some r1) (h2 : slc l j (l.length : Int) = some r2) (hij : i ≤ j) : (r1 ++ r2).length ≤ l.length := by
 obtain ⟨_, a2, a3, _⟩ := slc_some h1
 obtain ⟨b1, b2, b3, _⟩ := slc_some h2
 rw [List.length_append, slc_length h1, slc_length h2]
 simp; omega
end
section
variable {α : Type} [Rp α] {w0 w w2 : World} {M : Nat → Prop} {cs rest : List Res} {v : Value} {l : List α}
end
end Go.Ga

namespace Go.Ga
open Go
section
variable {P : Program} {N : Nat} {Q : Exit → Act → World → Prop} {e : Env} {C : World → Prop} {d : Option Tmp} {x y : Operand} {m n : Int} {t t' : TypeId} {ty : TypeId} {pos : String} {af : Array Edge} {g : Option (Nat × Bool)} {ops : Array Oper} {l : List Nat} {K : (World → Prop) → Prop}
end
section
variable {P : Program} {N : Nat} {Q : Exit → Act → World → Prop} {e : Env} {C : World → Prop} {ops : Array Oper} {i d : Nat} {o : Oper} {v : Value} {r : List (Nat × Bool)} {fin l : List Nat} {K : Value → (World → Prop) → Prop}
variable {dd : Option Tmp} {ty t el : TypeId} {pos : String} {af : Array Edge} {g : Option (Nat × Bool)} {x y y' : Operand}
end
end Go.Ga

namespace Go.Ga
open Go
structure Arr (n : Nat) where
 l : List Int
 len : l.length = n
variable {n : Nat}
def Arr.at (g : Arr n) (i : Int) : Int := g.l.getD i.toNat 0
section
variable {P : Program} {N : Nat} {e : Env} {C : World → Prop} {w0 : World} {M : Nat → Prop} {rs : List Res}
variable {d : Option Tmp} {ty : TypeId} {pos : String} {af : Array Edge} {gd : Option (Nat × Bool)} {x y : Operand} {v : Value} {t : TypeId}
end
end Go.Ga

namespace Go.Ga
open Go Go.Sort
open Go.Ga.Rp (rep own)
open Go.Ga.Flat (enc)
set_option linter.unusedVariables false
set_option linter.unusedSimpArgs false
section
variable {α β : Type} [Rp α] [Flat α] [Inhabited β] {w0 w w' : World} {M : Nat → Prop} {rs : List Res} {i : Nat} {S : Nat → Prop} {l l' : List α} {b off cap : Nat} {T : TypeId} {pre post : List Value}
end
theorem encs_int (l : List Int) : encs l = l.map (Value.int .i64) := by
  induction l with
  | nil => rfl
  | cons x l ih => show enc x ++ encs l = _; rw [ih]; rfl
end Go.Ga

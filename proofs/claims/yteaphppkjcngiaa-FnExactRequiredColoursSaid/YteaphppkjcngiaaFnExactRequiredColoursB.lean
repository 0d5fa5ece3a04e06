/- A part of the proof of FnExactRequiredColours: plain facts on the model. No condition. -/
import Derived.Below
import Derived.ChangeOld
import Derived.OpenShut
import Derived.ProofKit
import Derived.ShutString
import Derived.SizedLaws
import Derived.WalkKit
import Derived.Test.YteaphppkjcngiaaFnExactRequiredColoursA
/- Regions whose operations may come in several orders: a tree of them, walked branch by branch. -/
namespace Go.Ga
open Go
set_option linter.unusedVariables false
inductive Tre where
  | nil : Tre
  | stop : Tre
  | q : Nat → Tre → Tre
  | alt : Nat → Tre → Tre → Tre
def Tre.alts : Tre → List Nat
  | .alt i _ r => i :: r.alts
  | _ => []
section
variable {P : Program} {ops : Array Oper} {Q : Exit → Act → World → Prop} {N : Nat} {St : World → World → Prop}
def StrT (P : Program) (ops : Array Oper) (N : Nat) (St : World → World → Prop) (F : Env → (World → Prop) → Prop) : Tre → Env → (World → Prop) → Prop
  | .nil, e, C => F e C
  | .stop, _, _ => True
  | .q i t, e, C => ∃ o v, ops[i]? = some o ∧ dstOk N o = true ∧ (∃ Cy, (∀ w, C w → Cy w) ∧ upC Cy ∧ (∀ w w', Cy w → St w w' → Cy w') ∧ (∀ w w', Cy w → Ext w w' → St w w') ∧ Quiet P ops N e Cy o v) ∧ StrT P ops N St F t (putE o.dst v e) C
  | .alt i t r, e, C => (∃ o, ops[i]? = some o ∧ dstOk N o = true ∧ Wanted ops N e o true ∧
      ∀ w, C w → ∀ a, Has N a e → fine P o a w (fun u w' => St w w' ∧ StrT P ops N St F t (putE o.dst u e) (Ext w'))) ∧ StrT P ops N St F r e C
def okT (ops : Array Oper) (all : List Nat) (fin : List Nat) : Bool → Nat → Tre → Array Bool → Bool
  | _, n, .nil, listed => Nat.beq n 0 && finB ops fin listed && all.all fun i => listed.getD i true
  | head, _, .stop, _ => !head
  | _, 0, .q _ _, _ => false
  | _, n + 1, .q i t, listed => (Region.ready .any ops listed).contains i && Region.free .any ops listed i && (List.range ops.size).all (fun j => all.contains j || reachB ops ops.size j i) && okT ops all fin true n t (listed.setIfInBounds i true)
  | _, 0, .alt _ _ _, _ => false
  | head, n + 1, .alt i t r, listed => (!head || ((Region.ready .any ops listed).all (fun j => (i :: r.alts).contains j) && !(Region.ready .any ops listed).isEmpty)) && (!(Region.ready .any ops listed).contains i || okT ops all fin true n t (listed.setIfInBounds i true)) && okT ops all fin false (n + 1) r listed
theorem StrT.sound {fin all : List Nat} (hsel : Region.noSelect ops = true) :
    ∀ {t : Tre} {head : Bool} {n : Nat} {listed : Array Bool} {e : Env} {C : World → Prop}, listed.size = ops.size → okT ops all fin head n t listed = true → Down ops listed → upC C →
      StrT P ops N St (fun e' C' => ∀ a w, Has N a e' → C' w → wpOps P ops Q fin a w) t e C →
      ∀ a, Has N a e → (head = true → RAny P ops Q (fun i => all.contains i) St (n + fin.length) listed a C) ∧
        (∀ i ∈ t.alts, i ∈ Region.ready .any ops listed → ∀ w, C w → fOp P ops i (fun d u w' => St w w' ∧ RAny P ops Q (fun i => all.contains i) St (n - 1 + fin.length) (listed.setIfInBounds i true) (a.put d u) (Ext w')) a w)
  | .nil, head, n, listed, e, C, hsz, hok, hd, hC, h, a, ha => by
    simp only [okT, Bool.and_eq_true] at hok
    obtain ⟨⟨h0, h1⟩, h2⟩ := hok
    have h0 := Nat.eq_of_beq_eq_true h0
    subst h0
    refine ⟨fun _ => ?_, fun i hi => by cases hi⟩
    have hF : Fin (fun i => all.contains i) ops listed := fun i _ hDi => by
      simp only [List.all_eq_true] at h2
      exact h2 i (by simpa using hDi)
    have hw : ∀ w, C w → wpAny P .any ops Q fin.length listed a w := fun w hw => wpAny_fin h1 (h a w ha hw)
    rw [Nat.zero_add]
    generalize fin.length = m at *
    cases m with
    | zero => exact ⟨hF, hw⟩
    | succ m => exact .inl ⟨hF, hw⟩
  | .stop, head, n, listed, e, C, hsz, hok, hd, hC, h, a, ha => by
    refine ⟨fun hh => ?_, fun i hi => by cases hi⟩
    simp [okT, hh] at hok
  | .q i t, head, 0, listed, e, C, hsz, hok, hd, hC, h, a, ha => by simp [okT] at hok
  | .q i t, head, n + 1, listed, e, C, hsz, hok, hd, hC, h, a, ha => by
    refine ⟨fun _ => ?_, fun i hi => by cases hi⟩
    obtain ⟨o, v, hi, hdst, ⟨Cy, hCC, hCy, hSt, hE, hq⟩, hr⟩ := h
    simp only [okT, Bool.and_eq_true] at hok
    obtain ⟨⟨⟨h1, h2⟩, hrch⟩, h3⟩ := hok
    have hrd : i ∈ Region.ready .any ops listed := by simpa using h1
    have hlt : i < ops.size := (Array.getElem?_eq_some_iff.1 hi).1
    have hy : QY P ops Cy o v a := by
      rcases hq with ⟨h4, h5⟩ | ⟨h4, h5⟩
      · exact .inl ⟨h4 a ha, fun w hw => h5 a w ha hw⟩
      · exact .inr ⟨h4 a ha, h5⟩
    have hD : ∀ j, j < ops.size → (fun i => all.contains i) j = false → Reach ops j i := fun j hj hDj => by
      simp only [List.all_eq_true, List.mem_range, Bool.or_eq_true] at hrch
      rcases hrch j hj with h | h
      · simp only at hDj; rw [hDj] at h; cases h
      · exact reachB.spec h
    rw [Nat.add_right_comm]
    exact RAny.first hCy hSt hE hi (Region.noSelect_spec hsel) hD _ listed a C hC hCC hd (Region.free_spec hi h2) hrd hy
      ((StrT.sound hsel (by simp [hsz]) h3 (hd.set hrd) hC hr _ (ha.put v (dstOk.spec hdst))).1 rfl)
  | .alt i t r, head, 0, listed, e, C, hsz, hok, hd, hC, h, a, ha => by simp [okT] at hok
  | .alt i t r, head, n + 1, listed, e, C, hsz, hok, hd, hC, h, a, ha => by
    simp only [okT, Bool.and_eq_true] at hok
    obtain ⟨⟨h1, h2⟩, h3⟩ := hok
    obtain ⟨⟨o, hi, hdst, hwant, hr⟩, hrest⟩ := h
    have key : ∀ j ∈ (Tre.alt i t r).alts, j ∈ Region.ready .any ops listed → ∀ w, C w → fOp P ops j (fun d u w' => St w w' ∧ RAny P ops Q (fun i => all.contains i) St (n + fin.length) (listed.setIfInBounds j true) (a.put d u) (Ext w')) a w := by
      intro j hj hrd w hw
      simp only [Tre.alts, List.mem_cons] at hj
      rcases hj with rfl | hj
      · rw [Bool.or_eq_true] at h2
        rcases h2 with h2 | h2
        · simp at h2; exact absurd hrd h2
        · unfold fOp
          simp only [hi, hwant a ha, if_true]
          refine (hr w hw a ha).mono fun u w' ⟨he, hk⟩ => ⟨he, ?_⟩
          exact (StrT.sound hsel (by simp [hsz]) h2 (hd.set hrd) (upC_ext w') hk _ (ha.put u (dstOk.spec hdst))).1 rfl
      · exact (StrT.sound hsel hsz h3 hd hC hrest a ha).2 j hj hrd w hw
    refine ⟨fun hh => ?_, key⟩
    subst hh
    simp only [Bool.not_true, Bool.false_or, Bool.and_eq_true, Bool.not_eq_true', List.all_eq_true] at h1
    rw [Nat.add_right_comm]
    refine .inr ⟨fun h0 => ?_, fun j hj => key j ?_ hj⟩
    · have := h1.2; rw [h0] at this; cases this
    · have := h1.1 j hj; simpa [Tre.alts] using this
def checkT (ops : Array Oper) (all : List Nat) (fin : List Nat) (t : Tre) : Bool :=
  Region.noSelect ops && Nat.beq (all.length + fin.length) ops.size && okT ops all fin true all.length t (Array.replicate ops.size false)
theorem StrT.anti {F : Env → (World → Prop) → Prop} (hF : ∀ e C C', (∀ w, C' w → C w) → F e C → F e C') : ∀ {t : Tre} {e : Env} {C C' : World → Prop}, (∀ w, C' w → C w) → StrT P ops N St F t e C → StrT P ops N St F t e C'
  | .nil, e, C, C', hc, h => hF e C C' hc h
  | .stop, _, _, _, _, _ => trivial
  | .q i t, e, C, C', hc, ⟨o, v, h1, h2, ⟨Cy, h3, h4⟩, h5⟩ => ⟨o, v, h1, h2, ⟨Cy, fun w hw => h3 w (hc w hw), h4⟩, StrT.anti hF hc h5⟩
  | .alt i t r, e, C, C', hc, ⟨⟨o, h1, h2, h3, h4⟩, h5⟩ => ⟨⟨o, h1, h2, h3, fun w hw => h4 w (hc w hw)⟩, StrT.anti hF hc h5⟩
theorem Tri.drawT {id : Nat} {e : Env} {C : World → Prop} (hm : P.follows .mixedOrders = true) (hC : upC C) (all fin : List Nat) (t : Tre) (hck : checkT ops all fin t = true)
    (h : StrT P ops N (Keep C) (FinF P ops N Q fin) t e C) : Tri P N Q (.region id ops true) e C := by
  intro a w ha hw
  simp only [checkT, Bool.and_eq_true] at hck
  obtain ⟨⟨h1, h4⟩, h2⟩ := hck
  have h4 := Nat.eq_of_beq_eq_true h4
  refine wp_region_any hm ?_
  have hR := (StrT.sound (P := P) (Q := Q) h1 (by simp) h2 (fun j o _ hl => by
    simp only [Array.getD_eq_getD_getElem?, Array.getElem?_replicate] at hl
    split at hl <;> simp at hl) hC h a ha).1 rfl
  rw [h4] at hR
  exact hR.sound _ (hC w _ hw (Ext.drew w))
end
section
variable {P : Program} {N : Nat} {Q : Exit → Act → World → Prop} {e : Env} {C : World → Prop} {ops : Array Oper} {i d : Nat} {o : Oper} {v : Value} {t r : Tre} {fin : List Nat}
variable {K : Value → (World → Prop) → Prop}
abbrev TF (P : Program) (ops : Array Oper) (N : Nat) (B : World → Prop) (Q : Exit → Act → World → Prop) (fin : List Nat) (t : Tre) (e : Env) (C : World → Prop) := StrT P ops N (Keep B) (FinF P ops N Q fin) t e C
theorem T.q {w0 : World} {M : Nat → Prop} {rs : List Res} (hi : ops[i]? = some o) (hd : o.dst = some d) (hN : Nat.blt d N = true) (hg : W ops N e o) (h : Runs P N e (Sep w0 M rs) o v) (next : TF P ops N (Sep w0 M rs) Q fin t ((d, v) :: e) (Sep w0 M rs)) : TF P ops N (Sep w0 M rs) Q fin (.q i t) e (Sep w0 M rs) :=
  ⟨o, v, hi, dok hd hN, ⟨_, fun _ h => h, Sep.up, fun _ _ _ h => h, fun w w' h k => Sep.up w w' h k, .inl ⟨hg, fun _ _ ha hw => h.fine ha hw⟩⟩, by rw [putS hd]; exact next⟩
theorem T.sk {w0 : World} {M : Nat → Prop} {rs : List Res} (hi : ops[i]? = some o) (hd : o.dst = some d) (hN : Nat.blt d N = true) (hg : Wanted ops N e o false) (next : TF P ops N (Sep w0 M rs) Q fin t ((d, undef) :: e) (Sep w0 M rs)) : TF P ops N (Sep w0 M rs) Q fin (.q i t) e (Sep w0 M rs) :=
  ⟨o, undef, hi, dok hd hN, ⟨_, fun _ h => h, Sep.up, fun _ _ _ h => h, fun w w' h k => Sep.up w w' h k, .inr ⟨hg, rfl⟩⟩, by rw [putS hd]; exact next⟩
theorem T.qc {w0 : World} {M : Nat → Prop} {rs : List Res} (hi : ops[i]? = some o) (hd : o.dst = some d) (hN : Nat.blt d N = true) (hg : W ops N e o) (h : ∀ a w, Has N a e → Sep w0 M rs w → fine P o a w (fun u w' => u = v ∧ Ext w w'))
    (next : TF P ops N (Sep w0 M rs) Q fin t ((d, v) :: e) (Sep w0 M rs)) : TF P ops N (Sep w0 M rs) Q fin (.q i t) e (Sep w0 M rs) :=
  ⟨o, v, hi, dok hd hN, ⟨_, fun _ h => h, Sep.up, fun _ _ _ h => h, fun w w' h k => Sep.up w w' h k, .inl ⟨hg, h⟩⟩, by rw [putS hd]; exact next⟩
theorem T.ef {B : World → Prop} (hi : ops[i]? = some o) (hd : o.dst = some d) (hN : Nat.blt d N = true) (hg : W ops N e o) (h : Does P N e C o K) (hK : ∀ u C', K u C' → upC C' ∧ ∀ w, C' w → B w)
    (next : ∀ u C', K u C' → TF P ops N B Q fin t ((d, u) :: e) C') (other : TF P ops N B Q fin r e C) : TF P ops N B Q fin (.alt i t r) e C :=
  ⟨⟨o, hi, dok hd hN, hg, fun w hw a ha => (h a w ha hw).mono fun u w' ⟨C', h3, h4⟩ => ⟨(hK u C' h4).2 w' h3, by rw [putS hd]; exact StrT.anti finF_anti (fun w'' hw'' => (hK u C' h4).1 w' w'' h3 hw'') (next u C' h4)⟩⟩, other⟩
theorem T.ef0 {B : World → Prop} (hi : ops[i]? = some o) (hd : o.dst = none) (hg : W ops N e o) (h : Does P N e C o K) (hK : ∀ u C', K u C' → upC C' ∧ ∀ w, C' w → B w)
    (next : ∀ u C', K u C' → TF P ops N B Q fin t e C') (other : TF P ops N B Q fin r e C) : TF P ops N B Q fin (.alt i t r) e C :=
  ⟨⟨o, hi, dok0 hd, hg, fun w hw a ha => (h a w ha hw).mono fun u w' ⟨C', h3, h4⟩ => ⟨(hK u C' h4).2 w' h3, by rw [put0 hd]; exact StrT.anti finF_anti (fun w'' hw'' => (hK u C' h4).1 w' w'' h3 hw'') (next u C' h4)⟩⟩, other⟩
theorem T.nil {B : World → Prop} (h : FinF P ops N Q fin e C) : TF P ops N B Q fin .nil e C := h
theorem T.stop {B : World → Prop} : TF P ops N B Q fin .stop e C := trivial
end
end Go.Ga

/- From the row's reading of an argument to ours. -/
namespace Go.Ga
open Go
open Go.Ga.Rp (rep own)
open Go.Ga.Flat (enc)

class Wf (α : Type) where
  wfd : α → Prop
open Go.Ga.Wf (wfd)
instance : Wf Int := ⟨fun x => -9223372036854775808 ≤ x ∧ x ≤ 9223372036854775807⟩
instance : Wf Bool := ⟨fun _ => True⟩
instance : Wf ByteArray := ⟨fun s => s.size ≤ maxLen⟩
instance {α : Type} [Wf α] : Wf (List α) := ⟨fun l => l.length ≤ maxLen ∧ ∀ x ∈ l, wfd x⟩
instance {α β : Type} [Wf α] [Wf β] : Wf (α × β) := ⟨fun x => wfd x.1 ∧ wfd x.2⟩

def Opn (P : Program) (t : TypeId) (α : Type) [Rp α] [Wf α] : Prop :=
  ∀ {H : Type} (enc : TypeId × Value → H) (w : World) (base : Nat) (spare : Nat → Bool) (held : Bool) (fuel : Nat) (cs : List Value) (y : DataW H × List MemPlace), (∀ b, spare b = true) →
    DataW.trod enc P w base spare held fuel t cs = some y → ∃ x : α, rep w (fun _ => True) cs x ∧ wfd x

section
variable {P : Program} {t : TypeId}
theorem lit_wf {n : Int} (h : (Lit.int .i64 n).wf = true) : -9223372036854775808 ≤ n ∧ n ≤ 9223372036854775807 := by
  simp only [Lit.wf, IntKind.min, IntKind.max, IntKind.signed, IntKind.bits, Bool.and_eq_true, decide_eq_true_eq, if_true] at h
  omega
theorem opn_int (ht : P.underlying t = some (.int .i64)) : Opn P t Int := fun enc w base spare held fuel cs y _ h => by
  obtain ⟨n, rfl, _, hw⟩ := DataW.trod_int ht h
  exact ⟨n, rfl, lit_wf hw⟩
theorem opn_bool (ht : P.underlying t = some .bool) : Opn P t Bool := fun enc w base spare held fuel cs y _ h => by
  obtain ⟨n, rfl, _⟩ := DataW.trod_bool ht h
  exact ⟨n, rfl, trivial⟩
theorem opn_string (ht : P.underlying t = some .string) : Opn P t ByteArray := fun enc w base spare held fuel cs y _ h => by
  obtain ⟨n, rfl, _, hs⟩ := DataW.trod_string ht h
  exact ⟨n, rfl, hs⟩

theorem cells_block {w : World} {a : Addr} {base n : Nat} {cs : List Value} (hn : 0 < n) (h : w.cells? base a n = some cs) :
    ∃ C T fr, w.heap[a.block]? = some (.cells C T fr) ∧ a.spot = none ∧ part C a.off n = cs ∧ a.off + n ≤ C.size := by
  obtain ⟨_, hl, hc⟩ := World.cells?_some h
  have h0 := hc 0 hn
  rw [List.getElem?_eq_getElem (by omega)] at h0
  have hz : a.add 0 = a := by simp [Addr.add]
  rw [hz] at h0
  have hsp := World.cell?_spot h0
  obtain ⟨b, off, sp⟩ := a
  simp only at hsp; subst hsp
  unfold World.cell? at h0
  split at h0
  · rename_i C T fr hb
    have key : ∀ i, i < n → C[off + i]? = cs[i]? := fun i hi => by
      have := hc i hi
      rw [add_off] at this
      simpa [World.cell?, hb] using this
    have hsz : off + n ≤ C.size := by
      have h1 := key (n - 1) (by omega)
      rw [List.getElem?_eq_getElem (by omega)] at h1
      have := (Array.getElem?_eq_some_iff.1 h1).1
      omega
    refine ⟨C, T, fr, hb, rfl, ?_, hsz⟩
    refine List.ext_getElem? fun j => ?_
    simp only [part, List.getElem?_take, List.getElem?_drop]
    split
    · rename_i hj; rw [Array.getElem?_toList]; exact key j hj
    · rename_i hj; rw [List.getElem?_eq_none (by omega)]
  · cases h0

theorem opn_slice {e : TypeId} {α : Type} [Rp α] [Wf α] (ht : P.underlying t = some (.slice e)) (hc : P.cellsOf e = Rp.n α) (hpos : 0 < Rp.n α) (he : Opn P e α) : Opn P t (List α) := fun enc w base spare held fuel cs y hsp h => by
  rcases DataW.trod_slice ht h with ⟨rfl, _⟩ | ⟨a, len, cap, elems, rest, n, rfl, rfl, _, hb, hl, hm, hlen, hel, hspare, _⟩
  · exact ⟨[], ⟨_, rfl, .inl ⟨rfl, rfl⟩⟩, Nat.zero_le _, by simp⟩
  · have hex : ∀ i, i < len → ∃ (x : α) (c : List Value), w.cells? base (a.add (i * Rp.n α)) (Rp.n α) = some c ∧ rep w (fun _ => True) c x ∧ wfd x := by
      intro i hi
      have h1 := hel i hi
      rw [List.getElem?_eq_getElem (by omega), Option.bind_eq_some_iff] at h1
      obtain ⟨c, h2, h3⟩ := h1
      obtain ⟨x, h4, h5⟩ := he enc w base spare held n c _ hsp h3
      rw [hc] at h2
      exact ⟨x, c, h2, h4, h5⟩
    by_cases hcap : cap = 0
    · subst hcap
      have : len = 0 := by omega
      subst this
      exact ⟨[], ⟨_, rfl, .inr (.inl ⟨a, rfl, rfl⟩)⟩, Nat.zero_le _, by simp⟩
    · have hcells : ∀ i, i < cap → ∃ c, w.cells? base (a.add (i * Rp.n α)) (Rp.n α) = some c := by
        intro i hi
        by_cases h1 : i < len
        · obtain ⟨_, c, h2, _⟩ := hex i h1; exact ⟨c, h2⟩
        · obtain ⟨h3, h4⟩ := hspare (hsp _)
          have h5 := h4 (i - len) (by omega)
          rw [List.getElem?_eq_getElem (by omega), Option.bind_eq_some_iff] at h5
          obtain ⟨c, h6, _⟩ := h5
          rw [hc, show len + (i - len) = i by omega] at h6
          exact ⟨c, h6⟩
      obtain ⟨c0, hc0⟩ := hcells 0 (by omega)
      rw [Nat.zero_mul] at hc0
      have hz : a.add 0 = a := by simp [Addr.add]
      rw [hz] at hc0
      obtain ⟨C, T, fr, hblk, hspot, _, _⟩ := cells_block hpos hc0
      obtain ⟨b, off, sp⟩ := a
      simp only at hspot; subst hspot
      have hall : ∀ i c, w.cells? base ((⟨b, off, none⟩ : Addr).add (i * Rp.n α)) (Rp.n α) = some c → part C (off + i * Rp.n α) (Rp.n α) = c ∧ off + i * Rp.n α + Rp.n α ≤ C.size := by
        intro i c hi
        rw [add_off] at hi
        obtain ⟨C', T', fr', h1, _, h2, h3⟩ := cells_block hpos hi
        simp only at h1 h2 h3
        simp only at hblk
        rw [hblk] at h1; cases h1
        exact ⟨h2, h3⟩
      obtain ⟨cl, hcl⟩ := hcells (cap - 1) (by omega)
      have hsz := (hall _ _ hcl).2
      have hmul : (cap - 1) * Rp.n α + Rp.n α = cap * Rp.n α := by
        rw [← Nat.succ_mul]; congr 1; omega
      -- the list
      have hchoose : ∃ l : List α, l.length = len ∧ ∀ i x, l[i]? = some x → rep w (fun _ => True) (part C (off + i * Rp.n α) (Rp.n α)) x ∧ wfd x := by
        have : ∀ m, m ≤ len → ∃ l : List α, l.length = m ∧ ∀ i x, l[i]? = some x → rep w (fun _ => True) (part C (off + i * Rp.n α) (Rp.n α)) x ∧ wfd x := by
          intro m
          induction m with
          | zero => intro _; exact ⟨[], rfl, by simp⟩
          | succ m ih =>
            intro hm
            obtain ⟨l, hl1, hl2⟩ := ih (by omega)
            obtain ⟨x, c, h1, h2, h3⟩ := hex m (by omega)
            have h4 := (hall m c h1).1
            refine ⟨l ++ [x], by simp [hl1], fun i z hi => ?_⟩
            rcases Nat.lt_or_ge i m with h | h
            · rw [List.getElem?_append_left (by omega)] at hi; exact hl2 i z hi
            · have : i = m := by have := (List.getElem?_eq_some_iff.1 hi).1; simp [hl1] at this; omega
              subst this
              rw [List.getElem?_append_right (by omega)] at hi
              simp [hl1] at hi; subst hi
              rw [h4]; exact ⟨h2, h3⟩
        exact this len (Nat.le_refl _)
      obtain ⟨l, hl1, hl2⟩ := hchoose
      refine ⟨l, ⟨_, rfl, .inr (.inr ⟨b, off, cap, C, T, fr, trivial, by rw [hl1], by omega, hblk, by omega, fun i x hx => (hl2 i x hx).1⟩)⟩, by omega, fun x hx => ?_⟩
      obtain ⟨i, hi⟩ := List.getElem?_of_mem hx
      exact (hl2 i x hi).2

/-! structs: field by field -/
def OpnFs (P : Program) (fs : List Field) (off N : Nat) (α : Type) [Rp α] [Wf α] : Prop :=
  ∀ {H : Type} (enc : TypeId × Value → H) (w : World) (base : Nat) (spare : Nat → Bool) (held : Bool) (fuel : Nat) (cs : List Value), (∀ b, spare b = true) → cs.length = N →
    (∀ f ∈ fs, ∃ y, DataW.trod enc P w base spare held fuel f.type ((cs.drop f.offset).take (P.cellsOf f.type)) = some y) → ∃ x : α, rep w (fun _ => True) (cs.drop off) x ∧ wfd x
theorem opnFs_one {f : Field} {off N : Nat} {α : Type} [Rp α] [Wf α] (h : Opn P f.type α) (ho : f.offset = off) (hN : off + P.cellsOf f.type = N) : OpnFs P [f] off N α := fun enc w base spare held fuel cs hsp hl hf => by
  obtain ⟨y, hy⟩ := hf f (by simp)
  rw [ho, List.take_of_length_le (by simp; omega)] at hy
  exact h enc w base spare held fuel _ y hsp hy
theorem opnFs_cons {f : Field} {fs : List Field} {off off' N : Nat} {α β : Type} [Rp α] [Wf α] [Rp β] [Wf β] (h : Opn P f.type α) (ho : f.offset = off) (hc : off + P.cellsOf f.type = off') (hr : OpnFs P fs off' N β) : OpnFs P (f :: fs) off N (α × β) :=
  fun enc w base spare held fuel cs hsp hl hf => by
    obtain ⟨y, hy⟩ := hf f (by simp)
    rw [ho] at hy
    obtain ⟨x1, h1, w1⟩ := h enc w base spare held fuel _ y hsp hy
    obtain ⟨x2, h2, w2⟩ := hr enc w base spare held fuel cs hsp hl (fun g hg => hf g (List.mem_cons_of_mem _ hg))
    refine ⟨(x1, x2), ⟨_, _, ?_, h1, h2⟩, w1, w2⟩
    rw [← hc, ← List.drop_drop, List.take_append_drop]
theorem opn_struct {fs : Array Field} {N : Nat} {α : Type} [Rp α] [Wf α] (ht : P.underlying t = some (.struct fs)) (hN : P.cellsOf t = N) (h : OpnFs P fs.toList 0 N α) : Opn P t α := fun enc w base spare held fuel cs y hsp hy => by
  obtain ⟨xs, n, rfl, _, hl, hx, hf⟩ := DataW.trod_struct ht hy
  obtain ⟨x, h1, h2⟩ := h enc w base spare held n cs hsp (by rw [hl, hN]) (fun f hfm => by
    obtain ⟨i, hi⟩ := List.getElem?_of_mem hfm
    have hi' : fs[i]? = some f := by simpa using hi
    have hlt : i < xs.length := by rw [hx]; exact (Array.getElem?_eq_some_iff.1 hi').1
    exact ⟨xs[i], by rw [hf i f hi', List.getElem?_eq_getElem hlt]⟩)
  exact ⟨x, by simpa using h1, h2⟩

/-- one type for another over the same cells -/
def Cv (α β : Type) [Rp α] [Rp β] [Wf α] [Wf β] : Prop := ∃ f : α → β, ∀ w S cs x, rep w S cs x → wfd x → rep w S cs (f x) ∧ wfd (f x)
theorem Cv.refl {α : Type} [Rp α] [Wf α] : Cv α α := ⟨id, fun _ _ _ _ h k => ⟨h, k⟩⟩
theorem Cv.trans {α β γ : Type} [Rp α] [Rp β] [Rp γ] [Wf α] [Wf β] [Wf γ] (h : Cv α β) (k : Cv β γ) : Cv α γ := by
  obtain ⟨f, hf⟩ := h; obtain ⟨g, hg⟩ := k
  exact ⟨g ∘ f, fun w S cs x h1 h2 => hg w S cs _ (hf w S cs x h1 h2).1 (hf w S cs x h1 h2).2⟩
theorem Cv.assoc {α β γ : Type} [Rp α] [Rp β] [Rp γ] [Wf α] [Wf β] [Wf γ] : Cv ((α × β) × γ) (α × β × γ) :=
  ⟨fun x => (x.1.1, x.1.2, x.2), fun w S cs x ⟨c1, c3, e1, ⟨c2, c4, e2, h1, h2⟩, h3⟩ ⟨⟨k1, k2⟩, k3⟩ => ⟨⟨c2, c4 ++ c3, by rw [e1, e2, List.append_assoc], h1, c4, c3, rfl, h2, h3⟩, k1, k2, k3⟩⟩
theorem Cv.right {α β γ : Type} [Rp α] [Rp β] [Rp γ] [Wf α] [Wf β] [Wf γ] (h : Cv β γ) : Cv (α × β) (α × γ) := by
  obtain ⟨f, hf⟩ := h
  exact ⟨fun x => (x.1, f x.2), fun w S cs x ⟨c1, c2, e, h1, h2⟩ ⟨k1, k2⟩ => ⟨⟨c1, c2, e, h1, (hf w S c2 _ h2 k2).1⟩, k1, (hf w S c2 _ h2 k2).2⟩⟩
theorem OpnFs.cv {fs : List Field} {off N : Nat} {α β : Type} [Rp α] [Wf α] [Rp β] [Wf β] (h : OpnFs P fs off N α) (k : Cv α β) : OpnFs P fs off N β := fun enc w base spare held fuel cs hsp hl hf => by
  obtain ⟨g, hg⟩ := k
  obtain ⟨x, h1, h2⟩ := h enc w base spare held fuel cs hsp hl hf
  exact ⟨g x, hg _ _ _ _ h1 h2⟩

/-! arrays of few -/
theorem opn_arr2 {e : TypeId} (ht : P.underlying t = some (.array 2 e)) (hc : P.cellsOf e = 1) (hn : P.cellsOf t = 2) (he : Opn P e Int) : Opn P t (Int × Int) := fun enc w base spare held fuel cs y hsp hy => by
  obtain ⟨xs, m, rfl, _, hl, hx, hf⟩ := DataW.trod_array ht hy
  rw [hn] at hl
  match cs, hl with
  | [a, b], _ =>
    have g : ∀ i (hi : i < 2), ∃ x : Int, (([a, b].drop (i * 1)).take 1) = [Value.int .i64 x] ∧ wfd x := fun i hi => by
      have h1 := hf i hi
      rw [hc, List.getElem?_eq_getElem (by omega)] at h1
      exact he enc w base spare held m _ _ hsp h1
    obtain ⟨x0, e0, w0⟩ := g 0 (by omega); obtain ⟨x1, e1, w1⟩ := g 1 (by omega)
    simp at e0 e1; subst e0; subst e1
    exact ⟨(x0, x1), ⟨[_], [_], rfl, rfl, rfl⟩, w0, w1⟩
theorem opn_arr3 {e : TypeId} (ht : P.underlying t = some (.array 3 e)) (hc : P.cellsOf e = 1) (hn : P.cellsOf t = 3) (he : Opn P e Int) : Opn P t (Int × Int × Int) := fun enc w base spare held fuel cs y hsp hy => by
  obtain ⟨xs, m, rfl, _, hl, hx, hf⟩ := DataW.trod_array ht hy
  rw [hn] at hl
  match cs, hl with
  | [a, b, c], _ =>
    have g : ∀ i (hi : i < 3), ∃ x : Int, (([a, b, c].drop (i * 1)).take 1) = [Value.int .i64 x] ∧ wfd x := fun i hi => by
      have h1 := hf i hi
      rw [hc, List.getElem?_eq_getElem (by omega)] at h1
      exact he enc w base spare held m _ _ hsp h1
    obtain ⟨x0, e0, w0⟩ := g 0 (by omega); obtain ⟨x1, e1, w1⟩ := g 1 (by omega); obtain ⟨x2, e2, w2⟩ := g 2 (by omega)
    simp at e0 e1 e2; subst e0; subst e1; subst e2
    exact ⟨(x0, x1, x2), ⟨[_], [_, _], rfl, rfl, [_], [_], rfl, rfl, rfl⟩, w0, w1, w2⟩
end
theorem Ext.below {w w' : World} (h : Ext w w') : RowKit.Below w.heap.size w w' := ⟨h.os, h.tape, h.output, h.size, h.block⟩
end Go.Ga

/- Plain laws: the bounded words, reading, and loops as the printer prints them. No program in sight. -/
namespace Go.Ga
open Go
open Go.Ga.Rp (rep own)
open Go.Ga.Flat (enc)
open Go.Ga.Wf (wfd)
/-- rounds enough for all loops that the guards let in -/
def Big : Nat := 1125899906842624
theorem w64_id {x : Int} (h : -9223372036854775808 ≤ x) (h' : x ≤ 9223372036854775807) : w64 x = x := by
  unfold w64 IntKind.wrap
  simp [IntKind.bits, IntKind.signed]
  omega
theorem rdl_nat {α : Type} (l : List α) (i : Nat) : rdl l (i : Int) = l[i]? := by simp [rdl]
theorem rdl_lt {α : Type} {l : List α} {i : Nat} (h : i < l.length) : rdl l (i : Int) = some l[i] := by simp [rdl, h]
theorem bta_lt {s : ByteArray} {i : Nat} (h : i < s.size) : bta s (i : Int) = some s[i] := by simp [bta, h]
theorem wrap_byte (b : UInt8) : IntKind.i64.wrap (b.toNat : Int) = b.toNat := by
  have h := b.toNat_lt
  exact w64_id (by omega) (by omega)

/-! loops -/
def itr {S : Type} (g : Nat → S → S) : Nat → Nat → S → S
  | 0, _, s => s
  | m + 1, i, s => itr g m (i + 1) (g i s)
theorem loop_state {S β : Type} {l : Nat → S → Int → Option β} {N : Nat} {g : Nat → S → S} {out : S → Option β} (Inv : Nat → S → Prop)
    (hs : ∀ n i s, i < N → Inv i s → l (n + 1) s (i : Int) = l n (g i s) ((i + 1 : Nat) : Int) ∧ Inv (i + 1) (g i s))
    (he : ∀ n s, Inv N s → l (n + 1) s (N : Int) = out s) {k : Nat} (hk : N < k) {s : S} (h0 : Inv 0 s) :
    l k s 0 = out (itr g N 0 s) ∧ Inv N (itr g N 0 s) := by
  have key : ∀ m i k s, i + m = N → m < k → Inv i s → l k s (i : Int) = out (itr g m i s) ∧ Inv N (itr g m i s) := by
    intro m
    induction m with
    | zero =>
      intro i k s hi hk hI
      obtain ⟨n, rfl⟩ : ∃ n, k = n + 1 := ⟨k - 1, by omega⟩
      have : i = N := by omega
      subst this
      exact ⟨he n s hI, hI⟩
    | succ m ih =>
      intro i k s hi hk hI
      obtain ⟨n, rfl⟩ : ∃ n, k = n + 1 := ⟨k - 1, by omega⟩
      obtain ⟨h1, h2⟩ := hs n i s (by omega) hI
      rw [h1]
      exact ih (i + 1) n _ (by omega) (by omega) h2
  have := key N 0 k s (by omega) hk h0
  simpa using this
/-- with an exit -/
def itx {S R : Type} (g : Nat → S → S ⊕ R) : Nat → Nat → S → S ⊕ R
  | 0, _, s => .inl s
  | m + 1, i, s => match g i s with | .inl s' => itx g m (i + 1) s' | .inr r => .inr r
theorem loop_exit {S R T : Type} {l : Nat → S → Int → Option (T ⊕ R)} {N : Nat} {g : Nat → S → S ⊕ R} {out : S → Option (T ⊕ R)} (Inv : Nat → S → Prop)
    (hs : ∀ n i s, i < N → Inv i s → (∃ s', g i s = .inl s' ∧ l (n + 1) s (i : Int) = l n s' ((i + 1 : Nat) : Int) ∧ Inv (i + 1) s') ∨ (∃ r, g i s = .inr r ∧ l (n + 1) s (i : Int) = some (.inr r)))
    (he : ∀ n s, Inv N s → l (n + 1) s (N : Int) = out s) {k : Nat} (hk : N < k) {s : S} (h0 : Inv 0 s) :
    l k s 0 = (match itx g N 0 s with | .inl s' => out s' | .inr r => some (.inr r)) := by
  have key : ∀ m i k s, i + m = N → m < k → Inv i s → l k s (i : Int) = (match itx g m i s with | .inl s' => out s' | .inr r => some (.inr r)) := by
    intro m
    induction m with
    | zero =>
      intro i k s hi hk hI
      obtain ⟨n, rfl⟩ : ∃ n, k = n + 1 := ⟨k - 1, by omega⟩
      have : i = N := by omega
      subst this
      exact he n s hI
    | succ m ih =>
      intro i k s hi hk hI
      obtain ⟨n, rfl⟩ : ∃ n, k = n + 1 := ⟨k - 1, by omega⟩
      rcases hs n i s (by omega) hI with ⟨s', h1, h2, h3⟩ | ⟨r, h1, h2⟩
      · rw [h2, ih (i + 1) n _ (by omega) (by omega) h3]; simp [itx, h1]
      · rw [h2]; simp [itx, h1]
  have := key N 0 k s (by omega) hk h0
  simpa using this
theorem itx_inv {S R : Type} {g : Nat → S → S ⊕ R} {N : Nat} (Inv : Nat → S → Prop) (hs : ∀ i s s', i < N → Inv i s → g i s = .inl s' → Inv (i + 1) s') {s s' : S} (h0 : Inv 0 s) (h : itx g N 0 s = .inl s') : Inv N s' := by
  have key : ∀ m i s, i + m = N → Inv i s → itx g m i s = .inl s' → Inv N s' := by
    intro m
    induction m with
    | zero =>
      intro i s hi hI h
      have : i = N := by omega
      unfold itx at h
      rw [← Sum.inl.inj h, ← this]; exact hI
    | succ m ih =>
      intro i s hi hI h
      unfold itx at h
      cases hg : g i s with
      | inl s2 => rw [hg] at h; exact ih (i + 1) s2 (by omega) (hs i s s2 (by omega) hI hg) h
      | inr r => rw [hg] at h; cases h
  exact key N 0 s (by omega) h0 h
/-- all elements, or else `z` -/
theorem loop_all {R : Type} {l : Nat → Int → Option (Unit ⊕ R)} {N : Nat} (ok : Nat → Bool) {z : R}
    (hs : ∀ n (i : Nat), i < N → l (n + 1) (i : Int) = if ok i = true then l n ((i + 1 : Nat) : Int) else some (.inr z))
    (he : ∀ n, l (n + 1) (N : Int) = some (.inl ())) {k : Nat} (hk : N < k) :
    l k 0 = some (if ∀ i, i < N → ok i = true then .inl () else .inr z) := by
  have key : ∀ m i k, i + m = N → m < k → l k (i : Int) = some (if (List.range' i m).all ok = true then .inl () else .inr z) := by
    intro m
    induction m with
    | zero =>
      intro i k hi hk
      obtain ⟨n, rfl⟩ : ∃ n, k = n + 1 := ⟨k - 1, by omega⟩
      have : i = N := by omega
      subst this
      rw [he]; rfl
    | succ m ih =>
      intro i k hi hk
      obtain ⟨n, rfl⟩ : ∃ n, k = n + 1 := ⟨k - 1, by omega⟩
      rw [hs n i (by omega), List.range'_succ, List.all_cons]
      by_cases h : ok i = true
      · rw [if_pos h, ih (i + 1) n (by omega) (by omega), h, Bool.true_and]
      · rw [if_neg h, if_neg (by simp [h])]
  have := key N 0 k (by omega) hk
  rw [show ((0 : Nat) : Int) = 0 from rfl] at this
  rw [this]
  congr 1
  have e : (List.range' 0 N).all ok = true ↔ ∀ i, i < N → ok i = true := by simp [List.all_eq_true, List.mem_range'_1]
  by_cases h : (List.range' 0 N).all ok = true
  · rw [if_pos h, if_pos (e.1 h)]
  · rw [if_neg h, if_neg (fun H => h (e.2 H))]
/-- the first index with an answer -/
theorem loop_find {R T : Type} {l : Nat → Int → Option (T ⊕ R)} {N : Nat} (g : Nat → Option R) {z : T ⊕ R}
    (hs : ∀ n (i : Nat), i < N → l (n + 1) (i : Int) = match g i with | none => l n ((i + 1 : Nat) : Int) | some r => some (.inr r))
    (he : ∀ n, l (n + 1) (N : Int) = some z) {k : Nat} (hk : N < k) :
    l k 0 = some (match (List.range N).findSome? g with | none => z | some r => .inr r) := by
  have key : ∀ m i k, i + m = N → m < k → l k (i : Int) = some (match (List.range' i m).findSome? g with | none => z | some r => .inr r) := by
    intro m
    induction m with
    | zero =>
      intro i k hi hk
      obtain ⟨n, rfl⟩ : ∃ n, k = n + 1 := ⟨k - 1, by omega⟩
      have : i = N := by omega
      subst this
      rw [he]; rfl
    | succ m ih =>
      intro i k hi hk
      obtain ⟨n, rfl⟩ : ∃ n, k = n + 1 := ⟨k - 1, by omega⟩
      rw [hs n i (by omega), List.range'_succ, List.findSome?_cons]
      cases h : g i with
      | none => simp only []; exact ih (i + 1) n (by omega) (by omega)
      | some r => simp only []
  have := key N 0 k (by omega) hk
  rw [show ((0 : Nat) : Int) = 0 from rfl] at this
  rw [this, List.range_eq_range']
theorem Lr_ite {X : Type} {R : Type} {c : Prop} [Decidable c] {z : R} {g : R → Option X} {f : Unit → Option X} : Lr (if c then .inl () else .inr z) g f = if c then f () else g z := by split <;> rfl
end Go.Ga

/- The words' operations on bits, on small natural numbers. -/
namespace Go.Ga
open Go
theorem wrap_nat {n : Nat} (h : n < 9223372036854775808) : IntKind.i64.wrap (n : Int) = n := w64_id (by omega) (by omega)
theorem ofInt_nat (n : Nat) : BitVec.ofInt 64 (n : Int) = BitVec.ofNat 64 n := by simp
theorem band_nat {a b : Nat} (ha : a < 9223372036854775808) (hb : b < 9223372036854775808) : band (a : Int) (b : Int) = ((a &&& b : Nat) : Int) := by
  unfold band
  rw [ofInt_nat, ofInt_nat, BitVec.toNat_and, BitVec.toNat_ofNat, BitVec.toNat_ofNat, Nat.mod_eq_of_lt (by omega), Nat.mod_eq_of_lt (by omega)]
  exact wrap_nat (Nat.lt_of_le_of_lt Nat.and_le_left ha)
theorem bor_nat {a b : Nat} (ha : a < 9223372036854775808) (hb : b < 9223372036854775808) : bor (a : Int) (b : Int) = ((a ||| b : Nat) : Int) := by
  unfold bor
  rw [ofInt_nat, ofInt_nat, BitVec.toNat_or, BitVec.toNat_ofNat, BitVec.toNat_ofNat, Nat.mod_eq_of_lt (by omega), Nat.mod_eq_of_lt (by omega)]
  exact wrap_nat (Nat.or_lt_two_pow (n := 63) ha hb)
theorem bxor_nat {a b : Nat} (ha : a < 9223372036854775808) (hb : b < 9223372036854775808) : bxor (a : Int) (b : Int) = ((a ^^^ b : Nat) : Int) := by
  unfold bxor
  rw [ofInt_nat, ofInt_nat, BitVec.toNat_xor, BitVec.toNat_ofNat, BitVec.toNat_ofNat, Nat.mod_eq_of_lt (by omega), Nat.mod_eq_of_lt (by omega)]
  exact wrap_nat (Nat.xor_lt_two_pow (n := 63) ha hb)
theorem bclr_nat {a b : Nat} (ha : a < 9223372036854775808) : bclr (a : Int) (b : Int) = ((a ^^^ (a &&& b) : Nat) : Int) := by
  unfold bclr
  rw [ofInt_nat, ofInt_nat]
  have h : (BitVec.ofNat 64 a &&& ~~~ BitVec.ofNat 64 b).toNat = a ^^^ (a &&& b) := by
    apply Nat.eq_of_testBit_eq
    intro i
    rw [BitVec.testBit_toNat]
    simp only [BitVec.getLsbD_and, BitVec.getLsbD_not, BitVec.getLsbD_ofNat, Nat.testBit_xor, Nat.testBit_and]
    by_cases hi : i < 64
    · simp [hi]; cases a.testBit i <;> cases b.testBit i <;> rfl
    · have : a.testBit i = false := Nat.testBit_lt_two_pow (Nat.lt_of_lt_of_le ha (by
        have : 2 ^ 64 ≤ 2 ^ i := Nat.pow_le_pow_right (by omega) (by omega)
        omega))
      simp [this]
  rw [h]
  exact wrap_nat (Nat.xor_lt_two_pow (n := 63) ha (Nat.lt_of_le_of_lt Nat.and_le_left ha))
theorem shl_one {t : Nat} (h : t < 63) : shl 1 (t : Int) = ((2 ^ t : Nat) : Int) := by
  unfold shl
  rw [Int.toNat_natCast, Nat.min_eq_left (by omega)]
  have h1 : (1 : Int) * 2 ^ t = ((2 ^ t : Nat) : Int) := by simp
  rw [h1]
  exact wrap_nat (Nat.lt_of_le_of_lt (Nat.pow_le_pow_right (by omega) (by omega : t ≤ 62)) (by decide))
theorem shr_nat {a t : Nat} (h : t < 64) : shr (a : Int) (t : Int) = ((a / 2 ^ t : Nat) : Int) := by
  unfold shr
  rw [Int.toNat_natCast, Nat.min_eq_left (by omega)]
  rw [show (2 : Int) ^ t = ((2 ^ t : Nat) : Int) by simp, Int.fdiv_eq_ediv_of_nonneg _ (Int.natCast_nonneg _)]
  rfl
theorem bit_nat {a t : Nat} (ha : a < 9223372036854775808) (h : t < 64) : (band (shr (a : Int) (t : Int)) 1 == 0) = !a.testBit t := by
  rw [shr_nat h, show (1 : Int) = ((1 : Nat) : Int) from rfl, band_nat (Nat.lt_of_le_of_lt (Nat.div_le_self _ _) ha) (by omega)]
  rw [Nat.testBit_eq_decide_div_mod_eq, Nat.and_one_is_mod]
  have := Nat.mod_two_eq_zero_or_one (a / 2 ^ t)
  rcases this with h | h <;> simp [h]
/-- all bits of c stand in a -/
def subB (c a : Nat) : Bool := c &&& a == c
theorem has_clr {a c : Nat} (hc : c < 9223372036854775808) : (bclr (c : Int) (a : Int) == 0) = subB c a := by
  rw [bclr_nat hc]; unfold subB
  rw [Bool.eq_iff_iff, beq_iff_eq, beq_iff_eq]
  constructor
  · intro h
    have h' : c ^^^ (c &&& a) = 0 := by omega
    have := congrArg (· ^^^ (c &&& a)) h'
    simp only [Nat.xor_assoc, Nat.xor_self, Nat.xor_zero, Nat.zero_xor] at this
    exact this.symm
  · intro h; rw [h, Nat.xor_self]; rfl
theorem has_and {a c : Nat} (ha : a < 9223372036854775808) (hc : c < 9223372036854775808) : (band (a : Int) (c : Int) == (c : Int)) = subB c a := by
  rw [band_nat ha hc]; unfold subB
  rw [Bool.eq_iff_iff, beq_iff_eq, beq_iff_eq, Nat.and_comm]
  omega
theorem or_lt {a b : Nat} (ha : a < 9223372036854775808) (hb : b < 9223372036854775808) : a ||| b < 9223372036854775808 := Nat.or_lt_two_pow (n := 63) ha hb
end Go.Ga

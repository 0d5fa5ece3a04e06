/- A part of the proof of FnRequired: plain facts on the model. No condition. -/
import Derived.Below
import Derived.ChangeOld
import Derived.Laws.BytesArg
import Derived.Laws.StructEq
import Derived.Lib.ItoaNum
import Derived.Lib.LaidTab
import Derived.Lib.SmallJoins
import Derived.OpenShut
import Derived.ProofKit
import Derived.Shelf.SlSortCmp.NoneTotal
import Derived.ShutString
import Derived.SizedLaws
import Derived.Sort.Grow
import Derived.WalkKit
import Derived.Test.YtebbaacgalipaaaGreatFnRequiredA
set_option linter.unusedSimpArgs false
namespace Go.Ga
open Go

def wU (x : Int) : Int := IntKind.u64.wrap x
def uand (x y : Int) : Int := IntKind.u64.wrap (BitVec.ofInt 64 x &&& BitVec.ofInt 64 y).toNat
section
variable {P : Program} {N : Nat} {Q : Exit → Act → World → Prop} {e : Env} {C : World → Prop} {d : Option Tmp} {x y : Operand} {m n : Int} {t t' : TypeId} {ty : TypeId} {pos : String} {af : Array Edge} {g : Option (Nat × Bool)} {ops : Array Oper} {l : List Nat} {K : (World → Prop) → Prop}
theorem r_addU (hx : opv e x = some (.int .u64 m)) (hy : opv e y = some (.int .u64 n)) : Runs P N e C ⟨d, .binOp .add t x y t', ty, pos, af, g⟩ (.int .u64 (wU (m + n))) := fun a w ha _ => by
 simp [execOp, ha.eval hx, ha.eval hy, eqGuard, binOp, Op.intArith, wU]
theorem r_mulU (hx : opv e x = some (.int .u64 m)) (hy : opv e y = some (.int .u64 n)) : Runs P N e C ⟨d, .binOp .mul t x y t', ty, pos, af, g⟩ (.int .u64 (wU (m * n))) := fun a w ha _ => by
 simp [execOp, ha.eval hx, ha.eval hy, eqGuard, binOp, Op.intArith, wU]
theorem r_andU (hx : opv e x = some (.int .u64 m)) (hy : opv e y = some (.int .u64 n)) : Runs P N e C ⟨d, .binOp .and t x y t', ty, pos, af, g⟩ (.int .u64 (uand m n)) := fun a w ha _ => by
 simp [execOp, ha.eval hx, ha.eval hy, eqGuard, binOp, Op.intBits]; rfl
theorem r_shrU {k : IntKind} (hx : opv e x = some (.int .u64 m)) (hy : opv e y = some (.int k n)) (h0 : ¬ n < 0) : Runs P N e C ⟨d, .binOp .shr t x y t', ty, pos, af, g⟩ (.int .u64 (shr m n)) := fun a w ha _ => by
 simp [execOp, ha.eval hx, ha.eval hy, eqGuard, binOp, Op.shift, h0, shr]; rfl
end
section
variable {P : Program} {N : Nat} {Q : Exit → Act → World → Prop} {e : Env} {C : World → Prop} {ops : Array Oper} {i d : Nat} {o : Oper} {v : Value} {r : List (Nat × Bool)} {fin l : List Nat} {K : Value → (World → Prop) → Prop}
abbrev ZF (P : Program) (ops : Array Oper) (N : Nat) (Q : Exit → Act → World → Prop) (fin : List Nat) (r : List (Nat × Bool)) (e : Env) (C : World → Prop) := Str P ops N (Keep fun _ => True) (FinF P ops N Q fin) r e C
theorem Z.q (hi : ops[i]? = some o) (hd : o.dst = some d) (hN : Nat.blt d N = true) (hg : W ops N e o) (h : Runs P N e (fun _ => True) o v) (next : ZF P ops N Q fin r ((d, v) :: e) C) : ZF P ops N Q fin ((i, true) :: r) e C :=
 StrB.q (B := fun _ => True) (fun _ _ _ _ => trivial) (fun _ _ => trivial) hi (dok hd hN) hg h (by rw [putS hd]; exact next)
theorem Z.ef (hi : ops[i]? = some o) (hd : o.dst = some d) (hN : Nat.blt d N = true) (hg : W ops N e o) (h : Does P N e C o K) (hK : ∀ u C', K u C' → upC C')
  (next : ∀ u C', K u C' → ZF P ops N Q fin r ((d, u) :: e) C') : ZF P ops N Q fin ((i, false) :: r) e C :=
 StrB.ef (B := fun _ => True) hi (dok hd hN) hg h (fun u C' hk => ⟨hK u C' hk, fun _ _ => trivial⟩) (fun u C' hk => by rw [putS hd]; exact next u C' hk)
variable {dd : Option Tmp} {ty t el : TypeId} {pos : String} {af : Array Edge} {g : Option (Nat × Bool)} {x y y' : Operand}
theorem Z.nil (h : FinF P ops N Q fin e C) : ZF P ops N Q fin [] e C := h
end
end Go.Ga

namespace Go.Ga
open Go
structure Arr (n : Nat) where
 l : List Int
 len : l.length = n
variable {n : Nat}
def Arr.at (g : Arr n) (i : Int) : Int := g.l.getD i.toNat 0
def Arr.put (g : Arr n) (i v : Int) : Arr n := ⟨g.l.set i.toNat v, by rw [List.length_set]; exact g.len⟩
section
variable {P : Program} {N : Nat} {e : Env} {C : World → Prop} {w0 : World} {M : Nat → Prop} {rs : List Res}
variable {d : Option Tmp} {ty : TypeId} {pos : String} {af : Array Edge} {gd : Option (Nat × Bool)} {x y : Operand} {v : Value} {t : TypeId}
end
end Go.Ga

namespace Go.Ga
open Go
open Go.Ga.Rp (rep own)
open Go.Ga.Flat (enc)
set_option linter.unusedVariables false
set_option linter.unusedSimpArgs false
structure Sh (β : Type) where
 v : Value
 c : List β
 lf : isLeaf v = true
def Sh.nil {β : Type} : Sh β := ⟨.slice none 0 0, [], rfl⟩
instance {β : Type} : Rp (Sh β) := encRp 1 (fun x => [x.v]) (fun _ => rfl)
instance {β : Type} : Flat (Sh β) := ⟨fun x => [x.v], Iff.rfl, Iff.rfl⟩
instance {β : Type} : Leafy (Sh β) := ⟨fun x => by show ([x.v].all isLeaf) = true; simp [x.lf]⟩
section
variable {β : Type} [Rp β]
def Rows (w : World) : (Nat → Prop) → List (Sh β) → Prop
  | _, [] => True
  | S, t :: ts => ∃ S1 S2 : Nat → Prop, (∀ b, S1 b → S2 b → False) ∧ (∀ b, S1 b → S b) ∧ (∀ b, S2 b → S b) ∧ SlOwn w S1 t.v t.c ∧ Rows w S2 ts
theorem Rows.mono {w : World} : ∀ {ls : List (Sh β)} {S S' : Nat → Prop}, (∀ b, S b → S' b) → Rows w S ls → Rows w S' ls
  | [], _, _, _, _ => trivial
  | t :: ts, S, S', h, ⟨S1, S2, h1, h2, h3, h4, h5⟩ => ⟨S1, S2, h1, fun b hb => h b (h2 b hb), fun b hb => h b (h3 b hb), h4, h5⟩
theorem Rows.sub {w : World} {ls ls' : List (Sh β)} (h : ls'.Sublist ls) : ∀ {S : Nat → Prop}, Rows w S ls → Rows w S ls' := by
  induction h with
  | slnil => exact fun h => h
  | cons a _ ih => exact fun ⟨S1, S2, h1, h2, h3, h4, h5⟩ => (ih h5).mono h3
  | cons_cons a _ ih => exact fun ⟨S1, S2, h1, h2, h3, h4, h5⟩ => ⟨S1, S2, h1, h2, h3, h4, ih h5⟩
theorem Rows.get {w : World} : ∀ {ls : List (Sh β)} {S : Nat → Prop} {t : Sh β}, Rows w S ls → t ∈ ls → ∃ S1 : Nat → Prop, (∀ b, S1 b → S b) ∧ SlOwn w S1 t.v t.c
  | s :: ts, S, t, ⟨S1, S2, h1, h2, h3, h4, h5⟩, ht => by
    rcases List.mem_cons.1 ht with rfl | ht
    · exact ⟨S1, h2, h4⟩
    · obtain ⟨S3, k1, k2⟩ := h5.get ht
      exact ⟨S3, fun b hb => h3 b (k1 b hb), k2⟩
theorem Rows.mk {w : World} : ∀ {ls : List (Sh β)} {S : Nat → Prop} {f : Nat → Nat → Prop}, (∀ i j c, i ≠ j → f i c → f j c → False) → (∀ i c, f i c → S c) → (∀ i t, ls[i]? = some t → SlOwn w (f i) t.v t.c) → Rows w S ls
  | [], _, _, _, _, _ => trivial
  | t :: ts, S, f, h1, h2, h3 => ⟨f 0, fun c => ∃ i, f (i + 1) c, fun b hb ⟨i, hi⟩ => h1 0 (i + 1) b (by omega) hb hi, h2 0, fun b ⟨i, hi⟩ => h2 _ b hi, h3 0 t rfl,
      Rows.mk (f := fun i => f (i + 1)) (fun i j c hij => h1 _ _ c (by omega)) (fun i c hc => ⟨i, hc⟩) (fun i x hx => h3 (i + 1) x (by simpa using hx))⟩
variable {w0 w : World} {M : Nat → Prop} {rest : List Res} {S : Nat → Prop} {v : Value}
end
end Go.Ga

namespace Go.Ga
open Go
section
variable {P : Program} {N : Nat} {e : Env} {C : World → Prop} {d : Option Tmp} {ty : TypeId} {pos : String} {af : Array Edge} {g : Option (Nat × Bool)} {x y : Operand} {t t' : TypeId} {w : World}
end
end Go.Ga

namespace Go.Ga
open Go
open Go.Ga.Rp (rep own)
open Go.Ga.Flat (enc)

class Wf (α : Type) where
 wfd : α → Prop
open Go.Ga.Wf (wfd)
instance : Wf Int := ⟨fun x => -9223372036854775808 ≤ x ∧ x ≤ 9223372036854775807⟩
instance : Wf Bool := ⟨fun _ => True⟩
instance : Wf ByteArray := ⟨fun s => s.size ≤ maxLen⟩
instance {α : Type} [Wf α] : Wf (List α) := ⟨fun l => l.length ≤ maxLen ∧ ∀ x ∈ l, wfd x⟩
instance {α β : Type} [Wf α] [Wf β] : Wf (α × β) := ⟨fun x => wfd x.1 ∧ wfd x.2⟩

def Opn (P : Program) (t : TypeId) (α : Type) [Rp α] [Wf α] : Prop :=
 ∀ {H : Type} (enc : TypeId × Value → H) (w : World) (base : Nat) (spare : Nat → Bool) (held : Bool) (fuel : Nat) (cs : List Value) (y : DataW H × List MemPlace), (∀ b, spare b = true) →
  DataW.trod enc P w base spare held fuel t cs = some y → ∃ x : α, rep w (fun _ => True) cs x ∧ wfd x

section
variable {P : Program} {t : TypeId}
theorem cells_block {w : World} {a : Addr} {base n : Nat} {cs : List Value} (hn : 0 < n) (h : w.cells? base a n = some cs) :
  ∃ C T fr, w.heap[a.block]? = some (.cells C T fr) ∧ a.spot = none ∧ part C a.off n = cs ∧ a.off + n ≤ C.size := by
 obtain ⟨_, hl, hc⟩ := World.cells?_some h
 have h0 := hc 0 hn
 rw [List.getElem?_eq_getElem (by omega)] at h0
 have hz : a.add 0 = a := by simp [Addr.add]
 rw [hz] at h0
 have hsp := World.cell?_spot h0
 obtain ⟨b, off, sp⟩ := a
 simp only at hsp; subst hsp
 unfold World.cell? at h0
 split at h0
 ·rename_i C T fr hb
  have key : ∀ i, i < n → C[off + i]? = cs[i]? := fun i hi => by
   have := hc i hi
   rw [add_off] at this
   simpa [World.cell?, hb] using this
  have hsz : off + n ≤ C.size := by
   have h1 := key (n - 1) (by omega)
   rw [List.getElem?_eq_getElem (by omega)] at h1
   have := (Array.getElem?_eq_some_iff.1 h1).1
   omega
  refine ⟨C, T, fr, hb, rfl, ?_, hsz⟩
  refine List.ext_getElem? fun j => ?_
  simp only [part, List.getElem?_take, List.getElem?_drop]
  split
  ·rename_i hj; rw [Array.getElem?_toList]; exact key j hj
  ·rename_i hj; rw [List.getElem?_eq_none (by omega)]
 ·cases h0

theorem opn_slice {e : TypeId} {α : Type} [Rp α] [Wf α] (ht : P.underlying t = some (.slice e)) (hc : P.cellsOf e = Rp.n α) (hpos : 0 < Rp.n α) (he : Opn P e α) : Opn P t (List α) := fun enc w base spare held fuel cs y hsp h => by
  rcases DataW.trod_slice ht h with ⟨rfl, _⟩ | ⟨a, len, cap, elems, rest, n, rfl, rfl, _, hb, hl, hm, hlen, hel, hspare, _⟩
  · exact ⟨[], ⟨_, rfl, .inl ⟨rfl, rfl⟩⟩, Nat.zero_le _, by simp⟩
  · have hex : ∀ i, i < len → ∃ (x : α) (c : List Value), w.cells? base (a.add (i * Rp.n α)) (Rp.n α) = some c ∧ rep w (fun _ => True) c x ∧ wfd x := by
      intro i hi
      have h1 := hel i hi
      rw [List.getElem?_eq_getElem (by omega), Option.bind_eq_some_iff] at h1
      obtain ⟨c, h2, h3⟩ := h1
      obtain ⟨x, h4, h5⟩ := he enc w base spare held n c _ hsp h3
      rw [hc] at h2
      exact ⟨x, c, h2, h4, h5⟩
    by_cases hcap : cap = 0
    · subst hcap
      have : len = 0 := by omega
      subst this
      exact ⟨[], ⟨_, rfl, .inr (.inl ⟨a, rfl, rfl⟩)⟩, Nat.zero_le _, by simp⟩
    · have hcells : ∀ i, i < cap → ∃ c, w.cells? base (a.add (i * Rp.n α)) (Rp.n α) = some c := by
        intro i hi
        by_cases h1 : i < len
        · obtain ⟨_, c, h2, _⟩ := hex i h1; exact ⟨c, h2⟩
        · obtain ⟨h3, h4⟩ := hspare (hsp _)
          have h5 := h4 (i - len) (by omega)
          rw [List.getElem?_eq_getElem (by omega), Option.bind_eq_some_iff] at h5
          obtain ⟨c, h6, _⟩ := h5
          rw [hc, show len + (i - len) = i by omega] at h6
          exact ⟨c, h6⟩
      obtain ⟨c0, hc0⟩ := hcells 0 (by omega)
      rw [Nat.zero_mul] at hc0
      have hz : a.add 0 = a := by simp [Addr.add]
      rw [hz] at hc0
      obtain ⟨C, T, fr, hblk, hspot, _, _⟩ := cells_block hpos hc0
      obtain ⟨b, off, sp⟩ := a
      simp only at hspot; subst hspot
      have hall : ∀ i c, w.cells? base ((⟨b, off, none⟩ : Addr).add (i * Rp.n α)) (Rp.n α) = some c → part C (off + i * Rp.n α) (Rp.n α) = c ∧ off + i * Rp.n α + Rp.n α ≤ C.size := by
        intro i c hi
        rw [add_off] at hi
        obtain ⟨C', T', fr', h1, _, h2, h3⟩ := cells_block hpos hi
        simp only at h1 h2 h3
        simp only at hblk
        rw [hblk] at h1; cases h1
        exact ⟨h2, h3⟩
      obtain ⟨cl, hcl⟩ := hcells (cap - 1) (by omega)
      have hsz := (hall _ _ hcl).2
      have hmul : (cap - 1) * Rp.n α + Rp.n α = cap * Rp.n α := by
        rw [← Nat.succ_mul]; congr 1; omega
      -- the list
      have hchoose : ∃ l : List α, l.length = len ∧ ∀ i x, l[i]? = some x → rep w (fun _ => True) (part C (off + i * Rp.n α) (Rp.n α)) x ∧ wfd x := by
        have : ∀ m, m ≤ len → ∃ l : List α, l.length = m ∧ ∀ i x, l[i]? = some x → rep w (fun _ => True) (part C (off + i * Rp.n α) (Rp.n α)) x ∧ wfd x := by
          intro m
          induction m with
          | zero => intro _; exact ⟨[], rfl, by simp⟩
          | succ m ih =>
            intro hm
            obtain ⟨l, hl1, hl2⟩ := ih (by omega)
            obtain ⟨x, c, h1, h2, h3⟩ := hex m (by omega)
            have h4 := (hall m c h1).1
            refine ⟨l ++ [x], by simp [hl1], fun i z hi => ?_⟩
            rcases Nat.lt_or_ge i m with h | h
            · rw [List.getElem?_append_left (by omega)] at hi; exact hl2 i z hi
            · have : i = m := by have := (List.getElem?_eq_some_iff.1 hi).1; simp [hl1] at this; omega
              subst this
              rw [List.getElem?_append_right (by omega)] at hi
              simp [hl1] at hi; subst hi
              rw [h4]; exact ⟨h2, h3⟩
        exact this len (Nat.le_refl _)
      obtain ⟨l, hl1, hl2⟩ := hchoose
      refine ⟨l, ⟨_, rfl, .inr (.inr ⟨b, off, cap, C, T, fr, trivial, by rw [hl1], by omega, hblk, by omega, fun i x hx => (hl2 i x hx).1⟩)⟩, by omega, fun x hx => ?_⟩
      obtain ⟨i, hi⟩ := List.getElem?_of_mem hx
      exact (hl2 i x hi).2

end
theorem Ext.below {w w' : World} (h : Ext w w') : RowKit.Below w.heap.size w w' := ⟨h.os, h.tape, h.output, h.size, h.block⟩
end Go.Ga

namespace Go.Ga
open Go
open Go.Ga.Rp (rep own)
open Go.Ga.Flat (enc)
open Go.Ga.Wf (wfd)
structure By where
 v : Int
deriving DecidableEq
instance : Rp By := encRp 1 (fun x => [.int .u8 x.v]) (fun _ => rfl)
instance : Flat By := ⟨fun x => [.int .u8 x.v], Iff.rfl, Iff.rfl⟩
instance : Leafy By := ⟨fun _ => rfl⟩
instance : OwnLeaf By := ⟨fun h => by rw [Flat.own_iff.1 h]; rfl⟩
instance : Wf By := ⟨fun x => 0 ≤ x.v ∧ x.v ≤ 255⟩
theorem lit_wfB {n : Int} (h : (Lit.int .u8 n).wf = true) : 0 ≤ n ∧ n ≤ 255 := by
 simp only [Lit.wf, IntKind.min, IntKind.max, IntKind.signed, IntKind.bits, Bool.and_eq_true, decide_eq_true_eq] at h
 simp at h; omega
theorem opn_by {P : Program} {t : TypeId} (ht : P.underlying t = some (.int .u8)) : Opn P t By := fun enc w base spare held fuel cs y _ h => by
 obtain ⟨n, rfl, _, hw⟩ := DataW.trod_int ht h
 exact ⟨⟨n⟩, rfl, lit_wfB hw⟩
section
variable {P : Program} {N : Nat} {e : Env} {C : World → Prop} {d : Option Tmp} {ty : TypeId} {pos : String} {af : Array Edge} {g : Option (Nat × Bool)} {x y : Operand} {t t' el : TypeId}
end
end Go.Ga
namespace Go.Ga
open Go
theorem r_nilC {P : Program} {N : Nat} {e : Env} {C : World → Prop} {d : Option Tmp} {ty : TypeId} {pos : String} {af : Array Edge} {g : Option (Nat × Bool)} {x : Operand} {p : Addr} (hx : opv e x = some (.pointer (some p))) :
  Runs P N e C ⟨d, .nilCheck x, ty, pos, af, g⟩ (.pointer (some p)) := fun a w ha _ => by
 simp [execOp, ha.eval hx]
end Go.Ga
namespace Go.Ga
open Go
end Go.Ga
namespace Go.Ga
open Go
section
variable {P : Program} {N : Nat} {Q : Exit → Act → World → Prop} {e : Env} {C : World → Prop} {ops : Array Oper} {i d : Nat} {o : Oper} {v : Value} {t r : Tre} {fin : List Nat}
theorem Tri.drawTK {B : World → Prop} {id : Nat} (hm : P.follows .mixedOrders = true) (hC : upC C) (all fin : List Nat) (t : Tre) (hck : checkT ops all fin t = true)
  (h : StrT P ops N (Keep B) (FinF P ops N Q fin) t e C) : Tri P N Q (.region id ops true) e C := by
 intro a w ha hw
 simp only [checkT, Bool.and_eq_true] at hck
 obtain ⟨⟨h1, h4⟩, h2⟩ := hck
 have h4 := Nat.eq_of_beq_eq_true h4
 refine wp_region_any hm ?_
 have hR := (StrT.sound (P := P) (Q := Q) h1 (by simp) h2 (fun j o _ hl => by
  simp only [Array.getD_eq_getD_getElem?, Array.getElem?_replicate] at hl
  split at hl <;> simp at hl) hC h a ha).1 rfl
 rw [h4] at hR
 exact hR.sound _ (hC w _ hw (Ext.drew w))
theorem TK.q {w0 : World} {M : Nat → Prop} {rs l : List Res} (is : List Nat) (hl : Ga.pick rs is = some l) (hn : noDup is = true) (hi : ops[i]? = some o) (hd : o.dst = some d) (hN : Nat.blt d N = true) (hg : W ops N e o) (h : Runs P N e (Sep w0 M l) o v) (next : TF P ops N (Sep w0 M l) Q fin t ((d, v) :: e) (Sep w0 M rs)) : TF P ops N (Sep w0 M l) Q fin (.q i t) e (Sep w0 M rs) :=
 ⟨o, v, hi, dok hd hN, ⟨Sep w0 M l, fun _ h => h.pick hl hn, Sep.up, fun _ _ _ h => h, fun w w' h k => Sep.up w w' h k, .inl ⟨hg, fun _ _ ha hw => h.fine ha hw⟩⟩, by rw [putS hd]; exact next⟩
theorem TK.qc {w0 : World} {M : Nat → Prop} {rs l : List Res} (is : List Nat) (hl : Ga.pick rs is = some l) (hn : noDup is = true) (hi : ops[i]? = some o) (hd : o.dst = some d) (hN : Nat.blt d N = true) (hg : W ops N e o) (h : ∀ a w, Has N a e → Sep w0 M l w → fine P o a w (fun u w' => u = v ∧ Ext w w'))
  (next : TF P ops N (Sep w0 M l) Q fin t ((d, v) :: e) (Sep w0 M rs)) : TF P ops N (Sep w0 M l) Q fin (.q i t) e (Sep w0 M rs) :=
 ⟨o, v, hi, dok hd hN, ⟨Sep w0 M l, fun _ h => h.pick hl hn, Sep.up, fun _ _ _ h => h, fun w w' h k => Sep.up w w' h k, .inl ⟨hg, h⟩⟩, by rw [putS hd]; exact next⟩
end
end Go.Ga

namespace Go.Ga
open Go
section
variable {P : Program} {ops : Array Oper} {N : Nat} {Q : Exit → Act → World → Prop} {fin : List Nat} {r : List (Nat × Bool)} {e : Env} {C : World → Prop} {i d : Nat} {o : Oper} {v : Value}

theorem K.q {w0 : World} {M : Nat → Prop} {rs l : List Res} (is : List Nat) (hl : Ga.pick rs is = some l) (hn : noDup is = true) (hi : ops[i]? = some o) (hd : o.dst = some d) (hN : Nat.blt d N = true) (hg : W ops N e o) (h : Runs P N e (Sep w0 M l) o v) (next : BF P ops N (Sep w0 M l) Q fin r ((d, v) :: e) (Sep w0 M rs)) : BF P ops N (Sep w0 M l) Q fin ((i, true) :: r) e (Sep w0 M rs) :=
 StrB.q Sep.up (fun _ hw => hw.pick hl hn) hi (dok hd hN) hg h (by rw [putS hd]; exact next)
theorem K.sk {w0 : World} {M : Nat → Prop} {rs l : List Res} (is : List Nat) (hl : Ga.pick rs is = some l) (hn : noDup is = true) (hi : ops[i]? = some o) (hd : o.dst = some d) (hN : Nat.blt d N = true) (hg : Wanted ops N e o false) (next : BF P ops N (Sep w0 M l) Q fin r ((d, undef) :: e) (Sep w0 M rs)) : BF P ops N (Sep w0 M l) Q fin ((i, true) :: r) e (Sep w0 M rs) :=
 StrB.sk Sep.up (fun _ hw => hw.pick hl hn) hi (dok hd hN) hg (by rw [putS hd]; exact next)
theorem K.qc {w0 : World} {M : Nat → Prop} {rs l : List Res} (is : List Nat) (hl : Ga.pick rs is = some l) (hn : noDup is = true) (hi : ops[i]? = some o) (hd : o.dst = some d) (hN : Nat.blt d N = true) (hg : W ops N e o) (h : ∀ a w, Has N a e → Sep w0 M l w → fine P o a w (fun u w' => u = v ∧ Ext w w'))
  (next : BF P ops N (Sep w0 M l) Q fin r ((d, v) :: e) (Sep w0 M rs)) : BF P ops N (Sep w0 M l) Q fin ((i, true) :: r) e (Sep w0 M rs) :=
 StrB.qc Sep.up (fun _ hw => hw.pick hl hn) hi (dok hd hN) hg h (by rw [putS hd]; exact next)
theorem Tri.drawK {B : World → Prop} {id : Nat} (hm : P.follows .mixedOrders = true) (hC : upC C) (steps : List (Nat × Bool)) (fin : List Nat) (hck : checkR ops steps fin = true) (h : Str P ops N (Keep B) (FinF P ops N Q fin) steps e C) : Tri P N Q (.region id ops true) e C := Tri.draw hm hC steps fin hck h
end
section
variable {P : Program} {N : Nat} {e : Env} {w0 : World} {M : Nat → Prop} {rs : List Res} {d : Option Tmp} {t el ty src dst : TypeId} {pos : String} {af : Array Edge} {g : Option (Nat × Bool)}
end
end Go.Ga

namespace Go.Ga
open Go Go.Sort
open Go.Ga.Rp (rep own)
open Go.Ga.Flat (enc)
set_option linter.unusedVariables false
set_option linter.unusedSimpArgs false
theorem putCells_list {α : Type} [Inhabited α] (f : α → Value) (off : Nat) (d : Array α) (pre A post : List Value) (hp : pre.length = off) (hA : A.length = d.size) :
    putCells f off d (pre ++ A ++ post).toArray = (pre ++ d.toList.map f ++ post).toArray := by
  subst hp
  apply Array.ext_getElem?
  intro k
  simp only [putCells, Array.getElem?_mapIdx, List.getElem?_toArray]
  rcases Nat.lt_or_ge k pre.length with h | h
  · rw [List.append_assoc, List.append_assoc, List.getElem?_append_left (by omega), List.getElem?_append_left (by omega)]
    cases pre[k]? with
    | none => rfl
    | some x => rw [Option.map_some, if_neg (fun hh => by omega)]
  · have e0 : ∀ Z : List Value, (pre ++ Z ++ post)[k]? = (Z ++ post)[k - pre.length]? := fun Z => by rw [List.append_assoc]; exact List.getElem?_append_right (by omega)
    rw [e0, e0]
    rcases Nat.lt_or_ge (k - pre.length) d.size with h2 | h2
    · have e1 : (A ++ post)[k - pre.length]? = A[k - pre.length]? := List.getElem?_append_left (by omega)
      have e2 : (d.toList.map f ++ post)[k - pre.length]? = (d.toList.map f)[k - pre.length]? := List.getElem?_append_left (by simpa using h2)
      have e3 : A[k - pre.length]? = some (A[k - pre.length]'(by omega)) := List.getElem?_eq_getElem (by omega)
      rw [e1, e2, e3, Option.map_some, if_pos ⟨h, by omega⟩, List.getElem?_map, Array.getElem?_toList, Array.getElem?_eq_getElem h2, Option.map_some, getElem!_pos d _ h2]
    · have e1 : (A ++ post)[k - pre.length]? = post[k - pre.length - d.size]? := by rw [List.getElem?_append_right (by omega), hA]
      have e2 : (d.toList.map f ++ post)[k - pre.length]? = post[k - pre.length - d.size]? := by rw [List.getElem?_append_right (by simpa using h2), List.length_map]; rfl
      rw [e1, e2]
      cases post[k - pre.length - d.size]? with
      | none => rfl
      | some x => rw [Option.map_some, if_neg (fun hh => by omega)]
theorem heap_putRow {α : Type} [Inhabited α] (f : α → Value) (w : World) (b off : Nat) (d : Array α) (k : Nat) (h : k ≠ b) : (putRow f w b off d).heap[k]? = w.heap[k]? := by
 simp only [putRow, mapBlock, Array.getElem?_modify]
 rw [if_neg (fun e => h e.symm)]
theorem heap_putRow_self {α : Type} [Inhabited α] (f : α → Value) (w : World) (b off : Nat) (d : Array α) {C : Array Value} {T : TypeId} {fr : Nat × Nat} (h : w.heap[b]? = some (.cells C T fr)) : (putRow f w b off d).heap[b]? = some (.cells (putCells f off d C) T fr) := by
 simp only [putRow, mapBlock, Array.getElem?_modify, if_true, h]
 rfl
section
variable {α β : Type} [Rp α] [Flat α] [Inhabited β] {w0 w w' : World} {M : Nat → Prop} {rs : List Res} {i : Nat} {S : Nat → Prop} {l l' : List α} {b off cap : Nat} {T : TypeId} {pre post : List Value}
theorem row_back (f : β → Value) (d : Array β) (hw : Sep w0 M rs w) (hr : rs[i]? = some (R.sl S (.slice (some ⟨b, off, none⟩) l.length cap) l)) (g1 : S b) (g3 : l.length ≤ cap) (g4 : pre.length = off)
  (g5 : w.heap[b]? = some (.cells (pre ++ encs l ++ post).toArray T (0, 0))) (g6 : off + cap * Rp.n α ≤ (pre ++ encs l ++ post).length) (n : Nat) (os : Array Obj)
  (hd : d.toList.map f = encs l') (hl : l'.length = l.length) (he : w' = grow (putRow f (Sort.ahead w n) b off d) os) : Sep w0 M (rs.set i (R.sl S (.slice (some ⟨b, off, none⟩) l.length cap) l')) w' := by
 subst he
 have hb : b < w.heap.size := block_lt g5
 have hds : (encs l).length = d.size := by
  have := congrArg List.length hd
  rw [List.length_map, Array.length_toList, encs_length, hl, ← encs_length] at this
  exact this.symm
 have h1 : (grow (putRow f (Sort.ahead w n) b off d) os).heap[b]? = some (.cells (pre ++ encs l' ++ post).toArray T (0, 0)) := by
  rw [heap_grow_old _ _ (by rw [size_putRow]; exact hb), heap_putRow_self f (Sort.ahead w n) b off d g5, putCells_list f off d pre (encs l) post g4 hds, hd]
 refine hw.set hr ⟨rfl, rfl, rfl, ?_, Nat.le_add_right _ _, fun k hk hn => ?_⟩ ?_ (fun c hc => ⟨.inl hc, ?_⟩)
 ·simp [grow, Sort.ahead]
 ·rw [heap_grow_old _ _ (by rw [size_putRow]; exact hk), heap_putRow]
  ·rfl
  ·intro e; subst e; exact hn g1
 ·have := slOwn_block (S := S) (pre := pre) (off := off) (cap := cap) (l := l') (b := b) (T := T) (post := post) g1 h1 g4 (by rw [hl]; exact g3) (by
   simp only [List.length_append, encs_length, hl] at g6 ⊢; exact g6)
  rw [hl] at this; exact this
 ·have := (hw.foot _ (List.mem_of_getElem? hr) c hc).2
  refine Nat.lt_of_lt_of_le this ?_
  simp [grow, Sort.ahead]
end
theorem encs_int (l : List Int) : encs l = l.map (Value.int .i64) := by
  induction l with
  | nil => rfl
  | cons x l ih => show enc x ++ encs l = _; rw [ih]; rfl
end Go.Ga

namespace Go.Ga
open Go Go.Sort
open Go.Ga.Rp (rep own)
open Go.Ga.Flat (enc)
set_option linter.unusedVariables false
set_option linter.unusedSimpArgs false
abbrev Tri3 := Int × Int × Int
def TLt (x y : Tri3) : Prop := x.1 < y.1 ∨ x.1 = y.1 ∧ (x.2.1 < y.2.1 ∨ x.2.1 = y.2.1 ∧ x.2.2 < y.2.2)
instance (x y : Tri3) : Decidable (TLt x y) := by unfold TLt; infer_instance
theorem Ext.grown {w w' : World} (h : Ext w w') : ∃ q os, w' = grow (w.drewN q) os := by
 refine ⟨w'.drawn - w.drawn, w'.heap.extract w.heap.size w'.heap.size, ?_⟩
 obtain ⟨heap, tape, drawn, os, output⟩ := w
 obtain ⟨heap', tape', drawn', os', output'⟩ := w'
 obtain ⟨h1, h2, h3, h4, h5, h6⟩ := h
 simp only at h1 h2 h3 h4 h5 h6
 subst h1; subst h2; subst h3
 simp only [grow, World.drewN]
 congr 1
 ·apply Array.ext_getElem?
  intro k
  rw [Array.getElem?_append]
  split
  ·rename_i hk; exact h6 k hk
  ·rename_i hk
   rw [Array.getElem?_extract]
   rcases Nat.lt_or_ge k heap'.size with hk2 | hk2
   ·rw [if_pos (by omega)]; congr 1; omega
   ·rw [if_neg (by omega), Array.getElem?_eq_none hk2]
 ·omega
end Go.Ga
namespace Go.Ga
open Go Go.Sort
open Go.Ga.Rp (rep own)
open Go.Ga.Flat (enc)
theorem CallOk.run {P : Program} {f : FuncId} (h : CallOk P f) (args : Array Value) (w : World) : (callFunc f args).run P w = .ok (.enter f args) w := by
 obtain ⟨fn, h1, h2, h3⟩ := h
 have h2' : ¬ fn.body = none := fun h => by simp [h] at h2
 have h3' : ¬ fn.name = "runtime.NumGoroutine" := by simpa using h3
 simp [callFunc, h1, h2', h3']
end Go.Ga

namespace Go.Ga
open Go Go.Sort
open Go.Ga.Rp (rep own)
open Go.Ga.Flat (enc)
set_option linter.unusedVariables false
set_option linter.unusedSimpArgs false
def Whole (cf : Int → Int → Int) : Prop := SWO (Go.Proofs.ltOf cf) ∧ ∀ x y, Go.Proofs.ltOf cf x y = false → Go.Proofs.ltOf cf y x = false → x = y
theorem sortI_ok {P : Program} {F : Nat} (h0 : ∀ fv w, Calls P F #[.slice none 0 0, fv] w fun e w' => e = .returned (.tuple #[]) ∧ w' = w)
  (hc : ∀ (g : FuncId), (∀ args w, (callFunc g args).run P w = .ok (.enter g args) w) → ∀ (cf : Int → Int → Int), SWO (Go.Proofs.ltOf cf) → ∀ (cb : Array Value) (blk off cap : Nat) (d : Array Int) (w : World), Go.Proofs.CmpLays1 P g cb (Value.int .i64) cf blk off d.size w → Holds (Value.int .i64) w blk off d → blk < w.heap.size → d.size < 4611686018427387904 → (∀ x y, Go.Proofs.ltOf cf x y = false → Go.Proofs.ltOf cf y x = false → x = y) →
   Calls P F #[.slice (some ⟨blk, off, none⟩) d.size cap, .func (.func g) #[] cb] w fun e w' => e = .returned (.tuple #[]) ∧ ∃ n os, w' = Go.Proofs.sortWorld (Value.int .i64) w blk off n (d.toList.mergeSort fun x y => !(Go.Proofs.ltOf cf) y x).toArray os)
  {a0 r0 : List Int} {a1 : Int → Int → Option Int} (hsz : a0.length < 4611686018427387904) {cf : Int → Int → Int} (hcf : Whole cf) (ha1 : ∀ x y : Int, a1 x y = some (cf x y)) (hr : r0 = a0.mergeSort fun x y => !(Go.Proofs.ltOf cf) y x)
  (w : World) {v : Value} {S : Nat → Prop} (hl : SlLen v a0.length) {fi : FuncId} {ca : Array Value} (ho : CallOk P fi)
  (hf : ∀ w2, Kp (footM [R.sl S v a0]) w w2 → ∀ (z0 z1 : Int) (y : Int), a1 z0 z1 = some y → Calls P fi (([.int .i64 z0, .int .i64 z1] : List Value) ++ ca.toList).toArray w2 (fun e w3 => e = .returned (.int .i64 y) ∧ Ext w2 w3))
  (hw : Sep w (footM [R.sl S v a0]) [R.sl S v a0] w) :
  Calls P F ([v, .func (.func fi) #[] ca] : List Value).toArray w (PostM (footM [R.sl S v a0]) (fun u ns => u = .tuple #[] ∧ SlLen v r0.length ∧ ns = [R.sl S v r0]) w) := by
 subst hr
 have hlen : (a0.mergeSort fun x y => !(Go.Proofs.ltOf cf) y x).length = a0.length := List.length_mergeSort _
 rcases slOwn_open (hw.get (i := 0) rfl) with ⟨rfl, rfl⟩ | ⟨b, off, cap, T, pre, post, g1, rfl, g3, g4, g5, g6⟩
 ·have e0 : ([] : List Int).mergeSort (fun x y => !(Go.Proofs.ltOf cf) y x) = [] := by simp
  refine (h0 _ w).mono fun e w' ⟨he, hw'⟩ => ⟨_, _, he, ⟨rfl, by rw [hlen]; exact hl, rfl⟩, ?_⟩
  subst hw'; rw [e0]; exact hw
 ·have hb := block_lt g5
  refine (hc fi ho.run cf hcf.1 ca b off cap a0.toArray w (fun m os dk hdk x y => ?_) (fun j hj => ?_) hb (by simpa using hsz) hcf.2).mono fun e' w' ⟨he, n, os, hw'⟩ => ⟨_, _, he, ⟨rfl, by rw [hlen]; exact hl, rfl⟩, ?_⟩
  ·have hk : Kp (footM [R.sl S (.slice (some ⟨b, off, none⟩) a0.length cap) a0]) w (Go.Proofs.sortWorld (Value.int .i64) w b off m dk os) := by
    refine ⟨rfl, rfl, rfl, ?_, Nat.le_add_right _ _, fun k hk hn => ?_⟩
    ·simp [Go.Proofs.sortWorld, grow, Sort.ahead, putRow, mapBlock]
    ·unfold Go.Proofs.sortWorld
     rw [heap_grow_old _ _ (by rw [size_putRow]; exact hk)]
     rw [heap_putRow]
     ·rfl
     ·intro e; subst e; exact hn ⟨_, List.mem_cons_self .., g1⟩
   have h1 := hf _ hk x y (cf x y) (ha1 x y)
   have ea : (([.int .i64 x, .int .i64 y] : List Value) ++ ca.toList).toArray = #[Value.int .i64 x, Value.int .i64 y] ++ ca := by
    apply Array.ext'
    simp
   rw [ea] at h1
   exact h1.mono fun e w3 ⟨h2, h3⟩ => ⟨h2, h3.grown⟩
  ·have hj' : j < a0.length := by simpa using hj
   have hc : (pre ++ encs a0 ++ post).toArray[off + j]? = some (Value.int .i64 a0[j]) := by
    rw [List.getElem?_toArray, List.append_assoc, List.getElem?_append_right (by omega), g4, Nat.add_sub_cancel_left, encs_int, List.getElem?_append_left (by simpa using hj'), List.getElem?_map, List.getElem?_eq_getElem hj']; rfl
   refine ⟨?_, ?_⟩
   ·rw [cell_of_block g5 hc, getElem!_pos _ j hj]; rfl
   ·simp [World.frozen?, g5]
  ·have := row_back (w' := w') (i := 0) (Value.int .i64) (a0.mergeSort fun x y => !(Go.Proofs.ltOf cf) y x).toArray hw rfl g1 g3 g4 g5 g6 n os (encs_int _).symm hlen (by rw [hw']; rfl)
   exact this
end Go.Ga

namespace Go.Ga
open Go
open Go.Ga.Rp (rep own)
open Go.Ga.Flat (enc)
section
variable {P : Program} {N : Nat} {e : Env} {C : World → Prop} {d : Option Tmp} {ty : TypeId} {pos : String} {af : Array Edge} {g : Option (Nat × Bool)} {x : Operand} {src dst el : TypeId}
end
end Go.Ga

namespace Go.Ga
open Go
open Go.Ga.Rp (rep own)
open Go.Ga.Flat (enc)
open Go.Ga.Wf (wfd)
def Big : Nat := 1125899906842624
theorem w64_id {x : Int} (h : -9223372036854775808 ≤ x) (h' : x ≤ 9223372036854775807) : w64 x = x := by
 unfold w64 IntKind.wrap
 simp [IntKind.bits, IntKind.signed]
 omega
theorem rdl_nat {α : Type} (l : List α) (i : Nat) : rdl l (i : Int) = l[i]? := by simp [rdl]
theorem rdl_lt {α : Type} {l : List α} {i : Nat} (h : i < l.length) : rdl l (i : Int) = some l[i] := by simp [rdl, h]

def itr {S : Type} (g : Nat → S → S) : Nat → Nat → S → S
  | 0, _, s => s
  | m + 1, i, s => itr g m (i + 1) (g i s)
theorem loop_state {S β : Type} {l : Nat → S → Int → Option β} {N : Nat} {g : Nat → S → S} {out : S → Option β} (Inv : Nat → S → Prop)
    (hs : ∀ n i s, i < N → Inv i s → l (n + 1) s (i : Int) = l n (g i s) ((i + 1 : Nat) : Int) ∧ Inv (i + 1) (g i s))
    (he : ∀ n s, Inv N s → l (n + 1) s (N : Int) = out s) {k : Nat} (hk : N < k) {s : S} (h0 : Inv 0 s) :
    l k s 0 = out (itr g N 0 s) ∧ Inv N (itr g N 0 s) := by
  have key : ∀ m i k s, i + m = N → m < k → Inv i s → l k s (i : Int) = out (itr g m i s) ∧ Inv N (itr g m i s) := by
    intro m
    induction m with
    | zero =>
      intro i k s hi hk hI
      obtain ⟨n, rfl⟩ : ∃ n, k = n + 1 := ⟨k - 1, by omega⟩
      have : i = N := by omega
      subst this
      exact ⟨he n s hI, hI⟩
    | succ m ih =>
      intro i k s hi hk hI
      obtain ⟨n, rfl⟩ : ∃ n, k = n + 1 := ⟨k - 1, by omega⟩
      obtain ⟨h1, h2⟩ := hs n i s (by omega) hI
      rw [h1]
      exact ih (i + 1) n _ (by omega) (by omega) h2
  have := key N 0 k s (by omega) hk h0
  simpa using this
def itx {S R : Type} (g : Nat → S → S ⊕ R) : Nat → Nat → S → S ⊕ R
  | 0, _, s => .inl s
  | m + 1, i, s => match g i s with | .inl s' => itx g m (i + 1) s' | .inr r => .inr r
theorem loop_all {R : Type} {l : Nat → Int → Option (Unit ⊕ R)} {N : Nat} (ok : Nat → Bool) {z : R}
    (hs : ∀ n (i : Nat), i < N → l (n + 1) (i : Int) = if ok i = true then l n ((i + 1 : Nat) : Int) else some (.inr z))
    (he : ∀ n, l (n + 1) (N : Int) = some (.inl ())) {k : Nat} (hk : N < k) :
    l k 0 = some (if ∀ i, i < N → ok i = true then .inl () else .inr z) := by
  have key : ∀ m i k, i + m = N → m < k → l k (i : Int) = some (if (List.range' i m).all ok = true then .inl () else .inr z) := by
    intro m
    induction m with
    | zero =>
      intro i k hi hk
      obtain ⟨n, rfl⟩ : ∃ n, k = n + 1 := ⟨k - 1, by omega⟩
      have : i = N := by omega
      subst this
      rw [he]; rfl
    | succ m ih =>
      intro i k hi hk
      obtain ⟨n, rfl⟩ : ∃ n, k = n + 1 := ⟨k - 1, by omega⟩
      rw [hs n i (by omega), List.range'_succ, List.all_cons]
      by_cases h : ok i = true
      · rw [if_pos h, ih (i + 1) n (by omega) (by omega), h, Bool.true_and]
      · rw [if_neg h, if_neg (by simp [h])]
  have := key N 0 k (by omega) hk
  rw [show ((0 : Nat) : Int) = 0 from rfl] at this
  rw [this]
  congr 1
  have e : (List.range' 0 N).all ok = true ↔ ∀ i, i < N → ok i = true := by simp [List.all_eq_true, List.mem_range'_1]
  by_cases h : (List.range' 0 N).all ok = true
  · rw [if_pos h, if_pos (e.1 h)]
  · rw [if_neg h, if_neg (fun H => h (e.2 H))]
theorem loop_find {R T : Type} {l : Nat → Int → Option (T ⊕ R)} {N : Nat} (g : Nat → Option R) {z : T ⊕ R}
    (hs : ∀ n (i : Nat), i < N → l (n + 1) (i : Int) = match g i with | none => l n ((i + 1 : Nat) : Int) | some r => some (.inr r))
    (he : ∀ n, l (n + 1) (N : Int) = some z) {k : Nat} (hk : N < k) :
    l k 0 = some (match (List.range N).findSome? g with | none => z | some r => .inr r) := by
  have key : ∀ m i k, i + m = N → m < k → l k (i : Int) = some (match (List.range' i m).findSome? g with | none => z | some r => .inr r) := by
    intro m
    induction m with
    | zero =>
      intro i k hi hk
      obtain ⟨n, rfl⟩ : ∃ n, k = n + 1 := ⟨k - 1, by omega⟩
      have : i = N := by omega
      subst this
      rw [he]; rfl
    | succ m ih =>
      intro i k hi hk
      obtain ⟨n, rfl⟩ : ∃ n, k = n + 1 := ⟨k - 1, by omega⟩
      rw [hs n i (by omega), List.range'_succ, List.findSome?_cons]
      cases h : g i with
      | none => simp only []; exact ih (i + 1) n (by omega) (by omega)
      | some r => simp only []
  have := key N 0 k (by omega) hk
  rw [show ((0 : Nat) : Int) = 0 from rfl] at this
  rw [this, List.range_eq_range']
theorem Lr_ite {X : Type} {R : Type} {c : Prop} [Decidable c] {z : R} {g : R → Option X} {f : Unit → Option X} : Lr (if c then .inl () else .inr z) g f = if c then f () else g z := by split <;> rfl
end Go.Ga

namespace Go.Ga
open Go
theorem wrap_nat {n : Nat} (h : n < 9223372036854775808) : IntKind.i64.wrap (n : Int) = n := w64_id (by omega) (by omega)
theorem ofInt_nat (n : Nat) : BitVec.ofInt 64 (n : Int) = BitVec.ofNat 64 n := by simp
theorem band_nat {a b : Nat} (ha : a < 9223372036854775808) (hb : b < 9223372036854775808) : band (a : Int) (b : Int) = ((a &&& b : Nat) : Int) := by
 unfold band
 rw [ofInt_nat, ofInt_nat, BitVec.toNat_and, BitVec.toNat_ofNat, BitVec.toNat_ofNat, Nat.mod_eq_of_lt (by omega), Nat.mod_eq_of_lt (by omega)]
 exact wrap_nat (Nat.lt_of_le_of_lt Nat.and_le_left ha)
theorem bor_nat {a b : Nat} (ha : a < 9223372036854775808) (hb : b < 9223372036854775808) : bor (a : Int) (b : Int) = ((a ||| b : Nat) : Int) := by
 unfold bor
 rw [ofInt_nat, ofInt_nat, BitVec.toNat_or, BitVec.toNat_ofNat, BitVec.toNat_ofNat, Nat.mod_eq_of_lt (by omega), Nat.mod_eq_of_lt (by omega)]
 exact wrap_nat (Nat.or_lt_two_pow (n := 63) ha hb)
theorem bclr_nat {a b : Nat} (ha : a < 9223372036854775808) : bclr (a : Int) (b : Int) = ((a ^^^ (a &&& b) : Nat) : Int) := by
 unfold bclr
 rw [ofInt_nat, ofInt_nat]
 have h : (BitVec.ofNat 64 a &&& ~~~ BitVec.ofNat 64 b).toNat = a ^^^ (a &&& b) := by
  apply Nat.eq_of_testBit_eq
  intro i
  rw [BitVec.testBit_toNat]
  simp only [BitVec.getLsbD_and, BitVec.getLsbD_not, BitVec.getLsbD_ofNat, Nat.testBit_xor, Nat.testBit_and]
  by_cases hi : i < 64
  ·simp [hi]; cases a.testBit i <;> cases b.testBit i <;> rfl
  ·have : a.testBit i = false := Nat.testBit_lt_two_pow (Nat.lt_of_lt_of_le ha (by
    have : 2 ^ 64 ≤ 2 ^ i := Nat.pow_le_pow_right (by omega) (by omega)
    omega))
   simp [this]
 rw [h]
 exact wrap_nat (Nat.xor_lt_two_pow (n := 63) ha (Nat.lt_of_le_of_lt Nat.and_le_left ha))
theorem shl_one {t : Nat} (h : t < 63) : shl 1 (t : Int) = ((2 ^ t : Nat) : Int) := by
 unfold shl
 rw [Int.toNat_natCast, Nat.min_eq_left (by omega)]
 have h1 : (1 : Int) * 2 ^ t = ((2 ^ t : Nat) : Int) := by simp
 rw [h1]
 exact wrap_nat (Nat.lt_of_le_of_lt (Nat.pow_le_pow_right (by omega) (by omega : t ≤ 62)) (by decide))
theorem shr_nat {a t : Nat} (h : t < 64) : shr (a : Int) (t : Int) = ((a / 2 ^ t : Nat) : Int) := by
 unfold shr
 rw [Int.toNat_natCast, Nat.min_eq_left (by omega)]
 rw [show (2 : Int) ^ t = ((2 ^ t : Nat) : Int) by simp, Int.fdiv_eq_ediv_of_nonneg _ (Int.natCast_nonneg _)]
 rfl
theorem bit_nat {a t : Nat} (ha : a < 9223372036854775808) (h : t < 64) : (band (shr (a : Int) (t : Int)) 1 == 0) = !a.testBit t := by
 rw [shr_nat h, show (1 : Int) = ((1 : Nat) : Int) from rfl, band_nat (Nat.lt_of_le_of_lt (Nat.div_le_self _ _) ha) (by omega)]
 rw [Nat.testBit_eq_decide_div_mod_eq, Nat.and_one_is_mod]
 have := Nat.mod_two_eq_zero_or_one (a / 2 ^ t)
 rcases this with h | h <;> simp [h]
def subB (c a : Nat) : Bool := c &&& a == c
theorem has_clr {a c : Nat} (hc : c < 9223372036854775808) : (bclr (c : Int) (a : Int) == 0) = subB c a := by
 rw [bclr_nat hc]; unfold subB
 rw [Bool.eq_iff_iff, beq_iff_eq, beq_iff_eq]
 constructor
 ·intro h
  have h' : c ^^^ (c &&& a) = 0 := by omega
  have := congrArg (· ^^^ (c &&& a)) h'
  simp only [Nat.xor_assoc, Nat.xor_self, Nat.xor_zero, Nat.zero_xor] at this
  exact this.symm
 ·intro h; rw [h, Nat.xor_self]; rfl
theorem has_and {a c : Nat} (ha : a < 9223372036854775808) (hc : c < 9223372036854775808) : (band (a : Int) (c : Int) == (c : Int)) = subB c a := by
 rw [band_nat ha hc]; unfold subB
 rw [Bool.eq_iff_iff, beq_iff_eq, beq_iff_eq, Nat.and_comm]
 omega
end Go.Ga

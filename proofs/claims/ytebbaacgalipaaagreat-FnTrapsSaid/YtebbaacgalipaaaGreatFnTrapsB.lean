/- A part of the proof of FnTraps: plain facts on the model. No condition. -/
import Derived.Below
import Derived.ChangeOld
import Derived.Laws.BytesArg
import Derived.Laws.IdiomCopy
import Derived.Laws.StructEq
import Derived.Lib.ItoaNum
import Derived.Lib.LaidTab
import Derived.Lib.SmallJoins
import Derived.OpenShut
import Derived.ProofKit
import Derived.Shelf.SlSortCmp.NoneTotal
import Derived.Shelf.Slices.Empties
import Derived.Shelf.Slices.SearchI
import Derived.Shelf.Spec.SlicesInsert
import Derived.Shelf.Spec.SlicesInsertGrow
import Derived.ShutString
import Derived.SizedLaws
import Derived.Sort.Grow
import Derived.WalkKit
import Derived.Test.YtebbaacgalipaaaGreatFnTrapsA
set_option linter.unusedSimpArgs false
namespace Go.Ga
open Go
structure Arr (n : Nat) where
 l : List Int
 len : l.length = n
variable {n : Nat}
def encA (g : Arr n) : List Value := g.l.map fun x => Value.int .i64 x
def Arr.rep (n : Nat) (x : Int) : Arr n := ⟨List.replicate n x, List.length_replicate⟩
def Arr.at (g : Arr n) (i : Int) : Int := g.l.getD i.toNat 0
def Arr.put (g : Arr n) (i v : Int) : Arr n := ⟨g.l.set i.toNat v, by rw [List.length_set]; exact g.len⟩
theorem encA_len (g : Arr n) : (encA g).length = n := by unfold encA; rw [List.length_map]; exact g.len
theorem encA_le (g : Arr n) : 0 + n ≤ (encA g).length := by rw [encA_len]; omega
theorem encA_leaves (g : Arr n) : Leaves (encA g) := by
  have : ∀ l : List Int, Leaves (l.map fun x => Value.int .i64 x) := by
    intro l
    induction l with
    | nil => exact lf_nil
    | cons x l ih => exact lf_cons rfl ih
  exact this g.l
theorem encA_over (g h : Arr n) : over (encA g) 0 (encA h) = encA h := by
  have : ∀ (b a : List Value), b.length = a.length → over a 0 b = b := by
    intro b
    have key : ∀ (b a : List Value) (i : Nat) (p : List Value), p.length = i → b.length = a.length → over (p ++ a) i b = p ++ b := by
      intro b
      induction b with
      | nil => intro a i p hp hl; have : a = [] := List.length_eq_zero_iff.1 hl.symm; subst this; rfl
      | cons x b ih =>
        intro a i p hp hl
        cases a with
        | nil => simp at hl
        | cons y a =>
          show over ((p ++ y :: a).set i x) (i + 1) b = _
          rw [List.set_append_right _ _ (by omega), show i - p.length = 0 by omega, List.set_cons_zero, show p ++ x :: a = (p ++ [x]) ++ a by simp, ih a (i + 1) (p ++ [x]) (by simp; omega) (by simpa using hl)]
          simp
    intro a hl
    exact key b a 0 [] rfl hl
  exact this _ _ (by rw [encA_len, encA_len])
theorem encA_get (g : Arr n) {i : Nat} (h : i < n) : (encA g)[i]? = some (.int .i64 (g.l.getD i 0)) := by
 unfold encA
 rw [List.getElem?_map, List.getElem?_eq_getElem (by rw [g.len]; exact h), List.getD_eq_getElem?_getD, List.getElem?_eq_getElem (by rw [g.len]; exact h)]; rfl
theorem cell_tab {w : World} {p : Addr} {g : Arr n} {m : Nat} {i j : Int} (h : CellsAt w p (encA g)) (hi : 0 ≤ i ∧ i * m + m ≤ n) (hj : 0 ≤ j ∧ j < m) : w.cell? ((p.add (i.toNat * m)).add (j.toNat * 1)) = some (.int .i64 (g.at (i * m + j))) := by
 obtain ⟨a, rfl⟩ := Int.eq_ofNat_of_zero_le hi.1
 obtain ⟨b, rfl⟩ := Int.eq_ofNat_of_zero_le hj.1
 have e : ((a : Int) * (m : Int) + (b : Int)).toNat = a * m + b := by rw [← Int.natCast_mul, ← Int.natCast_add, Int.toNat_natCast]
 have hlt : a * m + b < n := by have := hi.2; have := hj.2; rw [← Int.natCast_mul] at *; omega
 have h1 := h (a * m + b) _ (encA_get g hlt)
 unfold Arr.at
 rw [e, Int.toNat_natCast, Int.toNat_natCast, Addr.add_add, Nat.mul_one]; exact h1
theorem Leaves.one (v : Int) : Leaves [Value.int .i64 v] := lf_cons rfl lf_nil
section
variable {P : Program} {N : Nat} {e : Env} {C : World → Prop} {w0 : World} {M : Nat → Prop} {rs : List Res}
variable {d : Option Tmp} {ty : TypeId} {pos : String} {af : Array Edge} {gd : Option (Nat × Bool)} {x y : Operand} {v : Value} {t : TypeId}
theorem d_storeTab {by' i b m : Nat} {z : Value} {T : TypeId} {g : Arr n} {r j u : Int} (hi : TInfo P t 1 by' z) (hx : opv e x = some (.pointer (some (((⟨b, 0, none⟩ : Addr).add (r.toNat * m)).add (j.toNat * 1))))) (hy : opv e y = some (.int .i64 u))
  (hr : rs[i]? = some (R.box b T (encA g))) (h1 : 0 ≤ r ∧ r * m + m ≤ n) (h2 : 0 ≤ j ∧ j < m) :
  Does P N e (Sep w0 M rs) ⟨d, .store t x y, ty, pos, af, gd⟩ (setBox i b T (encA (g.put (r * m + j) u)) w0 M rs) := by
 obtain ⟨a, rfl⟩ := Int.eq_ofNat_of_zero_le h1.1
 obtain ⟨c, rfl⟩ := Int.eq_ofNat_of_zero_le h2.1
 have e0 : ((a : Int) * (m : Int) + (c : Int)).toNat = a * m + c := by rw [← Int.natCast_mul, ← Int.natCast_add, Int.toNat_natCast]
 have hlt : a * m + c < n := by have := h1.2; have := h2.2; rw [← Int.natCast_mul] at *; omega
 have h3 := d_storeG2 (cs2 := [.int .i64 u]) hi hx hy hr rfl rfl (by rw [encA_len, Int.toNat_natCast, Int.toNat_natCast, Nat.mul_one]; omega) (Leaves.one u) (d := d) (ty := ty) (pos := pos) (af := af) (g := gd) (N := N) (M := M) (w0 := w0)
 have h4 : over (encA g) ((a : Int).toNat * m + (c : Int).toNat * 1) [.int .i64 u] = encA (g.put ((a : Int) * m + c) u) := by
  unfold encA Arr.put
  simp only [over, e0, Int.toNat_natCast, Nat.mul_one]
  rw [List.map_set]
 rw [h4] at h3; exact h3
theorem d_storeArr {by' i b : Nat} {z : Value} {T : TypeId} {g h : Arr n} (hi : TInfo P t n by' z) (hx : opv e x = some (.pointer (some ⟨b, 0, none⟩))) (hy : opv e y = some (.agg (encA h).toArray))
  (hr : rs[i]? = some (R.box b T (encA g))) : Does P N e (Sep w0 M rs) ⟨d, .store t x y, ty, pos, af, gd⟩ (setBox i b T (encA h) w0 M rs) := by
 have h3 := d_storeG0 (cs2 := encA h) hi hx hy hr rfl (encA_len h) (encA_le g) (encA_leaves h) (d := d) (ty := ty) (pos := pos) (af := af) (g := gd) (N := N) (M := M) (w0 := w0)
 rw [encA_over] at h3; exact h3
def rowA (g : Arr n) (i : Int) (m : Nat) : Array Value := (encA g).toArray.extract (i.toNat * m) (i.toNat * m + m)
theorem r_indexT {el : TypeId} {k m by' : Nat} {z : Value} {g : Arr n} {i : Int} {ik : IntKind} (hu : P.underlying t = some (.array k el)) (hi : TInfo P el m by' z) (ha' : TAgg P el true) (hx : opv e x = some (.agg (encA g).toArray)) (hy : opv e y = some (.int ik i)) (h : 0 ≤ i ∧ i < k) :
  Runs P N e C ⟨d, .index t x y, ty, pos, af, gd⟩ (.agg (rowA g i m)) := fun a w ha hw => by
 simp [execOp, ha.eval hx, ha.eval hy, Instr.index, asIntOf, run_underlying hu, h.1, h.2, Go.part, run_isAgg ha', run_sizeOf hi, rowA]
theorem r_indexR {el : TypeId} {k m by' : Nat} {z : Value} {g : Arr n} {i j : Int} {ik : IntKind} (hu : P.underlying t = some (.array k el)) (hi : TInfo P el 1 by' z) (ha' : TAgg P el false) (hx : opv e x = some (.agg (rowA g i m))) (hy : opv e y = some (.int ik j)) (h1 : 0 ≤ i ∧ i * m + m ≤ n) (h : 0 ≤ j ∧ j < k) (hk : k = m := by rfl) :
  Runs P N e C ⟨d, .index t x y, ty, pos, af, gd⟩ (.int .i64 (g.at (i * m + j))) := fun a w ha hw => by
 subst hk
 obtain ⟨a', rfl⟩ := Int.eq_ofNat_of_zero_le h1.1
 obtain ⟨c, rfl⟩ := Int.eq_ofNat_of_zero_le h.1
 have e0 : ((a' : Int) * (k : Int) + (c : Int)).toNat = a' * k + c := by rw [← Int.natCast_mul, ← Int.natCast_add, Int.toNat_natCast]
 have hlt : a' * k + c < n := by have := h1.2; have := h.2; rw [← Int.natCast_mul] at *; omega
 have hc : c < k := by have := h.2; omega
 have hg : (rowA g (a' : Int) k)[c]? = some (.int .i64 (g.at ((a' : Int) * k + c))) := by
  have e1 := encA_get g hlt
  unfold rowA Arr.at
  rw [e0, Int.toNat_natCast, ← Array.getElem?_toList, Array.toList_extract]
  show (((encA g).extract (a' * k) (a' * k + k)))[c]? = _
  rw [List.extract_eq_take_drop, List.getElem?_take_of_lt (by omega), List.getElem?_drop]
  exact e1
 simp [execOp, ha.eval hx, ha.eval hy, Instr.index, asIntOf, run_underlying hu, h.1, h.2, hc, Go.part, run_isAgg ha', run_sizeOf hi, hg]
theorem tabB {i : Int} (a m n : Nat) (h : 0 ≤ i ∧ i < a) (hn : a * m = n) : 0 ≤ i ∧ i * m + m ≤ n := by
 obtain ⟨b, rfl⟩ := Int.eq_ofNat_of_zero_le h.1
 have h2 : b + 1 ≤ a := by have := h.2; omega
 have h3 := Nat.mul_le_mul_right m h2
 rw [Nat.succ_mul] at h3
 refine ⟨h.1, ?_⟩
 rw [← Int.natCast_mul]; omega
end
end Go.Ga

namespace Go.Ga
open Go
open Go.Ga.Rp (rep own)
open Go.Ga.Flat (enc)
set_option linter.unusedVariables false
set_option linter.unusedSimpArgs false
structure Sh (β : Type) where
 v : Value
 c : List β
 lf : isLeaf v = true
def Sh.nil {β : Type} : Sh β := ⟨.slice none 0 0, [], rfl⟩
instance {β : Type} : Rp (Sh β) := encRp 1 (fun x => [x.v]) (fun _ => rfl)
instance {β : Type} : Flat (Sh β) := ⟨fun x => [x.v], Iff.rfl, Iff.rfl⟩
instance {β : Type} : Leafy (Sh β) := ⟨fun x => by show ([x.v].all isLeaf) = true; simp [x.lf]⟩
section
variable {β : Type} [Rp β]
def Rows (w : World) : (Nat → Prop) → List (Sh β) → Prop
  | _, [] => True
  | S, t :: ts => ∃ S1 S2 : Nat → Prop, (∀ b, S1 b → S2 b → False) ∧ (∀ b, S1 b → S b) ∧ (∀ b, S2 b → S b) ∧ SlOwn w S1 t.v t.c ∧ Rows w S2 ts
theorem Rows.mono {w : World} : ∀ {ls : List (Sh β)} {S S' : Nat → Prop}, (∀ b, S b → S' b) → Rows w S ls → Rows w S' ls
  | [], _, _, _, _ => trivial
  | t :: ts, S, S', h, ⟨S1, S2, h1, h2, h3, h4, h5⟩ => ⟨S1, S2, h1, fun b hb => h b (h2 b hb), fun b hb => h b (h3 b hb), h4, h5⟩
theorem Rows.st {w w' : World} : ∀ {ls : List (Sh β)} {S : Nat → Prop}, Rows w S ls → (∀ b, S b → w'.heap[b]? = w.heap[b]?) → Rows w' S ls
  | [], _, _, _ => trivial
  | t :: ts, S, ⟨S1, S2, h1, h2, h3, h4, h5⟩, h => ⟨S1, S2, h1, h2, h3, h4.st fun b hb => h b (h2 b hb), h5.st fun b hb => h b (h3 b hb)⟩
theorem Rows.sub {w : World} {ls ls' : List (Sh β)} (h : ls'.Sublist ls) : ∀ {S : Nat → Prop}, Rows w S ls → Rows w S ls' := by
  induction h with
  | slnil => exact fun h => h
  | cons a _ ih => exact fun ⟨S1, S2, h1, h2, h3, h4, h5⟩ => (ih h5).mono h3
  | cons_cons a _ ih => exact fun ⟨S1, S2, h1, h2, h3, h4, h5⟩ => ⟨S1, S2, h1, h2, h3, h4, ih h5⟩
theorem Rows.get {w : World} : ∀ {ls : List (Sh β)} {S : Nat → Prop} {t : Sh β}, Rows w S ls → t ∈ ls → ∃ S1 : Nat → Prop, (∀ b, S1 b → S b) ∧ SlOwn w S1 t.v t.c
  | s :: ts, S, t, ⟨S1, S2, h1, h2, h3, h4, h5⟩, ht => by
    rcases List.mem_cons.1 ht with rfl | ht
    · exact ⟨S1, h2, h4⟩
    · obtain ⟨S3, k1, k2⟩ := h5.get ht
      exact ⟨S3, fun b hb => h3 b (k1 b hb), k2⟩
theorem Rows.mk {w : World} : ∀ {ls : List (Sh β)} {S : Nat → Prop} {f : Nat → Nat → Prop}, (∀ i j c, i ≠ j → f i c → f j c → False) → (∀ i c, f i c → S c) → (∀ i t, ls[i]? = some t → SlOwn w (f i) t.v t.c) → Rows w S ls
  | [], _, _, _, _, _ => trivial
  | t :: ts, S, f, h1, h2, h3 => ⟨f 0, fun c => ∃ i, f (i + 1) c, fun b hb ⟨i, hi⟩ => h1 0 (i + 1) b (by omega) hb hi, h2 0, fun b ⟨i, hi⟩ => h2 _ b hi, h3 0 t rfl,
      Rows.mk (f := fun i => f (i + 1)) (fun i j c hij => h1 _ _ c (by omega)) (fun i c hc => ⟨i, hc⟩) (fun i x hx => h3 (i + 1) x (by simpa using hx))⟩
variable {w0 w : World} {M : Nat → Prop} {rest : List Res} {S : Nat → Prop} {v : Value}
end
end Go.Ga

namespace Go.Ga
open Go
section
variable {P : Program} {N : Nat} {e : Env} {C : World → Prop} {d : Option Tmp} {ty : TypeId} {pos : String} {af : Array Edge} {g : Option (Nat × Bool)} {x y : Operand} {t t' : TypeId} {w : World}
end
end Go.Ga

namespace Go.Ga
open Go
open Go.Ga.Rp (rep own)
open Go.Ga.Flat (enc)

class Wf (α : Type) where
 wfd : α → Prop
open Go.Ga.Wf (wfd)
instance : Wf Int := ⟨fun x => -9223372036854775808 ≤ x ∧ x ≤ 9223372036854775807⟩
instance : Wf Bool := ⟨fun _ => True⟩
instance : Wf ByteArray := ⟨fun s => s.size ≤ maxLen⟩
instance {α : Type} [Wf α] : Wf (List α) := ⟨fun l => l.length ≤ maxLen ∧ ∀ x ∈ l, wfd x⟩
instance {α β : Type} [Wf α] [Wf β] : Wf (α × β) := ⟨fun x => wfd x.1 ∧ wfd x.2⟩

def Opn (P : Program) (t : TypeId) (α : Type) [Rp α] [Wf α] : Prop :=
 ∀ {H : Type} (enc : TypeId × Value → H) (w : World) (base : Nat) (spare : Nat → Bool) (held : Bool) (fuel : Nat) (cs : List Value) (y : DataW H × List MemPlace), (∀ b, spare b = true) →
  DataW.trod enc P w base spare held fuel t cs = some y → ∃ x : α, rep w (fun _ => True) cs x ∧ wfd x

section
variable {P : Program} {t : TypeId}
theorem cells_block {w : World} {a : Addr} {base n : Nat} {cs : List Value} (hn : 0 < n) (h : w.cells? base a n = some cs) :
  ∃ C T fr, w.heap[a.block]? = some (.cells C T fr) ∧ a.spot = none ∧ part C a.off n = cs ∧ a.off + n ≤ C.size := by
 obtain ⟨_, hl, hc⟩ := World.cells?_some h
 have h0 := hc 0 hn
 rw [List.getElem?_eq_getElem (by omega)] at h0
 have hz : a.add 0 = a := by simp [Addr.add]
 rw [hz] at h0
 have hsp := World.cell?_spot h0
 obtain ⟨b, off, sp⟩ := a
 simp only at hsp; subst hsp
 unfold World.cell? at h0
 split at h0
 ·rename_i C T fr hb
  have key : ∀ i, i < n → C[off + i]? = cs[i]? := fun i hi => by
   have := hc i hi
   rw [add_off] at this
   simpa [World.cell?, hb] using this
  have hsz : off + n ≤ C.size := by
   have h1 := key (n - 1) (by omega)
   rw [List.getElem?_eq_getElem (by omega)] at h1
   have := (Array.getElem?_eq_some_iff.1 h1).1
   omega
  refine ⟨C, T, fr, hb, rfl, ?_, hsz⟩
  refine List.ext_getElem? fun j => ?_
  simp only [part, List.getElem?_take, List.getElem?_drop]
  split
  ·rename_i hj; rw [Array.getElem?_toList]; exact key j hj
  ·rename_i hj; rw [List.getElem?_eq_none (by omega)]
 ·cases h0

theorem opn_slice {e : TypeId} {α : Type} [Rp α] [Wf α] (ht : P.underlying t = some (.slice e)) (hc : P.cellsOf e = Rp.n α) (hpos : 0 < Rp.n α) (he : Opn P e α) : Opn P t (List α) := fun enc w base spare held fuel cs y hsp h => by
  rcases DataW.trod_slice ht h with ⟨rfl, _⟩ | ⟨a, len, cap, elems, rest, n, rfl, rfl, _, hb, hl, hm, hlen, hel, hspare, _⟩
  · exact ⟨[], ⟨_, rfl, .inl ⟨rfl, rfl⟩⟩, Nat.zero_le _, by simp⟩
  · have hex : ∀ i, i < len → ∃ (x : α) (c : List Value), w.cells? base (a.add (i * Rp.n α)) (Rp.n α) = some c ∧ rep w (fun _ => True) c x ∧ wfd x := by
      intro i hi
      have h1 := hel i hi
      rw [List.getElem?_eq_getElem (by omega), Option.bind_eq_some_iff] at h1
      obtain ⟨c, h2, h3⟩ := h1
      obtain ⟨x, h4, h5⟩ := he enc w base spare held n c _ hsp h3
      rw [hc] at h2
      exact ⟨x, c, h2, h4, h5⟩
    by_cases hcap : cap = 0
    · subst hcap
      have : len = 0 := by omega
      subst this
      exact ⟨[], ⟨_, rfl, .inr (.inl ⟨a, rfl, rfl⟩)⟩, Nat.zero_le _, by simp⟩
    · have hcells : ∀ i, i < cap → ∃ c, w.cells? base (a.add (i * Rp.n α)) (Rp.n α) = some c := by
        intro i hi
        by_cases h1 : i < len
        · obtain ⟨_, c, h2, _⟩ := hex i h1; exact ⟨c, h2⟩
        · obtain ⟨h3, h4⟩ := hspare (hsp _)
          have h5 := h4 (i - len) (by omega)
          rw [List.getElem?_eq_getElem (by omega), Option.bind_eq_some_iff] at h5
          obtain ⟨c, h6, _⟩ := h5
          rw [hc, show len + (i - len) = i by omega] at h6
          exact ⟨c, h6⟩
      obtain ⟨c0, hc0⟩ := hcells 0 (by omega)
      rw [Nat.zero_mul] at hc0
      have hz : a.add 0 = a := by simp [Addr.add]
      rw [hz] at hc0
      obtain ⟨C, T, fr, hblk, hspot, _, _⟩ := cells_block hpos hc0
      obtain ⟨b, off, sp⟩ := a
      simp only at hspot; subst hspot
      have hall : ∀ i c, w.cells? base ((⟨b, off, none⟩ : Addr).add (i * Rp.n α)) (Rp.n α) = some c → part C (off + i * Rp.n α) (Rp.n α) = c ∧ off + i * Rp.n α + Rp.n α ≤ C.size := by
        intro i c hi
        rw [add_off] at hi
        obtain ⟨C', T', fr', h1, _, h2, h3⟩ := cells_block hpos hi
        simp only at h1 h2 h3
        simp only at hblk
        rw [hblk] at h1; cases h1
        exact ⟨h2, h3⟩
      obtain ⟨cl, hcl⟩ := hcells (cap - 1) (by omega)
      have hsz := (hall _ _ hcl).2
      have hmul : (cap - 1) * Rp.n α + Rp.n α = cap * Rp.n α := by
        rw [← Nat.succ_mul]; congr 1; omega
      -- the list
      have hchoose : ∃ l : List α, l.length = len ∧ ∀ i x, l[i]? = some x → rep w (fun _ => True) (part C (off + i * Rp.n α) (Rp.n α)) x ∧ wfd x := by
        have : ∀ m, m ≤ len → ∃ l : List α, l.length = m ∧ ∀ i x, l[i]? = some x → rep w (fun _ => True) (part C (off + i * Rp.n α) (Rp.n α)) x ∧ wfd x := by
          intro m
          induction m with
          | zero => intro _; exact ⟨[], rfl, by simp⟩
          | succ m ih =>
            intro hm
            obtain ⟨l, hl1, hl2⟩ := ih (by omega)
            obtain ⟨x, c, h1, h2, h3⟩ := hex m (by omega)
            have h4 := (hall m c h1).1
            refine ⟨l ++ [x], by simp [hl1], fun i z hi => ?_⟩
            rcases Nat.lt_or_ge i m with h | h
            · rw [List.getElem?_append_left (by omega)] at hi; exact hl2 i z hi
            · have : i = m := by have := (List.getElem?_eq_some_iff.1 hi).1; simp [hl1] at this; omega
              subst this
              rw [List.getElem?_append_right (by omega)] at hi
              simp [hl1] at hi; subst hi
              rw [h4]; exact ⟨h2, h3⟩
        exact this len (Nat.le_refl _)
      obtain ⟨l, hl1, hl2⟩ := hchoose
      refine ⟨l, ⟨_, rfl, .inr (.inr ⟨b, off, cap, C, T, fr, trivial, by rw [hl1], by omega, hblk, by omega, fun i x hx => (hl2 i x hx).1⟩)⟩, by omega, fun x hx => ?_⟩
      obtain ⟨i, hi⟩ := List.getElem?_of_mem hx
      exact (hl2 i x hi).2

end
theorem Ext.below {w w' : World} (h : Ext w w') : RowKit.Below w.heap.size w w' := ⟨h.os, h.tape, h.output, h.size, h.block⟩
end Go.Ga

namespace Go.Ga
open Go
open Go.Ga.Rp (rep own)
open Go.Ga.Flat (enc)
open Go.Ga.Wf (wfd)
structure By where
 v : Int
deriving DecidableEq
instance : Rp By := encRp 1 (fun x => [.int .u8 x.v]) (fun _ => rfl)
instance : Flat By := ⟨fun x => [.int .u8 x.v], Iff.rfl, Iff.rfl⟩
instance : Leafy By := ⟨fun _ => rfl⟩
instance : OwnLeaf By := ⟨fun h => by rw [Flat.own_iff.1 h]; rfl⟩
instance : Wf By := ⟨fun x => 0 ≤ x.v ∧ x.v ≤ 255⟩
theorem lit_wfB {n : Int} (h : (Lit.int .u8 n).wf = true) : 0 ≤ n ∧ n ≤ 255 := by
 simp only [Lit.wf, IntKind.min, IntKind.max, IntKind.signed, IntKind.bits, Bool.and_eq_true, decide_eq_true_eq] at h
 simp at h; omega
theorem opn_by {P : Program} {t : TypeId} (ht : P.underlying t = some (.int .u8)) : Opn P t By := fun enc w base spare held fuel cs y _ h => by
 obtain ⟨n, rfl, _, hw⟩ := DataW.trod_int ht h
 exact ⟨⟨n⟩, rfl, lit_wfB hw⟩
section
variable {P : Program} {N : Nat} {e : Env} {C : World → Prop} {d : Option Tmp} {ty : TypeId} {pos : String} {af : Array Edge} {g : Option (Nat × Bool)} {x y : Operand} {t t' el : TypeId}
theorem eq_arr2 {by' : Nat} {z : Value} {w : World} {a b a' b' : Int} (hu : P.underlying t = some (.array 2 el)) (he : P.underlying el = some (.int .i64)) (hi : TInfo P el 1 by' z) (ha' : TAgg P el false) (k : Nat) :
  (Op.equalIn (k + 2) t (.agg [.int .i64 a, .int .i64 b].toArray) (.agg [.int .i64 a', .int .i64 b'].toArray)).run P w = .ok (decide ((a, b) = (a', b'))) w := by
 have e : ∀ x y : Int, (Op.equalIn (k + 1) el (.int .i64 x) (.int .i64 y)).run P w = .ok (x == y) w := fun x y => by simp [Op.equalIn, run_underlying he]
 have p0 : ∀ x y : Int, (Go.part el [Value.int .i64 x, .int .i64 y].toArray 0).run P w = .ok (.int .i64 x) w := fun x y => by simp [Go.part, run_isAgg ha']
 have p1 : ∀ x y : Int, (Go.part el [Value.int .i64 x, .int .i64 y].toArray 1).run P w = .ok (.int .i64 y) w := fun x y => by simp [Go.part, run_isAgg ha']
 unfold Op.equalIn
 simp only [Sem.run_bind, run_underlying hu, Result.andThen_ok, run_sizeOf hi]
 rw [Std.Legacy.Range.forIn_eq_forIn_range']
 simp only [List.range', Std.Legacy.Range.size]
 simp
 simp only [p0, p1, Result.andThen_ok, e]
 by_cases h1 : a = a' <;> by_cases h2 : b = b' <;> simp [h1, h2]
theorem r_eqlA2 {by' : Nat} {z : Value} {i1 i2 j1 j2 : Int} (hu : P.underlying t = some (.array 2 el)) (he : P.underlying el = some (.int .i64)) (hi : TInfo P el 1 by' z) (ha' : TAgg P el false)
  (hx : opv e x = some (.agg [.int .i64 i1, .int .i64 i2].toArray)) (hy : opv e y = some (.agg [.int .i64 j1, .int .i64 j2].toArray)) (hg : P.eqGuardType P.depth t = false) {t' : TypeId} : Runs P N e C ⟨d, .binOp .eql t x y t', ty, pos, af, g⟩ (.bool (decide ((i1, i2) = (j1, j2)))) := fun a w ha _ => by
 have hq : (Op.equal t (.agg [.int .i64 i1, .int .i64 i2].toArray) (.agg [.int .i64 j1, .int .i64 j2].toArray)).run P w = .ok (decide ((i1, i2) = (j1, j2))) w := eq_arr2 hu he hi ha' 9998
 simp [execOp, ha.eval hx, ha.eval hy, eqGuard, binOp, hq, hg]
theorem r_neqA2 {by' : Nat} {z : Value} {i1 i2 j1 j2 : Int} (hu : P.underlying t = some (.array 2 el)) (he : P.underlying el = some (.int .i64)) (hi : TInfo P el 1 by' z) (ha' : TAgg P el false)
  (hx : opv e x = some (.agg [.int .i64 i1, .int .i64 i2].toArray)) (hy : opv e y = some (.agg [.int .i64 j1, .int .i64 j2].toArray)) (hg : P.eqGuardType P.depth t = false) {t' : TypeId} : Runs P N e C ⟨d, .binOp .neq t x y t', ty, pos, af, g⟩ (.bool (!decide ((i1, i2) = (j1, j2)))) := fun a w ha _ => by
 have hq : (Op.equal t (.agg [.int .i64 i1, .int .i64 i2].toArray) (.agg [.int .i64 j1, .int .i64 j2].toArray)).run P w = .ok (decide ((i1, i2) = (j1, j2))) w := eq_arr2 hu he hi ha' 9998
 simp [execOp, ha.eval hx, ha.eval hy, eqGuard, binOp, hq, hg]
end
end Go.Ga
namespace Go.Ga
open Go
theorem r_nilC {P : Program} {N : Nat} {e : Env} {C : World → Prop} {d : Option Tmp} {ty : TypeId} {pos : String} {af : Array Edge} {g : Option (Nat × Bool)} {x : Operand} {p : Addr} (hx : opv e x = some (.pointer (some p))) :
  Runs P N e C ⟨d, .nilCheck x, ty, pos, af, g⟩ (.pointer (some p)) := fun a w ha _ => by
 simp [execOp, ha.eval hx]
end Go.Ga
namespace Go.Ga
open Go
end Go.Ga
namespace Go.Ga
open Go
section
variable {P : Program} {N : Nat} {Q : Exit → Act → World → Prop} {e : Env} {C : World → Prop} {ops : Array Oper} {i d : Nat} {o : Oper} {v : Value} {t r : Tre} {fin : List Nat}
theorem Tri.drawTK {B : World → Prop} {id : Nat} (hm : P.follows .mixedOrders = true) (hC : upC C) (all fin : List Nat) (t : Tre) (hck : checkT ops all fin t = true)
  (h : StrT P ops N (Keep B) (FinF P ops N Q fin) t e C) : Tri P N Q (.region id ops true) e C := by
 intro a w ha hw
 simp only [checkT, Bool.and_eq_true] at hck
 obtain ⟨⟨h1, h4⟩, h2⟩ := hck
 have h4 := Nat.eq_of_beq_eq_true h4
 refine wp_region_any hm ?_
 have hR := (StrT.sound (P := P) (Q := Q) h1 (by simp) h2 (fun j o _ hl => by
  simp only [Array.getD_eq_getD_getElem?, Array.getElem?_replicate] at hl
  split at hl <;> simp at hl) hC h a ha).1 rfl
 rw [h4] at hR
 exact hR.sound _ (hC w _ hw (Ext.drew w))
theorem TK.q {w0 : World} {M : Nat → Prop} {rs l : List Res} (is : List Nat) (hl : Ga.pick rs is = some l) (hn : noDup is = true) (hi : ops[i]? = some o) (hd : o.dst = some d) (hN : Nat.blt d N = true) (hg : W ops N e o) (h : Runs P N e (Sep w0 M l) o v) (next : TF P ops N (Sep w0 M l) Q fin t ((d, v) :: e) (Sep w0 M rs)) : TF P ops N (Sep w0 M l) Q fin (.q i t) e (Sep w0 M rs) :=
 ⟨o, v, hi, dok hd hN, ⟨Sep w0 M l, fun _ h => h.pick hl hn, Sep.up, fun _ _ _ h => h, fun w w' h k => Sep.up w w' h k, .inl ⟨hg, fun _ _ ha hw => h.fine ha hw⟩⟩, by rw [putS hd]; exact next⟩
theorem TK.qc {w0 : World} {M : Nat → Prop} {rs l : List Res} (is : List Nat) (hl : Ga.pick rs is = some l) (hn : noDup is = true) (hi : ops[i]? = some o) (hd : o.dst = some d) (hN : Nat.blt d N = true) (hg : W ops N e o) (h : ∀ a w, Has N a e → Sep w0 M l w → fine P o a w (fun u w' => u = v ∧ Ext w w'))
  (next : TF P ops N (Sep w0 M l) Q fin t ((d, v) :: e) (Sep w0 M rs)) : TF P ops N (Sep w0 M l) Q fin (.q i t) e (Sep w0 M rs) :=
 ⟨o, v, hi, dok hd hN, ⟨Sep w0 M l, fun _ h => h.pick hl hn, Sep.up, fun _ _ _ h => h, fun w w' h k => Sep.up w w' h k, .inl ⟨hg, h⟩⟩, by rw [putS hd]; exact next⟩
end
end Go.Ga

namespace Go.Ga
open Go
section
variable {P : Program} {ops : Array Oper} {N : Nat} {Q : Exit → Act → World → Prop} {fin : List Nat} {r : List (Nat × Bool)} {e : Env} {C : World → Prop} {i d : Nat} {o : Oper} {v : Value}

theorem K.q {w0 : World} {M : Nat → Prop} {rs l : List Res} (is : List Nat) (hl : Ga.pick rs is = some l) (hn : noDup is = true) (hi : ops[i]? = some o) (hd : o.dst = some d) (hN : Nat.blt d N = true) (hg : W ops N e o) (h : Runs P N e (Sep w0 M l) o v) (next : BF P ops N (Sep w0 M l) Q fin r ((d, v) :: e) (Sep w0 M rs)) : BF P ops N (Sep w0 M l) Q fin ((i, true) :: r) e (Sep w0 M rs) :=
 StrB.q Sep.up (fun _ hw => hw.pick hl hn) hi (dok hd hN) hg h (by rw [putS hd]; exact next)
theorem K.sk {w0 : World} {M : Nat → Prop} {rs l : List Res} (is : List Nat) (hl : Ga.pick rs is = some l) (hn : noDup is = true) (hi : ops[i]? = some o) (hd : o.dst = some d) (hN : Nat.blt d N = true) (hg : Wanted ops N e o false) (next : BF P ops N (Sep w0 M l) Q fin r ((d, undef) :: e) (Sep w0 M rs)) : BF P ops N (Sep w0 M l) Q fin ((i, true) :: r) e (Sep w0 M rs) :=
 StrB.sk Sep.up (fun _ hw => hw.pick hl hn) hi (dok hd hN) hg (by rw [putS hd]; exact next)
theorem K.qc {w0 : World} {M : Nat → Prop} {rs l : List Res} (is : List Nat) (hl : Ga.pick rs is = some l) (hn : noDup is = true) (hi : ops[i]? = some o) (hd : o.dst = some d) (hN : Nat.blt d N = true) (hg : W ops N e o) (h : ∀ a w, Has N a e → Sep w0 M l w → fine P o a w (fun u w' => u = v ∧ Ext w w'))
  (next : BF P ops N (Sep w0 M l) Q fin r ((d, v) :: e) (Sep w0 M rs)) : BF P ops N (Sep w0 M l) Q fin ((i, true) :: r) e (Sep w0 M rs) :=
 StrB.qc Sep.up (fun _ hw => hw.pick hl hn) hi (dok hd hN) hg h (by rw [putS hd]; exact next)
theorem Tri.drawK {B : World → Prop} {id : Nat} (hm : P.follows .mixedOrders = true) (hC : upC C) (steps : List (Nat × Bool)) (fin : List Nat) (hck : checkR ops steps fin = true) (h : Str P ops N (Keep B) (FinF P ops N Q fin) steps e C) : Tri P N Q (.region id ops true) e C := Tri.draw hm hC steps fin hck h
end
section
variable {P : Program} {N : Nat} {e : Env} {w0 : World} {M : Nat → Prop} {rs : List Res} {d : Option Tmp} {t el ty src dst : TypeId} {pos : String} {af : Array Edge} {g : Option (Nat × Bool)}
end
end Go.Ga

namespace Go.Ga
open Go Go.Sort
open Go.Ga.Rp (rep own)
open Go.Ga.Flat (enc)
set_option linter.unusedVariables false
set_option linter.unusedSimpArgs false
section
variable {α β : Type} [Rp α] [Flat α] [Inhabited β] {w0 w w' : World} {M : Nat → Prop} {rs : List Res} {i : Nat} {S : Nat → Prop} {l l' : List α} {b off cap : Nat} {T : TypeId} {pre post : List Value}
end
theorem encs_int (l : List Int) : encs l = l.map (Value.int .i64) := by
  induction l with
  | nil => rfl
  | cons x l ih => show enc x ++ encs l = _; rw [ih]; rfl
end Go.Ga

namespace Go.Ga
open Go
open Go.Ga.Rp (rep own)
open Go.Ga.Flat (enc)
set_option linter.unusedVariables false
set_option linter.unusedSimpArgs false
def Cap63 (v : Value) : Prop := ∀ a n c, v = .slice a n c → c ≤ 9223372036854775807
theorem Cap63.mk {a : Option Addr} {n c : Nat} (h : c ≤ 9223372036854775807) : Cap63 (.slice a n c) := fun a' n' c' e => by cases e; exact h
theorem cap63_nil : Cap63 (.slice none 0 0) := Cap63.mk (by decide)

section
variable {P : Program} {N : Nat} {e : Env} {C : World → Prop} {d : Option Tmp} {ty : TypeId} {pos : String} {af : Array Edge} {g : Option (Nat × Bool)} {x y : Operand} {t el : TypeId} {w0 : World} {M : Nat → Prop} {rs : List Res}
def newSlC {α : Type} [Rp α] (l : List α) (w0 : World) (M : Nat → Prop) (rs : List Res) (u : Value) (C' : World → Prop) : Prop :=
 ∃ S, SlLen u l.length ∧ Cap63 u ∧ C' = Sep w0 M (R.sl S u l :: rs)
theorem m_build0C {α : Type} [Rp α] {parts : Array (Nat × Operand)} {n by' : Nat} {z : Value} (hu : P.underlying t = some (.slice el)) (hi : TInfo P el n by' z) (hp : parts = #[] := by rfl) :
  Makes P N e (Sep w0 M rs) ⟨d, .buildSlice t 0 parts, ty, pos, af, g⟩ (newSlC ([] : List α) w0 M rs) := by
 subst hp
 refine (m_build (vs := []) hu hi rfl rfl rfl (by intro v hv; cases hv) (by simp)).imp ?_
 rintro u C' ⟨b, rfl, rfl⟩
 exact ⟨_, ⟨fun k => k = b, ⟨_, _, rfl, fun h => by cases h⟩, Cap63.mk (by decide), rfl⟩, Sep.up, fun w hw => sl_of_box0 (i := 0) rfl w hw⟩
def appdC (i : Nat) {α : Type} [Rp α] (l : List α) (w0 : World) (M : Nat → Prop) (rs : List Res) (u : Value) (C' : World → Prop) : Prop :=
 ∃ S, C' = Sep w0 M (rs.set i (R.sl S u l)) ∧ SlLen u l.length ∧ Cap63 u
theorem d_appendC {α : Type} [Rp α] [Flat α] [Leafy α] {t' : TypeId} {by' i : Nat} {z v v2 : Value} {l l2 : List α} {S : Nat → Prop} (hu : P.underlying t = some (.slice el)) (hu' : P.underlying t' = some (.slice el)) (hi : TInfo P el (Rp.n α) by' z) (hz : z.cells.size = Rp.n α) (hby : by' ≤ 120)
  (hx : opv e x = some v) (hy : opv e y = some v2) (hr : rs[i]? = some (R.sl S v l)) (hcv : Cap63 v) (h2 : ∀ w, Sep w0 M rs w → Rd w v2 l2) (hb : (l ++ l2).length < 1099511627776) :
  Does P N e (Sep w0 M rs) ⟨d, .call ⟨.builtin .append, #[x, y], #[t, t']⟩, ty, pos, af, g⟩ (appdC i (l ++ l2) w0 M rs) :=
 d_of fun a w ha hw => by
  have hown : SlOwn w S v l := hw.get hr
  have hrd2 := h2 w hw
  obtain ⟨a2, cap2, e2, _⟩ := hrd2.len
  have hfc2 := firstCells_rd (P := P) hrd2
  rw [List.length_append] at hb
  have hns : (l ++ l2).length = l.length + l2.length := List.length_append
  have hmono : ∀ b, S b → b < w.heap.size := fun b hb => (hw.foot _ (List.mem_of_getElem? hr) b hb).2
  have hlen2 : (Builtin.lenOf v2).run P w = .ok l2.length w := by rw [e2]; simp [Builtin.lenOf]
  have hres : ∃ u w', (Builtin.append_ #[t, t'] ty #[v, v2]).run P w = .ok u w' ∧ ∃ C', C' w' ∧ appdC i (l ++ l2) w0 M rs u C' := by
   obtain ⟨inf, g1, g2, g3, g4⟩ := hi
   have hti : ∀ w' : World, (typeInfo el).run P w' = .ok inf w' := fun w' => by simp [typeInfo, g1]
   have hzv : ∀ w' : World, (zeroValue el).run P w' = .ok z w' := fun w' => by simp [zeroValue, hti, g4]
   have hsz : ∀ w' : World, (sizeOf el).run P w' = .ok (Rp.n α) w' := fun w' => by simp [sizeOf, hti, g2]
   have hroom1 : ∀ (m : Nat) (w' : World), (askRoom m).run P w' = .ok () w' := fun m w' => by
    unfold askRoom; split <;> simp [mark, Sem.run]
   have hnew : ∀ {cap : Nat}, ¬ l.length + l2.length ≤ cap → (∃ base, v = .slice base l.length cap) →
     ∃ u w', (Builtin.append_ #[t, t'] ty #[v, v2]).run P w = .ok u w' ∧ ∃ C', C' w' ∧ appdC i (l ++ l2) w0 M rs u C' := by
    rintro cap hroom ⟨base, hv⟩
    have hcap := nextslicecap_le (l.length + l2.length) cap (by omega)
    have hbig : ¬ (2 ^ 48 < (Builtin.nextslicecap (l.length + l2.length) cap) * inf.bytes) := by
     have : (Builtin.nextslicecap (l.length + l2.length) cap) * inf.bytes ≤ (2 * (l.length + l2.length) + 1000) * 120 := Nat.mul_le_mul hcap (by omega)
     omega
    have h63 : ¬ (9223372036854775807 < (l.length : Int) + l2.length ∧ inf.bytes = 0) := by omega
    generalize hncq : (Question.appendCap (l.length + l2.length) cap el).cut (w.tape w.drawn (Question.appendCap (l.length + l2.length) cap el)) = nc
    have hnc : l.length + l2.length ≤ nc := by rw [← hncq]; simp [Question.cut]
    have hnb : nc ≤ 9223372036854775807 := by
     rw [← hncq]; simp only [Question.cut]
     have := Nat.mod_lt (w.tape w.drawn (Question.appendCap (l.length + l2.length) cap el)) (show 0 < 2 ^ 63 - (l.length + l2.length) by omega)
     omega
    have ha1 : (Builtin.firstCells (Rp.n α) l.length v).run P w.drew = .ok (encs l).toArray w.drew := firstCells_rd (SlRep.st (SlOwn.rd hown) (fun b _ => rfl))
    have ha2 : (Builtin.firstCells (Rp.n α) l2.length v2).run P w.drew = .ok (encs l2).toArray w.drew := firstCells_rd (SlRep.st hrd2 (fun b _ => rfl))
    have hpost : (encs l).toArray ++ ((encs l2).toArray ++ Builtin.zeroCells z.cells (nc - (l.length + l2.length))) = (encs (l ++ l2) ++ (Builtin.zeroCells z.cells (nc - (l.length + l2.length))).toList).toArray := by
     rw [encs_append]; simp
    refine ⟨.slice (some ⟨w.heap.size, 0, none⟩) (l.length + l2.length) nc, w.drew.alloc (.cells (encs (l ++ l2) ++ (Builtin.zeroCells z.cells (nc - (l.length + l2.length))).toList).toArray el), ?_, _, ?_, fun k => k = w.heap.size, rfl, ?_⟩
    ·subst hv
     unfold Builtin.append_
     simp [run_underlying hu, run_underlying hu', hsz, hlen2, hroom, hti, hbig, h63, Question.forced, ha1, ha2, hncq, hroom1, hzv, newRow, newObj, Sem.run, hpost]
    ·have hext : Ext w (w.drew.alloc (.cells (encs (l ++ l2) ++ (Builtin.zeroCells z.cells (nc - (l.length + l2.length))).toList).toArray el)) := (Ext.drew w).trans (ext_alloc w.drew _)
     refine hw.set hr (hext.kp _) ?_ (fun b hb => ?_)
     ·have hblk := alloc_at w.drew (.cells (encs (l ++ l2) ++ (Builtin.zeroCells z.cells (nc - (l.length + l2.length))).toList).toArray el)
      have := slOwn_block (S := fun k => k = w.heap.size) (pre := []) (off := 0) (cap := nc) (l := l ++ l2) (b := w.heap.size) (T := el) (post := (Builtin.zeroCells z.cells (nc - (l.length + l2.length))).toList) (w := w.drew.alloc (.cells (encs (l ++ l2) ++ (Builtin.zeroCells z.cells (nc - (l.length + l2.length))).toList).toArray el)) rfl (by rw [List.nil_append]; exact hblk) rfl (by rw [hns]; exact hnc) (by
       have hzl : (Builtin.zeroCells z.cells (nc - (l.length + l2.length))).toList.length = (nc - (l.length + l2.length)) * Rp.n α := by
        rw [Array.length_toList, zeroCells_size, hz]
       rw [List.length_append, List.length_append, encs_length, hzl, hns, List.length_nil, Nat.zero_add, Nat.zero_add, ← Nat.add_mul]
       exact Nat.mul_le_mul_right _ (by omega))
      rw [hns] at this; exact this
     ·subst hb
      refine ⟨.inr (Nat.le_refl _), ?_⟩
      rw [alloc_size]; exact Nat.lt_succ_self _
    ·exact ⟨by rw [hns]; exact ⟨_, _, rfl, fun h => by cases h⟩, Cap63.mk hnb⟩
   rcases slOwn_open hown with ⟨rfl, rfl⟩ | ⟨b, off, cap, T, pre, post, h1, rfl, h3, h4, h5, h6⟩
   ·by_cases h0 : l2.length = 0
    ·have : l2 = [] := List.eq_nil_of_length_eq_zero h0
     subst this
     refine ⟨.slice none 0 0, w, ?_, _, ?_, S, rfl, ⟨none, 0, rfl, fun _ => rfl⟩, hcv⟩
     ·unfold Builtin.append_
      have hfc := firstCells_rd (P := P) hrd2
      simp only [List.length_nil] at hfc hlen2
      simp [run_underlying hu, run_underlying hu', hsz, hlen2, hfc]
     ·exact hw.set hr (Kp.refl _ _) hown (fun b hb => ⟨.inl hb, hmono b hb⟩)
    ·exact hnew (cap := 0) (by simp only [List.length_nil]; omega) ⟨none, rfl⟩
   ·by_cases hroom : l.length + l2.length ≤ cap
    ·have hfc := firstCells_rd (P := P) hrd2
     have hmul : (l.length + l2.length) * Rp.n α ≤ cap * Rp.n α := Nat.mul_le_mul_right _ hroom
     have hsplit : post = post.take (l2.length * Rp.n α) ++ post.drop (l2.length * Rp.n α) := (List.take_append_drop _ _).symm
     have hplen : (encs l2).length ≤ post.length := by
      rw [encs_length]
      simp only [List.length_append, encs_length] at h6
      rw [Nat.add_mul] at hmul; omega
     obtain ⟨w', g5, g6, g7, g8⟩ := run_storeCells (P := P) (off0 := off + l.length * Rp.n α) (encs l2) (pre ++ encs l ++ post) 0 w h5 (by
      simp only [List.length_append, encs_length] at hplen ⊢; rw [h4]; omega) (isLeaf_encs Leafy.all l2)
     rw [Nat.add_zero, show off + l.length * Rp.n α = (pre ++ encs l).length by rw [List.length_append, encs_length, h4], over_spec _ _ _ hplen] at g7
     refine ⟨.slice (some ⟨b, off, none⟩) (l.length + l2.length) cap, w', ?_, _, ?_, S, rfl, ?_⟩
     ·unfold Builtin.append_
      simp [run_underlying hu, run_underlying hu', hsz, hlen2, hroom, hfc, add_off, g5]
     ·refine hw.set hr (g6.mono (fun k _ hk => by subst hk; exact h1)) ?_ (fun b hb => ⟨.inl hb, by rw [g8]; exact hmono b hb⟩)
      have := slOwn_block (S := S) (pre := pre) (off := off) (cap := cap) (l := l ++ l2) (b := b) (w := w') (T := T) (post := post.drop (encs l2).length) h1 (by
       rw [g7, encs_append]; simp [List.append_assoc]) h4 (by rw [hns]; exact hroom) (by
       simp only [List.length_append, encs_length, List.length_drop] at h6 hplen ⊢
       rw [Nat.add_mul]; omega)
      rw [hns] at this; exact this
     ·exact ⟨by rw [hns]; exact ⟨_, _, rfl, fun h => by cases h⟩, Cap63.mk (hcv _ _ _ rfl)⟩
    ·exact hnew hroom ⟨_, rfl⟩
  obtain ⟨u, w', h1, h3⟩ := hres
  refine ⟨u, w', .inl ?_, h3⟩
  simp [execOp, resolve, invoke, builtin, ha.eval hx, ha.eval hy, h1]
end

theorem setCells_kp (b : Nat) : ∀ (vs : List Value) (o : Nat) (w : World), Kp (fun k => k = b) w (w.setCells b o vs)
  | [], _, w => Kp.refl _ w
  | v :: r, o, w => setCell_kp.trans (setCells_kp b r (o + 1) _)
theorem setCells_size (b : Nat) : ∀ (vs : List Value) (o : Nat) (w : World), (w.setCells b o vs).heap.size = w.heap.size
  | [], _, _ => rfl
  | v :: r, o, w => by rw [World.setCells, setCells_size b r]; exact setCell_size
theorem setCells_at {b : Nat} {T : TypeId} : ∀ (vs cs : List Value) (o : Nat) (w : World), w.heap[b]? = some (.cells cs.toArray T (0, 0)) → (w.setCells b o vs).heap[b]? = some (.cells (over cs o vs).toArray T (0, 0))
  | [], _, _, _, h => h
  | v :: r, cs, o, w, h => setCells_at r (cs.set o v) (o + 1) _ (setCell_at h)
theorem over_at {pre rest vs : List Value} {o : Nat} (h : vs.length ≤ rest.length) (ho : pre.length = o) : over (pre ++ rest) o vs = pre ++ vs ++ rest.drop vs.length := by subst ho; exact over_spec vs pre rest h
theorem over_shift {A B V post : List Value} {o : Nat} (ho : A.length = o) (hp : V.length ≤ post.length) : ∃ post', over (over (A ++ (B ++ post)) (o + V.length) B) o V = A ++ V ++ B ++ post' ∧ post'.length + V.length = post.length := by
 have h1 : A ++ (B ++ post) = (A ++ (B ++ post).take V.length) ++ (B ++ post).drop V.length := by rw [List.append_assoc, List.take_append_drop]
 have hl : (A ++ (B ++ post).take V.length).length = o + V.length := by
  rw [List.length_append, List.length_take, List.length_append, ho]; omega
 have h2 : over (A ++ (B ++ post)) (o + V.length) B = A ++ ((B ++ post).take V.length ++ (B ++ ((B ++ post).drop V.length).drop B.length)) := by
  rw [h1, over_at (by rw [List.length_drop, List.length_append]; omega) hl]; simp only [List.append_assoc]
 refine ⟨((B ++ post).drop V.length).drop B.length, ?_, ?_⟩
 ·rw [h2, over_at (by rw [List.length_append, List.length_take, List.length_append]; omega) ho]
  have h3 : ((B ++ post).take V.length).length = V.length := by rw [List.length_take, List.length_append]; omega
  rw [List.drop_append_of_le_length (by omega), List.drop_eq_nil_of_le (by omega), List.nil_append]; simp only [List.append_assoc]
 ·rw [List.length_drop, List.length_drop, List.length_append]; omega
theorem grownCap_le {w : World} {n c : Nat} {T : TypeId} : n ≤ grownCap w n c T := by simp [grownCap, Question.cut]

section
variable {w w' : World} {M S : Nat → Prop} {b off cap : Nat} {T : TypeId} {pre post : List Value} {l : List Int}
theorem ins_in (hS : S b) (hM : ∀ k, S k → M k ∧ k < w.heap.size) (hk : Kp (fun k => k = b) w w') (hb : w'.heap[b]? = some (.cells (pre ++ encs l ++ post).toArray T (0, 0))) (ho : pre.length = off) (hc : l.length ≤ cap) (hp : off + cap ≤ (pre ++ encs l ++ post).length) :
  Sep w M [R.sl S (.slice (some ⟨b, off, none⟩) l.length cap) l] w' :=
 ⟨hk.mono fun k _ hkb => by subst hkb; exact (hM _ hS).1, fun r hr => by
  rw [List.mem_singleton.1 hr]; exact slOwn_block hS hb ho hc (by rw [show Rp.n Int = 1 from rfl, Nat.mul_one]; exact hp), fun r hr k hk' => by
  rw [List.mem_singleton.1 hr] at hk'; exact ⟨.inl (hM k hk').1, Nat.lt_of_lt_of_le (hM k hk').2 hk.size⟩, List.pairwise_singleton _ _⟩
theorem ins_new (hk : Kp (fun k => k = w.heap.size) w w') (hsz : w.heap.size < w'.heap.size) (hb : w'.heap[w.heap.size]? = some (.cells (encs l ++ post).toArray T (0, 0))) (hc : l.length ≤ cap) (hp : cap ≤ (encs l ++ post).length) :
  Sep w M [R.sl (fun k => k = w.heap.size) (.slice (some ⟨w.heap.size, 0, none⟩) l.length cap) l] w' :=
 ⟨⟨hk.os, hk.tape, hk.output, hk.size, hk.drawn, fun k hk1 _ => hk.block k hk1 (by omega)⟩, fun r hr => by
  rw [List.mem_singleton.1 hr]
  exact slOwn_block (pre := []) (S := fun k => k = w.heap.size) rfl hb rfl hc (by rw [show Rp.n Int = 1 from rfl, Nat.mul_one, Nat.zero_add]; exact hp), fun r hr k hk' => by
  rw [List.mem_singleton.1 hr] at hk'; have : k = w.heap.size := hk'; subst this; exact ⟨.inr (Nat.le_refl _), hsz⟩, List.pairwise_singleton _ _⟩
end
theorem encs_take (l : List Int) (i : Nat) : encs (l.take i) = (encs l).take i := by rw [encs_int, encs_int, List.map_take]
theorem encs_drop (l : List Int) (i : Nat) : encs (l.drop i) = (encs l).drop i := by rw [encs_int, encs_int, List.map_drop]
theorem encs_len1 (l : List Int) : (encs l).length = l.length := by rw [encs_int, List.length_map]
theorem encs_one {l : List Int} : ∀ v ∈ encs l, v.oneCell' = true := fun v hv => by
 rw [encs_int] at hv; obtain ⟨x, _, rfl⟩ := List.mem_map.1 hv; rfl

open Go.Shelf Go.Proofs in
theorem search_ok {P : Program} {ρ : Ren} (L : Lays2.n25 P ρ) {l : List Int} {x : Int} (hs : l.Pairwise (· ≤ ·)) (hz : l.length < 4611686018427387904) (w : World) {v : Value} (hr : Rd w v l) :
  Calls P (ρ.f 25) ([v, .int .i64 x] : List Value).toArray w fun e w' => e = .returned (.tuple #[.int .i64 (l.countP fun y => decide (y < x) : Nat), .bool (l.contains x)]) ∧ Ext w w' := by
 have hd : ∀ q, Ext w (w.drewN q) := fun q => ⟨rfl, rfl, rfl, Nat.le_refl _, Nat.le_add_right _ _, fun _ _ => rfl⟩
 have hr0 : SlRep w (fun _ => True) v l := hr
 rcases hr0 with ⟨rfl, rfl⟩ | ⟨a, rfl, rfl⟩ | ⟨b, off, cap, C, T, fr, h1, rfl, h3, h4, h5, h6⟩
 ·exact (Any.slices_BinarySearch_int_empty L none 0 x w).mono fun e w' ⟨h1, h2⟩ => ⟨h1, h2 ▸ Ext.refl w⟩
 ·exact (Any.slices_BinarySearch_int_empty L (some a) 0 x w).mono fun e w' ⟨h1, h2⟩ => ⟨h1, h2 ▸ Ext.refl w⟩
 ·refine (Any.slices_BinarySearch_int L b off l.length cap l x w (Nat.le_refl _) hz (fun j hj => ?_) (by rw [List.take_length]; exact hs)).mono fun e w' ⟨h7, q, h8⟩ => ⟨?_, h8 ▸ hd q⟩
  ·have hx := h6 j l[j] (List.getElem?_eq_getElem hj)
   rw [Flat.rep_iff] at hx
   have hc := congrArg (fun z : List Value => z[0]?) hx
   simp only [part, Nat.mul_one, show Rp.n Int = 1 from rfl] at hc
   rw [List.getElem?_take_of_lt (by decide), List.getElem?_drop, Nat.add_zero, Array.getElem?_toList] at hc
   rw [cell_of_block h4 (v := .int .i64 l[j]) hc, List.getD_eq_getElem?_getD, List.getElem?_eq_getElem hj]; rfl
  ·rw [h7, List.take_length]

open Go.Shelf Go.Proofs in
theorem insert_ok {P : Program} {ρ : Ren} (L : Lays2.n21 P ρ) {a0 a2 r0 : List Int} {a1 : Int}
  (h : (if 0 ≤ a1 ∧ a1 ≤ (a0.length : Int) ∧ 0 < a2.length ∧ (a0 ++ a2).length < 1099511627776 then some (a0.take a1.toNat ++ a2 ++ a0.drop a1.toNat) else none) = some r0) (w : World) {v v2 : Value} {S S2 : Nat → Prop}
  (hc : Cap63 v) (hw : Sep w (footM [R.sl S v a0, R.sl S2 v2 a2]) [R.sl S v a0, R.sl S2 v2 a2] w) :
  Calls P (ρ.f 21) ([v, .int .i64 a1, v2] : List Value).toArray w (PostM (footM [R.sl S v a0, R.sl S2 v2 a2]) (fun u ns => ∃ (Sr0 : Nat → Prop), SlLen u r0.length ∧ ns = [R.sl Sr0 u r0]) w) := by
 split at h
 rotate_left 1
 ·cases h
 rename_i hh
 obtain ⟨h0, h1, hm, hsz⟩ := hh
 cases h
 obtain ⟨i, rfl⟩ := Int.eq_ofNat_of_zero_le h0
 have hi : i ≤ a0.length := by omega
 rw [Int.toNat_natCast]
 rw [List.length_append] at hsz
 have hrl : (a0.take i ++ a2 ++ a0.drop i).length = a0.length + a2.length := by
  simp only [List.length_append, List.length_take, List.length_drop]; omega
 have hre : encs (a0.take i ++ a2 ++ a0.drop i) = (encs a0).take i ++ encs a2 ++ (encs a0).drop i := by rw [encs_append, encs_append, encs_take, encs_drop]
 have hap := List.pairwise_cons.1 hw.apart
 have hft : ∀ k, S k → footM [R.sl S v a0, R.sl S2 v2 a2] k ∧ k < w.heap.size := fun k hk => ⟨⟨_, List.mem_cons_self .., hk⟩, (hw.foot _ (List.mem_cons_self ..) k hk).2⟩
 rcases slOwn_open (hw.get (i := 1) rfl) with ⟨rfl, rfl⟩ | ⟨vb, voff, vc, T2, pre2, post2, k1, rfl, k3, k4, k5, k6⟩
 ·cases hm
 have hvs : ∀ j u, (encs a2)[j]? = some u → w.cell? ⟨vb, voff + j, none⟩ = some u := fun j u hj => by
  refine cell_of_block k5 ?_
  have hj' := (List.getElem?_eq_some_iff.1 hj).1
  rw [List.getElem?_toArray, List.append_assoc, List.getElem?_append_right (by omega), k4, Nat.add_sub_cancel_left, List.getElem?_append_left hj']; exact hj
 have h48 : (a0.length + a2.length) * 8 ≤ 140737488355328 := by omega
 have hz1 : ∀ n : Nat, (Builtin.zeroCells (Value.int .i64 0).cells n).toList.length = n := fun n => by
  rw [Array.length_toList, zeroCells_size]; exact Nat.mul_one n
 rcases slOwn_open (hw.get (i := 0) rfl) with ⟨rfl, rfl⟩ | ⟨b, off, cap, T, pre, post, g1, rfl, g3, g4, g5, g6⟩
 ·have hi0 : i = 0 := by simpa using hi
  subst hi0
  refine (Any2.slices_Insert_int_end_grow L none 0 0 vb voff a2.length vc [] (encs a2) w hm (Nat.le_refl _) (by omega) (by simpa using h48) rfl (encs_len1 a2) (fun _ => rfl) (fun a ha => by cases ha) hvs encs_one).mono fun e w' ⟨h2, h3⟩ => ?_
  have e3 : 0 + a2.length = (([] : List Int).take 0 ++ a2 ++ ([] : List Int).drop 0).length := by simp
  have hg : 0 + a2.length ≤ grownCap w (0 + a2.length) 0 (ρ.t 3) := grownCap_le
  generalize hq : grownCap w (0 + a2.length) 0 (ρ.t 3) = q at h2 h3 hg
  rw [e3] at h2
  subst h3
  refine ⟨_, _, h2, ⟨fun k => k = w.heap.size, ⟨_, _, rfl, fun h => by cases h⟩, rfl⟩, ?_⟩
  have hC : ((([] : List Value) ++ encs a2).toArray ++ Builtin.zeroCells (Value.int .i64 0).cells (q - (0 + a2.length))) = (encs (([] : List Int).take 0 ++ a2 ++ ([] : List Int).drop 0) ++ (Builtin.zeroCells (Value.int .i64 0).cells (q - (0 + a2.length))).toList).toArray := by simp
  rw [hC]
  refine ins_new (T := ρ.t 3) (post := (Builtin.zeroCells (Value.int .i64 0).cells (q - (0 + a2.length))).toList) (((Ext.drew w).trans (ext_alloc _ _)).kp _) ?_ (alloc_at w.drew _) (by rw [← e3]; exact hg) ?_
  ·rw [alloc_size]; exact Nat.lt_succ_self _
  ·rw [List.length_append, encs_len1, ← e3, hz1]; omega
 ·have hcc : cap ≤ 9223372036854775807 := hc _ _ _ rfl
  have hne : vb ≠ b := fun e => hap.1 _ (List.mem_cons_self ..) b g1 (by subst e; exact k1)
  have g6' : off + cap ≤ pre.length + a0.length + post.length := by
   have := g6
   rw [List.length_append, List.length_append, encs_len1, show Rp.n Int = 1 from rfl, Nat.mul_one] at this; exact this
  have hcs : ∀ j u, (encs a0)[j]? = some u → w.cell? ⟨b, off + j, none⟩ = some u := fun j u hj => by
   refine cell_of_block g5 ?_
   have hj' := (List.getElem?_eq_some_iff.1 hj).1
   rw [List.getElem?_toArray, List.append_assoc, List.getElem?_append_right (by omega), g4, Nat.add_sub_cancel_left, List.getElem?_append_left hj']; exact hj
  have hsp : ∀ j, j < cap → (w.cell? ⟨b, off + j, none⟩).isSome = true := fun j hj => by
   have hlt : off + j < (pre ++ encs a0 ++ post).length := by
    rw [List.length_append, List.length_append, encs_len1]; omega
   rw [cell_of_block g5 (v := (pre ++ encs a0 ++ post)[off + j]) (by rw [List.getElem?_toArray]; exact List.getElem?_eq_getElem hlt)]; rfl
  have hfz : ∀ j, w.frozen? ⟨b, j, none⟩ = false := fun j => by simp [World.frozen?, g5]
  have hfz2 : ∀ j, w.frozen? ⟨vb, j, none⟩ = false := fun j => by simp [World.frozen?, k5]
  have hAl : ((encs a0).take i).length = i := by rw [List.length_take, encs_len1]; omega
  have hBl : ((encs a0).drop i).length = a0.length - i := by rw [List.length_drop, encs_len1]
  have hV := encs_len1 a2
  have hA0 : (encs a0).take a0.length = encs a0 := List.take_of_length_le (by rw [encs_len1]; exact Nat.le_refl _)
  have hB0 : (encs a0).drop a0.length = [] := List.drop_eq_nil_of_le (by rw [encs_len1]; exact Nat.le_refl _)
  by_cases hroom : a0.length + a2.length ≤ cap
  ·have hpl : a2.length ≤ post.length := by omega
   by_cases hin : i = a0.length
   ·subst hin
    refine (Any2.slices_Insert_int_end_room L b off a0.length cap vb voff a2.length vc (encs a2) w hm hroom hcc hV (fun j hj => by rw [Nat.add_assoc]; exact hsp _ (by omega)) (fun j _ => hfz _) hvs encs_one).mono fun e w' ⟨h2, h3⟩ => ?_
    rw [← hrl] at h2
    subst h3
    refine ⟨_, _, h2, ⟨S, ⟨_, _, rfl, fun h => by cases h⟩, rfl⟩, ?_⟩
    have hk := setCells_at (encs a2) _ (off + a0.length) w g5
    rw [over_at (pre := pre ++ encs a0) (rest := post) (by rw [hV]; exact hpl) (by rw [List.length_append, encs_len1, g4])] at hk
    refine ins_in (pre := pre) (post := post.drop (encs a2).length) (T := T) g1 hft (setCells_kp _ _ _ _) ?_ g4 (by rw [hrl]; exact hroom) ?_
    ·rw [hk, hre, hA0, hB0]
     simp only [List.append_assoc, List.append_nil, List.nil_append]
    ·rw [List.length_append, List.length_append, encs_len1, hrl, List.length_drop, hV]; omega
   ·refine (Any2.slices_Insert_int_shift L b off a0.length cap i vb voff a2.length vc (encs a0) (encs a2) w (by omega) hm hroom hcc hne (encs_len1 a0) hV hcs (fun j hj => hsp j (by omega)) (fun j _ => hfz _) hvs encs_one encs_one
     T2 T (pre2 ++ encs a2 ++ post2).toArray.size (pre ++ encs a0 ++ post).toArray.size (by unfold World.shape?; rw [k5]) (by unfold World.shape?; rw [g5]) ?_ (hfz2 _) (hfz2 _)).mono fun e w' ⟨h2, h3⟩ => ?_
    ·rw [List.size_toArray, List.length_append, List.length_append, encs_len1]; omega
    rw [← hrl] at h2
    subst h3
    refine ⟨_, _, h2, ⟨S, ⟨_, _, rfl, fun h => by cases h⟩, rfl⟩, ?_⟩
    have hk := setCells_at (encs a2) _ (off + i) _ (setCells_at ((encs a0).drop i) _ (off + (i + a2.length)) w.drew g5)
    obtain ⟨post', p1, p2⟩ := over_shift (A := pre ++ (encs a0).take i) (B := (encs a0).drop i) (V := encs a2) (post := post) (o := off + i) (by rw [List.length_append, g4, hAl]) (by rw [hV]; exact hpl)
    have e5 : pre ++ encs a0 ++ post = (pre ++ (encs a0).take i) ++ ((encs a0).drop i ++ post) := by
     rw [List.append_assoc pre ((encs a0).take i), ← List.append_assoc ((encs a0).take i), List.take_append_drop, List.append_assoc]
    rw [e5, show off + (i + a2.length) = off + i + (encs a2).length by rw [hV]; omega, p1] at hk
    refine ins_in (pre := pre) (post := post') (T := T) g1 hft ((((Ext.drew w).kp _).trans (setCells_kp _ _ _ _)).trans (setCells_kp _ _ _ _)) ?_ g4 (by rw [hrl]; exact hroom) ?_
    ·rw [show off + (i + a2.length) = off + i + (encs a2).length by rw [hV]; omega, hk, hre]
     simp only [List.append_assoc]
    ·rw [hV] at p2; rw [List.length_append, List.length_append, encs_len1, hrl]; omega
  ·by_cases hin : i = a0.length
   ·subst hin
    refine (Any2.slices_Insert_int_end_grow L (some ⟨b, off, none⟩) a0.length cap vb voff a2.length vc (encs a0) (encs a2) w hm g3 (by omega) h48 (encs_len1 a0) hV (fun h => by cases h) (fun a ha j u hj => by cases ha; rw [add_off]; exact hcs j u hj) hvs encs_one).mono fun e w' ⟨h2, h3⟩ => ?_
    have hg : a0.length + a2.length ≤ grownCap w (a0.length + a2.length) cap (ρ.t 3) := grownCap_le
    generalize hq : grownCap w (a0.length + a2.length) cap (ρ.t 3) = q at h2 h3 hg
    rw [← hrl] at h2
    subst h3
    refine ⟨_, _, h2, ⟨fun k => k = w.heap.size, ⟨_, _, rfl, fun h => by cases h⟩, rfl⟩, ?_⟩
    have hC : ((encs a0 ++ encs a2).toArray ++ Builtin.zeroCells (Value.int .i64 0).cells (q - (a0.length + a2.length))) = (encs (a0.take a0.length ++ a2 ++ a0.drop a0.length) ++ (Builtin.zeroCells (Value.int .i64 0).cells (q - (a0.length + a2.length))).toList).toArray := by
     rw [hre, hA0, hB0]; simp
    rw [hC]
    refine ins_new (T := ρ.t 3) (post := (Builtin.zeroCells (Value.int .i64 0).cells (q - (a0.length + a2.length))).toList) (((Ext.drew w).trans (ext_alloc _ _)).kp _) ?_ (alloc_at w.drew _) (by rw [hrl]; exact hg) ?_
    ·rw [alloc_size]; exact Nat.lt_succ_self _
    ·rw [List.length_append, encs_len1, hrl, hz1]; omega
   ·refine (Any2.slices_Insert_int_grow L b off a0.length cap i vb voff a2.length vc (encs a0) (encs a2) w (by omega) hm g3 (by omega) h48 (encs_len1 a0) hV hcs hvs encs_one encs_one).mono fun e w' ⟨h2, h3⟩ => ?_
    have hg : a0.length + a2.length ≤ grownCap w (a0.length + a2.length) cap (ρ.t 3) := grownCap_le
    generalize hq : grownCap w (a0.length + a2.length) cap (ρ.t 3) = q at h2 h3 hg
    rw [← hrl] at h2
    subst h3
    refine ⟨_, _, h2, ⟨fun k => k = w.heap.size, ⟨_, _, rfl, fun h => by cases h⟩, rfl⟩, ?_⟩
    have hZ1 := hz1 (a0.length + a2.length - i)
    have hZ2 := hz1 (q - (a0.length + a2.length))
    generalize hA1 : Builtin.zeroCells (Value.int .i64 0).cells (a0.length + a2.length - i) = Z1 at hZ1
    generalize hA2 : Builtin.zeroCells (Value.int .i64 0).cells (q - (a0.length + a2.length)) = Z2 at hZ2
    have hC : (((encs a0).take i).toArray ++ Z1 ++ Z2) = ((encs a0).take i ++ (Z1.toList ++ Z2.toList)).toArray := by simp
    rw [hC]
    have hb0 := alloc_at w (.cells ((encs a0).take i ++ (Z1.toList ++ Z2.toList)).toArray (ρ.t 3))
    have hsz0 := alloc_size w (.cells ((encs a0).take i ++ (Z1.toList ++ Z2.toList)).toArray (ρ.t 3))
    have hex := ext_alloc w (.cells ((encs a0).take i ++ (Z1.toList ++ Z2.toList)).toArray (ρ.t 3))
    generalize w.alloc (.cells ((encs a0).take i ++ (Z1.toList ++ Z2.toList)).toArray (ρ.t 3)) = wa at hb0 hsz0 hex ⊢
    have hk := setCells_at ((encs a0).drop i) _ (i + a2.length) (wa.drew.setCells w.heap.size i (encs a2)).drew (setCells_at (encs a2) _ i wa.drew hb0)
    rw [over_at (pre := (encs a0).take i) (rest := Z1.toList ++ Z2.toList) (by rw [hV, List.length_append, hZ1]; omega) hAl] at hk
    rw [over_at (pre := (encs a0).take i ++ encs a2) (rest := (Z1.toList ++ Z2.toList).drop (encs a2).length) (by rw [hBl, List.length_drop, List.length_append, hZ1, hV]; omega) (by rw [List.length_append, hAl, hV])] at hk
    refine ins_new (T := ρ.t 3) (post := ((Z1.toList ++ Z2.toList).drop (encs a2).length).drop ((encs a0).drop i).length) (((((hex.kp _).trans ((Ext.drew _).kp _)).trans (setCells_kp _ _ _ _)).trans ((Ext.drew _).kp _)).trans (setCells_kp _ _ _ _)) ?_ ?_ (by rw [hrl]; exact hg) ?_
    ·rw [setCells_size]
     show w.heap.size < (wa.drew.setCells w.heap.size i (encs a2)).heap.size
     rw [setCells_size]
     show w.heap.size < wa.heap.size
     rw [hsz0]; exact Nat.lt_succ_self _
    ·rw [hk, hre]
    ·rw [List.length_append, encs_len1, hrl, List.length_drop, List.length_drop, List.length_append, hBl, hV, hZ1, hZ2]; omega
end Go.Ga

namespace Go.Ga
open Go
section
variable {P : Program} {N : Nat} {e : Env} {C : World → Prop} {d : Option Tmp} {ty t : TypeId} {pos : String} {af : Array Edge} {g : Option (Nat × Bool)} {x : Operand} {n : Nat}
theorem rowA_list (a : Arr n) (i m : Nat) : (rowA a (i : Int) m).toList = ((encA a).drop (i * m)).take m := by
 unfold rowA
 rw [Int.toNat_natCast, Array.toList_extract]
 show (encA a).extract (i * m) (i * m + m) = _
 rw [List.extract_eq_take_drop]
 congr 1
 omega
theorem rowA_len (a : Arr n) {i : Int} {m : Nat} (h : 0 ≤ i ∧ i * m + m ≤ n) : (rowA a i m).toList.length = m := by
 obtain ⟨i, rfl⟩ := Int.eq_ofNat_of_zero_le h.1
 have h2 := h.2
 rw [← Int.natCast_mul] at h2
 have h3 := encA_len a
 show (rowA a (i : Int) m).toList.length = m
 rw [rowA_list, List.length_take, List.length_drop]
 omega
theorem cells_row {w : World} {p : Addr} {a : Arr n} {i : Int} {m : Nat} (hc : CellsAt w p (encA a)) (h : 0 ≤ i ∧ i * m + m ≤ n) : CellsAt w (p.add (i.toNat * m)) (rowA a i m).toList := by
 intro j v hv
 have hl := rowA_len a h
 obtain ⟨i, rfl⟩ := Int.eq_ofNat_of_zero_le h.1
 have hj : j < m := by
  rw [← hl]
  exact (List.getElem?_eq_some_iff.1 hv).1
 have hv' : (rowA a (i : Int) m).toList[j]? = some v := hv
 rw [rowA_list, List.getElem?_take_of_lt hj, List.getElem?_drop] at hv'
 have := hc (i * m + j) v hv'
 show w.cell? ((p.add ((i : Int).toNat * m)).add j) = some v
 rw [Int.toNat_natCast, Addr.add_add]; exact this
theorem r_loadRow {p : Addr} {by' m : Nat} {z : Value} {a : Arr n} {i : Int} (ht : TAgg P t true) (hi : TInfo P t m by' z) (hx : opv e x = some (.pointer (some (p.add (i.toNat * m))))) (hb : 0 ≤ i ∧ i * m + m ≤ n)
  (hc : ∀ w, C w → CellsAt w p (encA a)) : Runs P N e C ⟨d, .load t x, ty, pos, af, g⟩ (.agg (rowA a i m)) :=
 r_loadA (cs := (rowA a i m).toList) ht hi hx (rowA_len a hb) (fun w hw => cells_row (hc w hw) hb)
end
end Go.Ga

namespace Go.Ga
open Go
open Go.Ga.Rp (rep own)
open Go.Ga.Flat (enc)
open Go.Ga.Wf (wfd)
def Big : Nat := 1125899906842624
theorem w64_id {x : Int} (h : -9223372036854775808 ≤ x) (h' : x ≤ 9223372036854775807) : w64 x = x := by
 unfold w64 IntKind.wrap
 simp [IntKind.bits, IntKind.signed]
 omega
theorem rdl_nat {α : Type} (l : List α) (i : Nat) : rdl l (i : Int) = l[i]? := by simp [rdl]
theorem rdl_lt {α : Type} {l : List α} {i : Nat} (h : i < l.length) : rdl l (i : Int) = some l[i] := by simp [rdl, h]

def itr {S : Type} (g : Nat → S → S) : Nat → Nat → S → S
  | 0, _, s => s
  | m + 1, i, s => itr g m (i + 1) (g i s)
theorem loop_state {S β : Type} {l : Nat → S → Int → Option β} {N : Nat} {g : Nat → S → S} {out : S → Option β} (Inv : Nat → S → Prop)
    (hs : ∀ n i s, i < N → Inv i s → l (n + 1) s (i : Int) = l n (g i s) ((i + 1 : Nat) : Int) ∧ Inv (i + 1) (g i s))
    (he : ∀ n s, Inv N s → l (n + 1) s (N : Int) = out s) {k : Nat} (hk : N < k) {s : S} (h0 : Inv 0 s) :
    l k s 0 = out (itr g N 0 s) ∧ Inv N (itr g N 0 s) := by
  have key : ∀ m i k s, i + m = N → m < k → Inv i s → l k s (i : Int) = out (itr g m i s) ∧ Inv N (itr g m i s) := by
    intro m
    induction m with
    | zero =>
      intro i k s hi hk hI
      obtain ⟨n, rfl⟩ : ∃ n, k = n + 1 := ⟨k - 1, by omega⟩
      have : i = N := by omega
      subst this
      exact ⟨he n s hI, hI⟩
    | succ m ih =>
      intro i k s hi hk hI
      obtain ⟨n, rfl⟩ : ∃ n, k = n + 1 := ⟨k - 1, by omega⟩
      obtain ⟨h1, h2⟩ := hs n i s (by omega) hI
      rw [h1]
      exact ih (i + 1) n _ (by omega) (by omega) h2
  have := key N 0 k s (by omega) hk h0
  simpa using this
def itx {S R : Type} (g : Nat → S → S ⊕ R) : Nat → Nat → S → S ⊕ R
  | 0, _, s => .inl s
  | m + 1, i, s => match g i s with | .inl s' => itx g m (i + 1) s' | .inr r => .inr r
theorem loop_all {R : Type} {l : Nat → Int → Option (Unit ⊕ R)} {N : Nat} (ok : Nat → Bool) {z : R}
    (hs : ∀ n (i : Nat), i < N → l (n + 1) (i : Int) = if ok i = true then l n ((i + 1 : Nat) : Int) else some (.inr z))
    (he : ∀ n, l (n + 1) (N : Int) = some (.inl ())) {k : Nat} (hk : N < k) :
    l k 0 = some (if ∀ i, i < N → ok i = true then .inl () else .inr z) := by
  have key : ∀ m i k, i + m = N → m < k → l k (i : Int) = some (if (List.range' i m).all ok = true then .inl () else .inr z) := by
    intro m
    induction m with
    | zero =>
      intro i k hi hk
      obtain ⟨n, rfl⟩ : ∃ n, k = n + 1 := ⟨k - 1, by omega⟩
      have : i = N := by omega
      subst this
      rw [he]; rfl
    | succ m ih =>
      intro i k hi hk
      obtain ⟨n, rfl⟩ : ∃ n, k = n + 1 := ⟨k - 1, by omega⟩
      rw [hs n i (by omega), List.range'_succ, List.all_cons]
      by_cases h : ok i = true
      · rw [if_pos h, ih (i + 1) n (by omega) (by omega), h, Bool.true_and]
      · rw [if_neg h, if_neg (by simp [h])]
  have := key N 0 k (by omega) hk
  rw [show ((0 : Nat) : Int) = 0 from rfl] at this
  rw [this]
  congr 1
  have e : (List.range' 0 N).all ok = true ↔ ∀ i, i < N → ok i = true := by simp [List.all_eq_true, List.mem_range'_1]
  by_cases h : (List.range' 0 N).all ok = true
  · rw [if_pos h, if_pos (e.1 h)]
  · rw [if_neg h, if_neg (fun H => h (e.2 H))]
theorem loop_find {R T : Type} {l : Nat → Int → Option (T ⊕ R)} {N : Nat} (g : Nat → Option R) {z : T ⊕ R}
    (hs : ∀ n (i : Nat), i < N → l (n + 1) (i : Int) = match g i with | none => l n ((i + 1 : Nat) : Int) | some r => some (.inr r))
    (he : ∀ n, l (n + 1) (N : Int) = some z) {k : Nat} (hk : N < k) :
    l k 0 = some (match (List.range N).findSome? g with | none => z | some r => .inr r) := by
  have key : ∀ m i k, i + m = N → m < k → l k (i : Int) = some (match (List.range' i m).findSome? g with | none => z | some r => .inr r) := by
    intro m
    induction m with
    | zero =>
      intro i k hi hk
      obtain ⟨n, rfl⟩ : ∃ n, k = n + 1 := ⟨k - 1, by omega⟩
      have : i = N := by omega
      subst this
      rw [he]; rfl
    | succ m ih =>
      intro i k hi hk
      obtain ⟨n, rfl⟩ : ∃ n, k = n + 1 := ⟨k - 1, by omega⟩
      rw [hs n i (by omega), List.range'_succ, List.findSome?_cons]
      cases h : g i with
      | none => simp only []; exact ih (i + 1) n (by omega) (by omega)
      | some r => simp only []
  have := key N 0 k (by omega) hk
  rw [show ((0 : Nat) : Int) = 0 from rfl] at this
  rw [this, List.range_eq_range']
theorem Lr_ite {X : Type} {R : Type} {c : Prop} [Decidable c] {z : R} {g : R → Option X} {f : Unit → Option X} : Lr (if c then .inl () else .inr z) g f = if c then f () else g z := by split <;> rfl
end Go.Ga

namespace Go.Ga
open Go
theorem wrap_nat {n : Nat} (h : n < 9223372036854775808) : IntKind.i64.wrap (n : Int) = n := w64_id (by omega) (by omega)
theorem ofInt_nat (n : Nat) : BitVec.ofInt 64 (n : Int) = BitVec.ofNat 64 n := by simp
theorem band_nat {a b : Nat} (ha : a < 9223372036854775808) (hb : b < 9223372036854775808) : band (a : Int) (b : Int) = ((a &&& b : Nat) : Int) := by
 unfold band
 rw [ofInt_nat, ofInt_nat, BitVec.toNat_and, BitVec.toNat_ofNat, BitVec.toNat_ofNat, Nat.mod_eq_of_lt (by omega), Nat.mod_eq_of_lt (by omega)]
 exact wrap_nat (Nat.lt_of_le_of_lt Nat.and_le_left ha)
theorem bor_nat {a b : Nat} (ha : a < 9223372036854775808) (hb : b < 9223372036854775808) : bor (a : Int) (b : Int) = ((a ||| b : Nat) : Int) := by
 unfold bor
 rw [ofInt_nat, ofInt_nat, BitVec.toNat_or, BitVec.toNat_ofNat, BitVec.toNat_ofNat, Nat.mod_eq_of_lt (by omega), Nat.mod_eq_of_lt (by omega)]
 exact wrap_nat (Nat.or_lt_two_pow (n := 63) ha hb)
theorem bclr_nat {a b : Nat} (ha : a < 9223372036854775808) : bclr (a : Int) (b : Int) = ((a ^^^ (a &&& b) : Nat) : Int) := by
 unfold bclr
 rw [ofInt_nat, ofInt_nat]
 have h : (BitVec.ofNat 64 a &&& ~~~ BitVec.ofNat 64 b).toNat = a ^^^ (a &&& b) := by
  apply Nat.eq_of_testBit_eq
  intro i
  rw [BitVec.testBit_toNat]
  simp only [BitVec.getLsbD_and, BitVec.getLsbD_not, BitVec.getLsbD_ofNat, Nat.testBit_xor, Nat.testBit_and]
  by_cases hi : i < 64
  ·simp [hi]; cases a.testBit i <;> cases b.testBit i <;> rfl
  ·have : a.testBit i = false := Nat.testBit_lt_two_pow (Nat.lt_of_lt_of_le ha (by
    have : 2 ^ 64 ≤ 2 ^ i := Nat.pow_le_pow_right (by omega) (by omega)
    omega))
   simp [this]
 rw [h]
 exact wrap_nat (Nat.xor_lt_two_pow (n := 63) ha (Nat.lt_of_le_of_lt Nat.and_le_left ha))
theorem shl_one {t : Nat} (h : t < 63) : shl 1 (t : Int) = ((2 ^ t : Nat) : Int) := by
 unfold shl
 rw [Int.toNat_natCast, Nat.min_eq_left (by omega)]
 have h1 : (1 : Int) * 2 ^ t = ((2 ^ t : Nat) : Int) := by simp
 rw [h1]
 exact wrap_nat (Nat.lt_of_le_of_lt (Nat.pow_le_pow_right (by omega) (by omega : t ≤ 62)) (by decide))
theorem shr_nat {a t : Nat} (h : t < 64) : shr (a : Int) (t : Int) = ((a / 2 ^ t : Nat) : Int) := by
 unfold shr
 rw [Int.toNat_natCast, Nat.min_eq_left (by omega)]
 rw [show (2 : Int) ^ t = ((2 ^ t : Nat) : Int) by simp, Int.fdiv_eq_ediv_of_nonneg _ (Int.natCast_nonneg _)]
 rfl
theorem bit_nat {a t : Nat} (ha : a < 9223372036854775808) (h : t < 64) : (band (shr (a : Int) (t : Int)) 1 == 0) = !a.testBit t := by
 rw [shr_nat h, show (1 : Int) = ((1 : Nat) : Int) from rfl, band_nat (Nat.lt_of_le_of_lt (Nat.div_le_self _ _) ha) (by omega)]
 rw [Nat.testBit_eq_decide_div_mod_eq, Nat.and_one_is_mod]
 have := Nat.mod_two_eq_zero_or_one (a / 2 ^ t)
 rcases this with h | h <;> simp [h]
def subB (c a : Nat) : Bool := c &&& a == c
theorem has_clr {a c : Nat} (hc : c < 9223372036854775808) : (bclr (c : Int) (a : Int) == 0) = subB c a := by
 rw [bclr_nat hc]; unfold subB
 rw [Bool.eq_iff_iff, beq_iff_eq, beq_iff_eq]
 constructor
 ·intro h
  have h' : c ^^^ (c &&& a) = 0 := by omega
  have := congrArg (· ^^^ (c &&& a)) h'
  simp only [Nat.xor_assoc, Nat.xor_self, Nat.xor_zero, Nat.zero_xor] at this
  exact this.symm
 ·intro h; rw [h, Nat.xor_self]; rfl
theorem has_and {a c : Nat} (ha : a < 9223372036854775808) (hc : c < 9223372036854775808) : (band (a : Int) (c : Int) == (c : Int)) = subB c a := by
 rw [band_nat ha hc]; unfold subB
 rw [Bool.eq_iff_iff, beq_iff_eq, beq_iff_eq, Nat.and_comm]
 omega
end Go.Ga

namespace Go.Ga
open Go Go.Sort
open Go.Ga.Rp (rep own)
open Go.Ga.Flat (enc)
set_option linter.unusedVariables false
set_option linter.unusedSimpArgs false
abbrev Tri3 := Int × Int × Int
def TLt (x y : Tri3) : Prop := x.1 < y.1 ∨ x.1 = y.1 ∧ (x.2.1 < y.2.1 ∨ x.2.1 = y.2.1 ∧ x.2.2 < y.2.2)
instance (x y : Tri3) : Decidable (TLt x y) := by unfold TLt; infer_instance
end Go.Ga
namespace Go.Ga
open Go Go.Sort
open Go.Ga.Rp (rep own)
open Go.Ga.Flat (enc)
end Go.Ga

namespace Go.Ga
open Go Go.Sort
open Go.Ga.Rp (rep own)
open Go.Ga.Flat (enc)
set_option linter.unusedVariables false
set_option linter.unusedSimpArgs false
end Go.Ga

namespace Go.Ga
open Go
open Go.Ga.Rp (rep own)
open Go.Ga.Flat (enc)
section
variable {P : Program} {N : Nat} {e : Env} {C : World → Prop} {d : Option Tmp} {ty : TypeId} {pos : String} {af : Array Edge} {g : Option (Nat × Bool)} {x : Operand} {src dst el : TypeId}
end
end Go.Ga

/- A part of the proof of FnTrapSteps: plain facts on the model. No condition. -/
import Derived.Below
import Derived.ChangeOld
import Derived.Lib.ItoaNum
import Derived.Lib.LaidTab
import Derived.Lib.SmallJoins
import Derived.OpenShut
import Derived.ProofKit
import Derived.Shelf.SlSortCmp.NoneTotal
import Derived.ShutString
import Derived.SizedLaws
import Derived.Sort.Grow
import Derived.WalkKit
import Derived.Test.YtebbaacgalipaaaFnTrapStepsA
set_option linter.unusedSimpArgs false
namespace Go.Ga
open Go
structure Arr (n : Nat) where
 l : List Int
 len : l.length = n
variable {n : Nat}
def encA (g : Arr n) : List Value := g.l.map fun x => Value.int .i64 x
def Arr.rep (n : Nat) (x : Int) : Arr n := ⟨List.replicate n x, List.length_replicate⟩
def Arr.at (g : Arr n) (i : Int) : Int := g.l.getD i.toNat 0
def Arr.put (g : Arr n) (i v : Int) : Arr n := ⟨g.l.set i.toNat v, by rw [List.length_set]; exact g.len⟩
theorem encA_len (g : Arr n) : (encA g).length = n := by unfold encA; rw [List.length_map]; exact g.len
theorem encA_le (g : Arr n) : 0 + n ≤ (encA g).length := by rw [encA_len]; omega
theorem encA_leaves (g : Arr n) : Leaves (encA g) := by
  have : ∀ l : List Int, Leaves (l.map fun x => Value.int .i64 x) := by
    intro l
    induction l with
    | nil => exact lf_nil
    | cons x l ih => exact lf_cons rfl ih
  exact this g.l
theorem encA_over (g h : Arr n) : over (encA g) 0 (encA h) = encA h := by
  have : ∀ (b a : List Value), b.length = a.length → over a 0 b = b := by
    intro b
    have key : ∀ (b a : List Value) (i : Nat) (p : List Value), p.length = i → b.length = a.length → over (p ++ a) i b = p ++ b := by
      intro b
      induction b with
      | nil => intro a i p hp hl; have : a = [] := List.length_eq_zero_iff.1 hl.symm; subst this; rfl
      | cons x b ih =>
        intro a i p hp hl
        cases a with
        | nil => simp at hl
        | cons y a =>
          show over ((p ++ y :: a).set i x) (i + 1) b = _
          rw [List.set_append_right _ _ (by omega), show i - p.length = 0 by omega, List.set_cons_zero, show p ++ x :: a = (p ++ [x]) ++ a by simp, ih a (i + 1) (p ++ [x]) (by simp; omega) (by simpa using hl)]
          simp
    intro a hl
    exact key b a 0 [] rfl hl
  exact this _ _ (by rw [encA_len, encA_len])
theorem encA_get (g : Arr n) {i : Nat} (h : i < n) : (encA g)[i]? = some (.int .i64 (g.l.getD i 0)) := by
 unfold encA
 rw [List.getElem?_map, List.getElem?_eq_getElem (by rw [g.len]; exact h), List.getD_eq_getElem?_getD, List.getElem?_eq_getElem (by rw [g.len]; exact h)]; rfl
theorem cell_tab {w : World} {p : Addr} {g : Arr n} {m : Nat} {i j : Int} (h : CellsAt w p (encA g)) (hi : 0 ≤ i ∧ i * m + m ≤ n) (hj : 0 ≤ j ∧ j < m) : w.cell? ((p.add (i.toNat * m)).add (j.toNat * 1)) = some (.int .i64 (g.at (i * m + j))) := by
 obtain ⟨a, rfl⟩ := Int.eq_ofNat_of_zero_le hi.1
 obtain ⟨b, rfl⟩ := Int.eq_ofNat_of_zero_le hj.1
 have e : ((a : Int) * (m : Int) + (b : Int)).toNat = a * m + b := by rw [← Int.natCast_mul, ← Int.natCast_add, Int.toNat_natCast]
 have hlt : a * m + b < n := by have := hi.2; have := hj.2; rw [← Int.natCast_mul] at *; omega
 have h1 := h (a * m + b) _ (encA_get g hlt)
 unfold Arr.at
 rw [e, Int.toNat_natCast, Int.toNat_natCast, Addr.add_add, Nat.mul_one]; exact h1
theorem Leaves.one (v : Int) : Leaves [Value.int .i64 v] := lf_cons rfl lf_nil
section
variable {P : Program} {N : Nat} {e : Env} {C : World → Prop} {w0 : World} {M : Nat → Prop} {rs : List Res}
variable {d : Option Tmp} {ty : TypeId} {pos : String} {af : Array Edge} {gd : Option (Nat × Bool)} {x y : Operand} {v : Value} {t : TypeId}
theorem d_storeTab {by' i b m : Nat} {z : Value} {T : TypeId} {g : Arr n} {r j u : Int} (hi : TInfo P t 1 by' z) (hx : opv e x = some (.pointer (some (((⟨b, 0, none⟩ : Addr).add (r.toNat * m)).add (j.toNat * 1))))) (hy : opv e y = some (.int .i64 u))
  (hr : rs[i]? = some (R.box b T (encA g))) (h1 : 0 ≤ r ∧ r * m + m ≤ n) (h2 : 0 ≤ j ∧ j < m) :
  Does P N e (Sep w0 M rs) ⟨d, .store t x y, ty, pos, af, gd⟩ (setBox i b T (encA (g.put (r * m + j) u)) w0 M rs) := by
 obtain ⟨a, rfl⟩ := Int.eq_ofNat_of_zero_le h1.1
 obtain ⟨c, rfl⟩ := Int.eq_ofNat_of_zero_le h2.1
 have e0 : ((a : Int) * (m : Int) + (c : Int)).toNat = a * m + c := by rw [← Int.natCast_mul, ← Int.natCast_add, Int.toNat_natCast]
 have hlt : a * m + c < n := by have := h1.2; have := h2.2; rw [← Int.natCast_mul] at *; omega
 have h3 := d_storeG2 (cs2 := [.int .i64 u]) hi hx hy hr rfl rfl (by rw [encA_len, Int.toNat_natCast, Int.toNat_natCast, Nat.mul_one]; omega) (Leaves.one u) (d := d) (ty := ty) (pos := pos) (af := af) (g := gd) (N := N) (M := M) (w0 := w0)
 have h4 : over (encA g) ((a : Int).toNat * m + (c : Int).toNat * 1) [.int .i64 u] = encA (g.put ((a : Int) * m + c) u) := by
  unfold encA Arr.put
  simp only [over, e0, Int.toNat_natCast, Nat.mul_one]
  rw [List.map_set]
 rw [h4] at h3; exact h3
theorem d_storeArr {by' i b : Nat} {z : Value} {T : TypeId} {g h : Arr n} (hi : TInfo P t n by' z) (hx : opv e x = some (.pointer (some ⟨b, 0, none⟩))) (hy : opv e y = some (.agg (encA h).toArray))
  (hr : rs[i]? = some (R.box b T (encA g))) : Does P N e (Sep w0 M rs) ⟨d, .store t x y, ty, pos, af, gd⟩ (setBox i b T (encA h) w0 M rs) := by
 have h3 := d_storeG0 (cs2 := encA h) hi hx hy hr rfl (encA_len h) (encA_le g) (encA_leaves h) (d := d) (ty := ty) (pos := pos) (af := af) (g := gd) (N := N) (M := M) (w0 := w0)
 rw [encA_over] at h3; exact h3
def rowA (g : Arr n) (i : Int) (m : Nat) : Array Value := (encA g).toArray.extract (i.toNat * m) (i.toNat * m + m)
theorem r_indexT {el : TypeId} {k m by' : Nat} {z : Value} {g : Arr n} {i : Int} {ik : IntKind} (hu : P.underlying t = some (.array k el)) (hi : TInfo P el m by' z) (ha' : TAgg P el true) (hx : opv e x = some (.agg (encA g).toArray)) (hy : opv e y = some (.int ik i)) (h : 0 ≤ i ∧ i < k) :
  Runs P N e C ⟨d, .index t x y, ty, pos, af, gd⟩ (.agg (rowA g i m)) := fun a w ha hw => by
 simp [execOp, ha.eval hx, ha.eval hy, Instr.index, asIntOf, run_underlying hu, h.1, h.2, Go.part, run_isAgg ha', run_sizeOf hi, rowA]
theorem r_indexR {el : TypeId} {k m by' : Nat} {z : Value} {g : Arr n} {i j : Int} {ik : IntKind} (hu : P.underlying t = some (.array k el)) (hi : TInfo P el 1 by' z) (ha' : TAgg P el false) (hx : opv e x = some (.agg (rowA g i m))) (hy : opv e y = some (.int ik j)) (h1 : 0 ≤ i ∧ i * m + m ≤ n) (h : 0 ≤ j ∧ j < k) (hk : k = m := by rfl) :
  Runs P N e C ⟨d, .index t x y, ty, pos, af, gd⟩ (.int .i64 (g.at (i * m + j))) := fun a w ha hw => by
 subst hk
 obtain ⟨a', rfl⟩ := Int.eq_ofNat_of_zero_le h1.1
 obtain ⟨c, rfl⟩ := Int.eq_ofNat_of_zero_le h.1
 have e0 : ((a' : Int) * (k : Int) + (c : Int)).toNat = a' * k + c := by rw [← Int.natCast_mul, ← Int.natCast_add, Int.toNat_natCast]
 have hlt : a' * k + c < n := by have := h1.2; have := h.2; rw [← Int.natCast_mul] at *; omega
 have hc : c < k := by have := h.2; omega
 have hg : (rowA g (a' : Int) k)[c]? = some (.int .i64 (g.at ((a' : Int) * k + c))) := by
  have e1 := encA_get g hlt
  unfold rowA Arr.at
  rw [e0, Int.toNat_natCast, ← Array.getElem?_toList, Array.toList_extract]
  show (((encA g).extract (a' * k) (a' * k + k)))[c]? = _
  rw [List.extract_eq_take_drop, List.getElem?_take_of_lt (by omega), List.getElem?_drop]
  exact e1
 simp [execOp, ha.eval hx, ha.eval hy, Instr.index, asIntOf, run_underlying hu, h.1, h.2, hc, Go.part, run_isAgg ha', run_sizeOf hi, hg]
theorem tabB {i : Int} (a m n : Nat) (h : 0 ≤ i ∧ i < a) (hn : a * m = n) : 0 ≤ i ∧ i * m + m ≤ n := by
 obtain ⟨b, rfl⟩ := Int.eq_ofNat_of_zero_le h.1
 have h2 : b + 1 ≤ a := by have := h.2; omega
 have h3 := Nat.mul_le_mul_right m h2
 rw [Nat.succ_mul] at h3
 refine ⟨h.1, ?_⟩
 rw [← Int.natCast_mul]; omega
end
end Go.Ga

namespace Go.Ga
open Go
open Go.Ga.Rp (rep own)
open Go.Ga.Flat (enc)
set_option linter.unusedVariables false
set_option linter.unusedSimpArgs false
structure Sh (β : Type) where
 v : Value
 c : List β
 lf : isLeaf v = true
def Sh.nil {β : Type} : Sh β := ⟨.slice none 0 0, [], rfl⟩
instance {β : Type} : Rp (Sh β) := encRp 1 (fun x => [x.v]) (fun _ => rfl)
instance {β : Type} : Flat (Sh β) := ⟨fun x => [x.v], Iff.rfl, Iff.rfl⟩
instance {β : Type} : Leafy (Sh β) := ⟨fun x => by show ([x.v].all isLeaf) = true; simp [x.lf]⟩
section
variable {β : Type} [Rp β]
def Rows (w : World) : (Nat → Prop) → List (Sh β) → Prop
  | _, [] => True
  | S, t :: ts => ∃ S1 S2 : Nat → Prop, (∀ b, S1 b → S2 b → False) ∧ (∀ b, S1 b → S b) ∧ (∀ b, S2 b → S b) ∧ SlOwn w S1 t.v t.c ∧ Rows w S2 ts
theorem Rows.mono {w : World} : ∀ {ls : List (Sh β)} {S S' : Nat → Prop}, (∀ b, S b → S' b) → Rows w S ls → Rows w S' ls
  | [], _, _, _, _ => trivial
  | t :: ts, S, S', h, ⟨S1, S2, h1, h2, h3, h4, h5⟩ => ⟨S1, S2, h1, fun b hb => h b (h2 b hb), fun b hb => h b (h3 b hb), h4, h5⟩
theorem Rows.sub {w : World} {ls ls' : List (Sh β)} (h : ls'.Sublist ls) : ∀ {S : Nat → Prop}, Rows w S ls → Rows w S ls' := by
  induction h with
  | slnil => exact fun h => h
  | cons a _ ih => exact fun ⟨S1, S2, h1, h2, h3, h4, h5⟩ => (ih h5).mono h3
  | cons_cons a _ ih => exact fun ⟨S1, S2, h1, h2, h3, h4, h5⟩ => ⟨S1, S2, h1, h2, h3, h4, ih h5⟩
theorem Rows.mk {w : World} : ∀ {ls : List (Sh β)} {S : Nat → Prop} {f : Nat → Nat → Prop}, (∀ i j c, i ≠ j → f i c → f j c → False) → (∀ i c, f i c → S c) → (∀ i t, ls[i]? = some t → SlOwn w (f i) t.v t.c) → Rows w S ls
  | [], _, _, _, _, _ => trivial
  | t :: ts, S, f, h1, h2, h3 => ⟨f 0, fun c => ∃ i, f (i + 1) c, fun b hb ⟨i, hi⟩ => h1 0 (i + 1) b (by omega) hb hi, h2 0, fun b ⟨i, hi⟩ => h2 _ b hi, h3 0 t rfl,
      Rows.mk (f := fun i => f (i + 1)) (fun i j c hij => h1 _ _ c (by omega)) (fun i c hc => ⟨i, hc⟩) (fun i x hx => h3 (i + 1) x (by simpa using hx))⟩
variable {w0 w : World} {M : Nat → Prop} {rest : List Res} {S : Nat → Prop} {v : Value}
end
end Go.Ga

namespace Go.Ga
open Go
open Go.Ga.Rp (rep own)
open Go.Ga.Flat (enc)

class Wf (α : Type) where
 wfd : α → Prop
open Go.Ga.Wf (wfd)
instance : Wf Int := ⟨fun x => -9223372036854775808 ≤ x ∧ x ≤ 9223372036854775807⟩
instance : Wf Bool := ⟨fun _ => True⟩
instance : Wf ByteArray := ⟨fun s => s.size ≤ maxLen⟩
instance {α : Type} [Wf α] : Wf (List α) := ⟨fun l => l.length ≤ maxLen ∧ ∀ x ∈ l, wfd x⟩
instance {α β : Type} [Wf α] [Wf β] : Wf (α × β) := ⟨fun x => wfd x.1 ∧ wfd x.2⟩

def Opn (P : Program) (t : TypeId) (α : Type) [Rp α] [Wf α] : Prop :=
 ∀ {H : Type} (enc : TypeId × Value → H) (w : World) (base : Nat) (spare : Nat → Bool) (held : Bool) (fuel : Nat) (cs : List Value) (y : DataW H × List MemPlace), (∀ b, spare b = true) →
  DataW.trod enc P w base spare held fuel t cs = some y → ∃ x : α, rep w (fun _ => True) cs x ∧ wfd x

section
variable {P : Program} {t : TypeId}
theorem cells_block {w : World} {a : Addr} {base n : Nat} {cs : List Value} (hn : 0 < n) (h : w.cells? base a n = some cs) :
  ∃ C T fr, w.heap[a.block]? = some (.cells C T fr) ∧ a.spot = none ∧ part C a.off n = cs ∧ a.off + n ≤ C.size := by
 obtain ⟨_, hl, hc⟩ := World.cells?_some h
 have h0 := hc 0 hn
 rw [List.getElem?_eq_getElem (by omega)] at h0
 have hz : a.add 0 = a := by simp [Addr.add]
 rw [hz] at h0
 have hsp := World.cell?_spot h0
 obtain ⟨b, off, sp⟩ := a
 simp only at hsp; subst hsp
 unfold World.cell? at h0
 split at h0
 ·rename_i C T fr hb
  have key : ∀ i, i < n → C[off + i]? = cs[i]? := fun i hi => by
   have := hc i hi
   rw [add_off] at this
   simpa [World.cell?, hb] using this
  have hsz : off + n ≤ C.size := by
   have h1 := key (n - 1) (by omega)
   rw [List.getElem?_eq_getElem (by omega)] at h1
   have := (Array.getElem?_eq_some_iff.1 h1).1
   omega
  refine ⟨C, T, fr, hb, rfl, ?_, hsz⟩
  refine List.ext_getElem? fun j => ?_
  simp only [part, List.getElem?_take, List.getElem?_drop]
  split
  ·rename_i hj; rw [Array.getElem?_toList]; exact key j hj
  ·rename_i hj; rw [List.getElem?_eq_none (by omega)]
 ·cases h0

theorem opn_slice {e : TypeId} {α : Type} [Rp α] [Wf α] (ht : P.underlying t = some (.slice e)) (hc : P.cellsOf e = Rp.n α) (hpos : 0 < Rp.n α) (he : Opn P e α) : Opn P t (List α) := fun enc w base spare held fuel cs y hsp h => by
  rcases DataW.trod_slice ht h with ⟨rfl, _⟩ | ⟨a, len, cap, elems, rest, n, rfl, rfl, _, hb, hl, hm, hlen, hel, hspare, _⟩
  · exact ⟨[], ⟨_, rfl, .inl ⟨rfl, rfl⟩⟩, Nat.zero_le _, by simp⟩
  · have hex : ∀ i, i < len → ∃ (x : α) (c : List Value), w.cells? base (a.add (i * Rp.n α)) (Rp.n α) = some c ∧ rep w (fun _ => True) c x ∧ wfd x := by
      intro i hi
      have h1 := hel i hi
      rw [List.getElem?_eq_getElem (by omega), Option.bind_eq_some_iff] at h1
      obtain ⟨c, h2, h3⟩ := h1
      obtain ⟨x, h4, h5⟩ := he enc w base spare held n c _ hsp h3
      rw [hc] at h2
      exact ⟨x, c, h2, h4, h5⟩
    by_cases hcap : cap = 0
    · subst hcap
      have : len = 0 := by omega
      subst this
      exact ⟨[], ⟨_, rfl, .inr (.inl ⟨a, rfl, rfl⟩)⟩, Nat.zero_le _, by simp⟩
    · have hcells : ∀ i, i < cap → ∃ c, w.cells? base (a.add (i * Rp.n α)) (Rp.n α) = some c := by
        intro i hi
        by_cases h1 : i < len
        · obtain ⟨_, c, h2, _⟩ := hex i h1; exact ⟨c, h2⟩
        · obtain ⟨h3, h4⟩ := hspare (hsp _)
          have h5 := h4 (i - len) (by omega)
          rw [List.getElem?_eq_getElem (by omega), Option.bind_eq_some_iff] at h5
          obtain ⟨c, h6, _⟩ := h5
          rw [hc, show len + (i - len) = i by omega] at h6
          exact ⟨c, h6⟩
      obtain ⟨c0, hc0⟩ := hcells 0 (by omega)
      rw [Nat.zero_mul] at hc0
      have hz : a.add 0 = a := by simp [Addr.add]
      rw [hz] at hc0
      obtain ⟨C, T, fr, hblk, hspot, _, _⟩ := cells_block hpos hc0
      obtain ⟨b, off, sp⟩ := a
      simp only at hspot; subst hspot
      have hall : ∀ i c, w.cells? base ((⟨b, off, none⟩ : Addr).add (i * Rp.n α)) (Rp.n α) = some c → part C (off + i * Rp.n α) (Rp.n α) = c ∧ off + i * Rp.n α + Rp.n α ≤ C.size := by
        intro i c hi
        rw [add_off] at hi
        obtain ⟨C', T', fr', h1, _, h2, h3⟩ := cells_block hpos hi
        simp only at h1 h2 h3
        simp only at hblk
        rw [hblk] at h1; cases h1
        exact ⟨h2, h3⟩
      obtain ⟨cl, hcl⟩ := hcells (cap - 1) (by omega)
      have hsz := (hall _ _ hcl).2
      have hmul : (cap - 1) * Rp.n α + Rp.n α = cap * Rp.n α := by
        rw [← Nat.succ_mul]; congr 1; omega
      -- the list
      have hchoose : ∃ l : List α, l.length = len ∧ ∀ i x, l[i]? = some x → rep w (fun _ => True) (part C (off + i * Rp.n α) (Rp.n α)) x ∧ wfd x := by
        have : ∀ m, m ≤ len → ∃ l : List α, l.length = m ∧ ∀ i x, l[i]? = some x → rep w (fun _ => True) (part C (off + i * Rp.n α) (Rp.n α)) x ∧ wfd x := by
          intro m
          induction m with
          | zero => intro _; exact ⟨[], rfl, by simp⟩
          | succ m ih =>
            intro hm
            obtain ⟨l, hl1, hl2⟩ := ih (by omega)
            obtain ⟨x, c, h1, h2, h3⟩ := hex m (by omega)
            have h4 := (hall m c h1).1
            refine ⟨l ++ [x], by simp [hl1], fun i z hi => ?_⟩
            rcases Nat.lt_or_ge i m with h | h
            · rw [List.getElem?_append_left (by omega)] at hi; exact hl2 i z hi
            · have : i = m := by have := (List.getElem?_eq_some_iff.1 hi).1; simp [hl1] at this; omega
              subst this
              rw [List.getElem?_append_right (by omega)] at hi
              simp [hl1] at hi; subst hi
              rw [h4]; exact ⟨h2, h3⟩
        exact this len (Nat.le_refl _)
      obtain ⟨l, hl1, hl2⟩ := hchoose
      refine ⟨l, ⟨_, rfl, .inr (.inr ⟨b, off, cap, C, T, fr, trivial, by rw [hl1], by omega, hblk, by omega, fun i x hx => (hl2 i x hx).1⟩)⟩, by omega, fun x hx => ?_⟩
      obtain ⟨i, hi⟩ := List.getElem?_of_mem hx
      exact (hl2 i x hi).2

def Cv (α β : Type) [Rp α] [Rp β] [Wf α] [Wf β] : Prop := ∃ f : α → β, ∀ w S cs x, rep w S cs x → wfd x → rep w S cs (f x) ∧ wfd (f x)
theorem Cv.refl {α : Type} [Rp α] [Wf α] : Cv α α := ⟨id, fun _ _ _ _ h k => ⟨h, k⟩⟩
theorem Cv.trans {α β γ : Type} [Rp α] [Rp β] [Rp γ] [Wf α] [Wf β] [Wf γ] (h : Cv α β) (k : Cv β γ) : Cv α γ := by
 obtain ⟨f, hf⟩ := h; obtain ⟨g, hg⟩ := k
 exact ⟨g ∘ f, fun w S cs x h1 h2 => hg w S cs _ (hf w S cs x h1 h2).1 (hf w S cs x h1 h2).2⟩
end
theorem Ext.below {w w' : World} (h : Ext w w') : RowKit.Below w.heap.size w w' := ⟨h.os, h.tape, h.output, h.size, h.block⟩
end Go.Ga

namespace Go.Ga
open Go
open Go.Ga.Rp (rep own)
open Go.Ga.Flat (enc)
open Go.Ga.Wf (wfd)
structure By where
 v : Int
deriving DecidableEq
instance : Rp By := encRp 1 (fun x => [.int .u8 x.v]) (fun _ => rfl)
instance : Flat By := ⟨fun x => [.int .u8 x.v], Iff.rfl, Iff.rfl⟩
instance : Leafy By := ⟨fun _ => rfl⟩
instance : OwnLeaf By := ⟨fun h => by rw [Flat.own_iff.1 h]; rfl⟩
instance : Wf By := ⟨fun x => 0 ≤ x.v ∧ x.v ≤ 255⟩
theorem lit_wfB {n : Int} (h : (Lit.int .u8 n).wf = true) : 0 ≤ n ∧ n ≤ 255 := by
 simp only [Lit.wf, IntKind.min, IntKind.max, IntKind.signed, IntKind.bits, Bool.and_eq_true, decide_eq_true_eq] at h
 simp at h; omega
theorem opn_by {P : Program} {t : TypeId} (ht : P.underlying t = some (.int .u8)) : Opn P t By := fun enc w base spare held fuel cs y _ h => by
 obtain ⟨n, rfl, _, hw⟩ := DataW.trod_int ht h
 exact ⟨⟨n⟩, rfl, lit_wfB hw⟩
section
variable {P : Program} {N : Nat} {e : Env} {C : World → Prop} {d : Option Tmp} {ty : TypeId} {pos : String} {af : Array Edge} {g : Option (Nat × Bool)} {x y : Operand} {t t' el : TypeId}
end
end Go.Ga
namespace Go.Ga
open Go
theorem r_nilC {P : Program} {N : Nat} {e : Env} {C : World → Prop} {d : Option Tmp} {ty : TypeId} {pos : String} {af : Array Edge} {g : Option (Nat × Bool)} {x : Operand} {p : Addr} (hx : opv e x = some (.pointer (some p))) :
  Runs P N e C ⟨d, .nilCheck x, ty, pos, af, g⟩ (.pointer (some p)) := fun a w ha _ => by
 simp [execOp, ha.eval hx]
end Go.Ga
namespace Go.Ga
open Go
end Go.Ga
namespace Go.Ga
open Go
section
variable {P : Program} {N : Nat} {Q : Exit → Act → World → Prop} {e : Env} {C : World → Prop} {ops : Array Oper} {i d : Nat} {o : Oper} {v : Value} {t r : Tre} {fin : List Nat}
theorem Tri.drawTK {B : World → Prop} {id : Nat} (hm : P.follows .mixedOrders = true) (hC : upC C) (all fin : List Nat) (t : Tre) (hck : checkT ops all fin t = true)
  (h : StrT P ops N (Keep B) (FinF P ops N Q fin) t e C) : Tri P N Q (.region id ops true) e C := by
 intro a w ha hw
 simp only [checkT, Bool.and_eq_true] at hck
 obtain ⟨⟨h1, h4⟩, h2⟩ := hck
 have h4 := Nat.eq_of_beq_eq_true h4
 refine wp_region_any hm ?_
 have hR := (StrT.sound (P := P) (Q := Q) h1 (by simp) h2 (fun j o _ hl => by
  simp only [Array.getD_eq_getD_getElem?, Array.getElem?_replicate] at hl
  split at hl <;> simp at hl) hC h a ha).1 rfl
 rw [h4] at hR
 exact hR.sound _ (hC w _ hw (Ext.drew w))
theorem TK.q {w0 : World} {M : Nat → Prop} {rs l : List Res} (is : List Nat) (hl : Ga.pick rs is = some l) (hn : noDup is = true) (hi : ops[i]? = some o) (hd : o.dst = some d) (hN : Nat.blt d N = true) (hg : W ops N e o) (h : Runs P N e (Sep w0 M l) o v) (next : TF P ops N (Sep w0 M l) Q fin t ((d, v) :: e) (Sep w0 M rs)) : TF P ops N (Sep w0 M l) Q fin (.q i t) e (Sep w0 M rs) :=
 ⟨o, v, hi, dok hd hN, ⟨Sep w0 M l, fun _ h => h.pick hl hn, Sep.up, fun _ _ _ h => h, fun w w' h k => Sep.up w w' h k, .inl ⟨hg, fun _ _ ha hw => h.fine ha hw⟩⟩, by rw [putS hd]; exact next⟩
theorem TK.qc {w0 : World} {M : Nat → Prop} {rs l : List Res} (is : List Nat) (hl : Ga.pick rs is = some l) (hn : noDup is = true) (hi : ops[i]? = some o) (hd : o.dst = some d) (hN : Nat.blt d N = true) (hg : W ops N e o) (h : ∀ a w, Has N a e → Sep w0 M l w → fine P o a w (fun u w' => u = v ∧ Ext w w'))
  (next : TF P ops N (Sep w0 M l) Q fin t ((d, v) :: e) (Sep w0 M rs)) : TF P ops N (Sep w0 M l) Q fin (.q i t) e (Sep w0 M rs) :=
 ⟨o, v, hi, dok hd hN, ⟨Sep w0 M l, fun _ h => h.pick hl hn, Sep.up, fun _ _ _ h => h, fun w w' h k => Sep.up w w' h k, .inl ⟨hg, h⟩⟩, by rw [putS hd]; exact next⟩
end
end Go.Ga

namespace Go.Ga
open Go
section
variable {P : Program} {ops : Array Oper} {N : Nat} {Q : Exit → Act → World → Prop} {fin : List Nat} {r : List (Nat × Bool)} {e : Env} {C : World → Prop} {i d : Nat} {o : Oper} {v : Value}

theorem K.q {w0 : World} {M : Nat → Prop} {rs l : List Res} (is : List Nat) (hl : Ga.pick rs is = some l) (hn : noDup is = true) (hi : ops[i]? = some o) (hd : o.dst = some d) (hN : Nat.blt d N = true) (hg : W ops N e o) (h : Runs P N e (Sep w0 M l) o v) (next : BF P ops N (Sep w0 M l) Q fin r ((d, v) :: e) (Sep w0 M rs)) : BF P ops N (Sep w0 M l) Q fin ((i, true) :: r) e (Sep w0 M rs) :=
 StrB.q Sep.up (fun _ hw => hw.pick hl hn) hi (dok hd hN) hg h (by rw [putS hd]; exact next)
theorem K.sk {w0 : World} {M : Nat → Prop} {rs l : List Res} (is : List Nat) (hl : Ga.pick rs is = some l) (hn : noDup is = true) (hi : ops[i]? = some o) (hd : o.dst = some d) (hN : Nat.blt d N = true) (hg : Wanted ops N e o false) (next : BF P ops N (Sep w0 M l) Q fin r ((d, undef) :: e) (Sep w0 M rs)) : BF P ops N (Sep w0 M l) Q fin ((i, true) :: r) e (Sep w0 M rs) :=
 StrB.sk Sep.up (fun _ hw => hw.pick hl hn) hi (dok hd hN) hg (by rw [putS hd]; exact next)
theorem K.qc {w0 : World} {M : Nat → Prop} {rs l : List Res} (is : List Nat) (hl : Ga.pick rs is = some l) (hn : noDup is = true) (hi : ops[i]? = some o) (hd : o.dst = some d) (hN : Nat.blt d N = true) (hg : W ops N e o) (h : ∀ a w, Has N a e → Sep w0 M l w → fine P o a w (fun u w' => u = v ∧ Ext w w'))
  (next : BF P ops N (Sep w0 M l) Q fin r ((d, v) :: e) (Sep w0 M rs)) : BF P ops N (Sep w0 M l) Q fin ((i, true) :: r) e (Sep w0 M rs) :=
 StrB.qc Sep.up (fun _ hw => hw.pick hl hn) hi (dok hd hN) hg h (by rw [putS hd]; exact next)
theorem Tri.drawK {B : World → Prop} {id : Nat} (hm : P.follows .mixedOrders = true) (hC : upC C) (steps : List (Nat × Bool)) (fin : List Nat) (hck : checkR ops steps fin = true) (h : Str P ops N (Keep B) (FinF P ops N Q fin) steps e C) : Tri P N Q (.region id ops true) e C := Tri.draw hm hC steps fin hck h
end

theorem Tab.ext {P : Program} {w w' : World} {n : String} {k : IntKind} {zs : List Int} (h : Lib.TabIs P w n k zs) (x : Ext w w') : Lib.TabIs P w' n k zs := by
  cases hg : P.globalNamed n with
  | none => unfold Lib.TabIs World.var? at h; rw [hg] at h; cases h
  | some g => exact Joins.tab_stays hg h (Ext.below x) (Nat.le_refl _)
theorem Tab.sep {P : Program} {w0 w : World} {rs : List Res} {n : String} {k : IntKind} {zs : List Int} (h : Lib.TabIs P w0 n k zs) (x : Sep w0 noM rs w) : Lib.TabIs P w n k zs := Tab.ext h x.ext
section
variable {P : Program} {N : Nat} {e : Env} {w0 : World} {M : Nat → Prop} {rs : List Res} {d : Option Tmp} {t el ty src dst : TypeId} {pos : String} {af : Array Edge} {g : Option (Nat × Bool)}
end
end Go.Ga

namespace Go.Ga
open Go
open Go.Ga.Rp (rep own)
open Go.Ga.Flat (enc)
open Go.Ga.Wf (wfd)
def Big : Nat := 1125899906842624
theorem w64_id {x : Int} (h : -9223372036854775808 ≤ x) (h' : x ≤ 9223372036854775807) : w64 x = x := by
 unfold w64 IntKind.wrap
 simp [IntKind.bits, IntKind.signed]
 omega
theorem rdl_nat {α : Type} (l : List α) (i : Nat) : rdl l (i : Int) = l[i]? := by simp [rdl]
theorem rdl_lt {α : Type} {l : List α} {i : Nat} (h : i < l.length) : rdl l (i : Int) = some l[i] := by simp [rdl, h]

def itr {S : Type} (g : Nat → S → S) : Nat → Nat → S → S
  | 0, _, s => s
  | m + 1, i, s => itr g m (i + 1) (g i s)
theorem loop_state {S β : Type} {l : Nat → S → Int → Option β} {N : Nat} {g : Nat → S → S} {out : S → Option β} (Inv : Nat → S → Prop)
    (hs : ∀ n i s, i < N → Inv i s → l (n + 1) s (i : Int) = l n (g i s) ((i + 1 : Nat) : Int) ∧ Inv (i + 1) (g i s))
    (he : ∀ n s, Inv N s → l (n + 1) s (N : Int) = out s) {k : Nat} (hk : N < k) {s : S} (h0 : Inv 0 s) :
    l k s 0 = out (itr g N 0 s) ∧ Inv N (itr g N 0 s) := by
  have key : ∀ m i k s, i + m = N → m < k → Inv i s → l k s (i : Int) = out (itr g m i s) ∧ Inv N (itr g m i s) := by
    intro m
    induction m with
    | zero =>
      intro i k s hi hk hI
      obtain ⟨n, rfl⟩ : ∃ n, k = n + 1 := ⟨k - 1, by omega⟩
      have : i = N := by omega
      subst this
      exact ⟨he n s hI, hI⟩
    | succ m ih =>
      intro i k s hi hk hI
      obtain ⟨n, rfl⟩ : ∃ n, k = n + 1 := ⟨k - 1, by omega⟩
      obtain ⟨h1, h2⟩ := hs n i s (by omega) hI
      rw [h1]
      exact ih (i + 1) n _ (by omega) (by omega) h2
  have := key N 0 k s (by omega) hk h0
  simpa using this
def itx {S R : Type} (g : Nat → S → S ⊕ R) : Nat → Nat → S → S ⊕ R
  | 0, _, s => .inl s
  | m + 1, i, s => match g i s with | .inl s' => itx g m (i + 1) s' | .inr r => .inr r
theorem loop_exit {S R T : Type} {l : Nat → S → Int → Option (T ⊕ R)} {N : Nat} {g : Nat → S → S ⊕ R} {out : S → Option (T ⊕ R)} (Inv : Nat → S → Prop)
    (hs : ∀ n i s, i < N → Inv i s → (∃ s', g i s = .inl s' ∧ l (n + 1) s (i : Int) = l n s' ((i + 1 : Nat) : Int) ∧ Inv (i + 1) s') ∨ (∃ r, g i s = .inr r ∧ l (n + 1) s (i : Int) = some (.inr r)))
    (he : ∀ n s, Inv N s → l (n + 1) s (N : Int) = out s) {k : Nat} (hk : N < k) {s : S} (h0 : Inv 0 s) :
    l k s 0 = (match itx g N 0 s with | .inl s' => out s' | .inr r => some (.inr r)) := by
  have key : ∀ m i k s, i + m = N → m < k → Inv i s → l k s (i : Int) = (match itx g m i s with | .inl s' => out s' | .inr r => some (.inr r)) := by
    intro m
    induction m with
    | zero =>
      intro i k s hi hk hI
      obtain ⟨n, rfl⟩ : ∃ n, k = n + 1 := ⟨k - 1, by omega⟩
      have : i = N := by omega
      subst this
      exact he n s hI
    | succ m ih =>
      intro i k s hi hk hI
      obtain ⟨n, rfl⟩ : ∃ n, k = n + 1 := ⟨k - 1, by omega⟩
      rcases hs n i s (by omega) hI with ⟨s', h1, h2, h3⟩ | ⟨r, h1, h2⟩
      · rw [h2, ih (i + 1) n _ (by omega) (by omega) h3]; simp [itx, h1]
      · rw [h2]; simp [itx, h1]
  have := key N 0 k s (by omega) hk h0
  simpa using this
theorem loop_all {R : Type} {l : Nat → Int → Option (Unit ⊕ R)} {N : Nat} (ok : Nat → Bool) {z : R}
    (hs : ∀ n (i : Nat), i < N → l (n + 1) (i : Int) = if ok i = true then l n ((i + 1 : Nat) : Int) else some (.inr z))
    (he : ∀ n, l (n + 1) (N : Int) = some (.inl ())) {k : Nat} (hk : N < k) :
    l k 0 = some (if ∀ i, i < N → ok i = true then .inl () else .inr z) := by
  have key : ∀ m i k, i + m = N → m < k → l k (i : Int) = some (if (List.range' i m).all ok = true then .inl () else .inr z) := by
    intro m
    induction m with
    | zero =>
      intro i k hi hk
      obtain ⟨n, rfl⟩ : ∃ n, k = n + 1 := ⟨k - 1, by omega⟩
      have : i = N := by omega
      subst this
      rw [he]; rfl
    | succ m ih =>
      intro i k hi hk
      obtain ⟨n, rfl⟩ : ∃ n, k = n + 1 := ⟨k - 1, by omega⟩
      rw [hs n i (by omega), List.range'_succ, List.all_cons]
      by_cases h : ok i = true
      · rw [if_pos h, ih (i + 1) n (by omega) (by omega), h, Bool.true_and]
      · rw [if_neg h, if_neg (by simp [h])]
  have := key N 0 k (by omega) hk
  rw [show ((0 : Nat) : Int) = 0 from rfl] at this
  rw [this]
  congr 1
  have e : (List.range' 0 N).all ok = true ↔ ∀ i, i < N → ok i = true := by simp [List.all_eq_true, List.mem_range'_1]
  by_cases h : (List.range' 0 N).all ok = true
  · rw [if_pos h, if_pos (e.1 h)]
  · rw [if_neg h, if_neg (fun H => h (e.2 H))]
theorem loop_find {R T : Type} {l : Nat → Int → Option (T ⊕ R)} {N : Nat} (g : Nat → Option R) {z : T ⊕ R}
    (hs : ∀ n (i : Nat), i < N → l (n + 1) (i : Int) = match g i with | none => l n ((i + 1 : Nat) : Int) | some r => some (.inr r))
    (he : ∀ n, l (n + 1) (N : Int) = some z) {k : Nat} (hk : N < k) :
    l k 0 = some (match (List.range N).findSome? g with | none => z | some r => .inr r) := by
  have key : ∀ m i k, i + m = N → m < k → l k (i : Int) = some (match (List.range' i m).findSome? g with | none => z | some r => .inr r) := by
    intro m
    induction m with
    | zero =>
      intro i k hi hk
      obtain ⟨n, rfl⟩ : ∃ n, k = n + 1 := ⟨k - 1, by omega⟩
      have : i = N := by omega
      subst this
      rw [he]; rfl
    | succ m ih =>
      intro i k hi hk
      obtain ⟨n, rfl⟩ : ∃ n, k = n + 1 := ⟨k - 1, by omega⟩
      rw [hs n i (by omega), List.range'_succ, List.findSome?_cons]
      cases h : g i with
      | none => simp only []; exact ih (i + 1) n (by omega) (by omega)
      | some r => simp only []
  have := key N 0 k (by omega) hk
  rw [show ((0 : Nat) : Int) = 0 from rfl] at this
  rw [this, List.range_eq_range']
theorem Lr_ite {X : Type} {R : Type} {c : Prop} [Decidable c] {z : R} {g : R → Option X} {f : Unit → Option X} : Lr (if c then .inl () else .inr z) g f = if c then f () else g z := by split <;> rfl
end Go.Ga

namespace Go.Ga
open Go
theorem wrap_nat {n : Nat} (h : n < 9223372036854775808) : IntKind.i64.wrap (n : Int) = n := w64_id (by omega) (by omega)
theorem ofInt_nat (n : Nat) : BitVec.ofInt 64 (n : Int) = BitVec.ofNat 64 n := by simp
theorem band_nat {a b : Nat} (ha : a < 9223372036854775808) (hb : b < 9223372036854775808) : band (a : Int) (b : Int) = ((a &&& b : Nat) : Int) := by
 unfold band
 rw [ofInt_nat, ofInt_nat, BitVec.toNat_and, BitVec.toNat_ofNat, BitVec.toNat_ofNat, Nat.mod_eq_of_lt (by omega), Nat.mod_eq_of_lt (by omega)]
 exact wrap_nat (Nat.lt_of_le_of_lt Nat.and_le_left ha)
theorem bor_nat {a b : Nat} (ha : a < 9223372036854775808) (hb : b < 9223372036854775808) : bor (a : Int) (b : Int) = ((a ||| b : Nat) : Int) := by
 unfold bor
 rw [ofInt_nat, ofInt_nat, BitVec.toNat_or, BitVec.toNat_ofNat, BitVec.toNat_ofNat, Nat.mod_eq_of_lt (by omega), Nat.mod_eq_of_lt (by omega)]
 exact wrap_nat (Nat.or_lt_two_pow (n := 63) ha hb)
theorem bclr_nat {a b : Nat} (ha : a < 9223372036854775808) : bclr (a : Int) (b : Int) = ((a ^^^ (a &&& b) : Nat) : Int) := by
 unfold bclr
 rw [ofInt_nat, ofInt_nat]
 have h : (BitVec.ofNat 64 a &&& ~~~ BitVec.ofNat 64 b).toNat = a ^^^ (a &&& b) := by
  apply Nat.eq_of_testBit_eq
  intro i
  rw [BitVec.testBit_toNat]
  simp only [BitVec.getLsbD_and, BitVec.getLsbD_not, BitVec.getLsbD_ofNat, Nat.testBit_xor, Nat.testBit_and]
  by_cases hi : i < 64
  ·simp [hi]; cases a.testBit i <;> cases b.testBit i <;> rfl
  ·have : a.testBit i = false := Nat.testBit_lt_two_pow (Nat.lt_of_lt_of_le ha (by
    have : 2 ^ 64 ≤ 2 ^ i := Nat.pow_le_pow_right (by omega) (by omega)
    omega))
   simp [this]
 rw [h]
 exact wrap_nat (Nat.xor_lt_two_pow (n := 63) ha (Nat.lt_of_le_of_lt Nat.and_le_left ha))
theorem shl_one {t : Nat} (h : t < 63) : shl 1 (t : Int) = ((2 ^ t : Nat) : Int) := by
 unfold shl
 rw [Int.toNat_natCast, Nat.min_eq_left (by omega)]
 have h1 : (1 : Int) * 2 ^ t = ((2 ^ t : Nat) : Int) := by simp
 rw [h1]
 exact wrap_nat (Nat.lt_of_le_of_lt (Nat.pow_le_pow_right (by omega) (by omega : t ≤ 62)) (by decide))
theorem shr_nat {a t : Nat} (h : t < 64) : shr (a : Int) (t : Int) = ((a / 2 ^ t : Nat) : Int) := by
 unfold shr
 rw [Int.toNat_natCast, Nat.min_eq_left (by omega)]
 rw [show (2 : Int) ^ t = ((2 ^ t : Nat) : Int) by simp, Int.fdiv_eq_ediv_of_nonneg _ (Int.natCast_nonneg _)]
 rfl
theorem bit_nat {a t : Nat} (ha : a < 9223372036854775808) (h : t < 64) : (band (shr (a : Int) (t : Int)) 1 == 0) = !a.testBit t := by
 rw [shr_nat h, show (1 : Int) = ((1 : Nat) : Int) from rfl, band_nat (Nat.lt_of_le_of_lt (Nat.div_le_self _ _) ha) (by omega)]
 rw [Nat.testBit_eq_decide_div_mod_eq, Nat.and_one_is_mod]
 have := Nat.mod_two_eq_zero_or_one (a / 2 ^ t)
 rcases this with h | h <;> simp [h]
def subB (c a : Nat) : Bool := c &&& a == c
theorem has_clr {a c : Nat} (hc : c < 9223372036854775808) : (bclr (c : Int) (a : Int) == 0) = subB c a := by
 rw [bclr_nat hc]; unfold subB
 rw [Bool.eq_iff_iff, beq_iff_eq, beq_iff_eq]
 constructor
 ·intro h
  have h' : c ^^^ (c &&& a) = 0 := by omega
  have := congrArg (· ^^^ (c &&& a)) h'
  simp only [Nat.xor_assoc, Nat.xor_self, Nat.xor_zero, Nat.zero_xor] at this
  exact this.symm
 ·intro h; rw [h, Nat.xor_self]; rfl
theorem has_and {a c : Nat} (ha : a < 9223372036854775808) (hc : c < 9223372036854775808) : (band (a : Int) (c : Int) == (c : Int)) = subB c a := by
 rw [band_nat ha hc]; unfold subB
 rw [Bool.eq_iff_iff, beq_iff_eq, beq_iff_eq, Nat.and_comm]
 omega
end Go.Ga

namespace Go.Ga
open Go Go.Sort
open Go.Ga.Rp (rep own)
open Go.Ga.Flat (enc)
set_option linter.unusedVariables false
set_option linter.unusedSimpArgs false
section
variable {α β : Type} [Rp α] [Flat α] [Inhabited β] {w0 w w' : World} {M : Nat → Prop} {rs : List Res} {i : Nat} {S : Nat → Prop} {l l' : List α} {b off cap : Nat} {T : TypeId} {pre post : List Value}
end
end Go.Ga

namespace Go.Ga
open Go Go.Sort
open Go.Ga.Rp (rep own)
open Go.Ga.Flat (enc)
set_option linter.unusedVariables false
set_option linter.unusedSimpArgs false
abbrev Tri3 := Int × Int × Int
def TLt (x y : Tri3) : Prop := x.1 < y.1 ∨ x.1 = y.1 ∧ (x.2.1 < y.2.1 ∨ x.2.1 = y.2.1 ∧ x.2.2 < y.2.2)
instance (x y : Tri3) : Decidable (TLt x y) := by unfold TLt; infer_instance
end Go.Ga
namespace Go.Ga
open Go Go.Sort
open Go.Ga.Rp (rep own)
open Go.Ga.Flat (enc)
end Go.Ga

/- A part of the proof of FnCrashes: plain facts on the model. No condition. -/
import Derived.Lib.ConvBytes
import Derived.Lib.SlBytesRow
import Derived.Shelf.SlSortCmp.NoneTotal
import Derived.Sort.Grow
import Derived.Test.YtebbaacgalipaaaDoorFnCrashesA
set_option linter.unusedSimpArgs false
namespace Go.Ga
open Go
section
variable {P : Program} {N : Nat} {e : Env} {w0 : World} {M : Nat → Prop} {rs : List Res} {d : Option Tmp} {t t' el ty src dst : TypeId} {pos : String} {af : Array Edge} {g : Option (Nat × Bool)} {x y : Operand}
def R.byts (b : Nat) (T : TypeId) (l : List UInt8) : Res where
 foot := fun k => k = b
 ok := fun w => ∃ C : Array Value, w.heap[b]? = some (.cells C T (C.size, C.size + 1)) ∧ l.length ≤ C.size ∧ ∀ i (h : i < l.length), C[i]? = some (.int .u8 (l[i].toNat : Int))
 st := fun w w' ⟨C, h⟩ k => ⟨C, by rw [k b rfl]; exact h.1, h.2⟩
def newByts (l : List UInt8) (T : TypeId) (w0 : World) (M : Nat → Prop) (rs : List Res) (u : Value) (C' : World → Prop) : Prop := ∃ b cap, u = .slice (some ⟨b, 0, none⟩) l.length cap ∧ C' = Sep w0 M (R.byts b T l :: rs)
theorem ext_bytesWorld (w : World) (T : TypeId) (s : ByteArray) : Ext w (Lib.bytesWorld w T s) :=
 ⟨rfl, rfl, rfl, by rw [Lib.bytesWorld_size]; omega, Nat.le_succ _, fun j hj => Lib.bytesWorld_at_old w T s j hj⟩
theorem m_strBytes {s : ByteArray} {u : TypeDesc} (hs : P.underlying src = some u) (hd : P.underlying dst = some (.slice el)) (he : P.underlying el = some (.int .u8)) (hx : opv e x = some (.string s)) :
  Makes P N e (Sep w0 M rs) ⟨d, .convert src dst x, ty, pos, af, g⟩ (newByts s.data.toList el w0 M rs) :=
 m_of fun a w ha hw => by
  have hsz : s.data.toList.length = s.size := by simp
  have hrun := Lib.run_convert_string_bytes w src dst el s hs hd he
  refine ⟨.slice (some ⟨w.heap.size, 0, none⟩) s.size (grownCap w s.size 0 el), Lib.bytesWorld w el s, by simp [execOp, ha.eval hx, hrun], ext_bytesWorld w el s, Sep w0 M (R.byts w.heap.size el s.data.toList :: rs), Sep.up, ?_, w.heap.size, grownCap w s.size 0 el, by rw [hsz], rfl⟩
  have hcsz : (Lib.bytesCells w el s).size = s.size + (grownCap w s.size 0 el - s.size) := by unfold Lib.bytesCells; simp
  refine hw.push (ext_bytesWorld w el s) ⟨Lib.bytesCells w el s, Lib.bytesWorld_at_new w el s, by rw [hsz, hcsz]; omega, fun i hi => ?_⟩ (fun b hb => ?_)
  ·have hi' : i < s.data.size := by simpa using hi
   unfold Lib.bytesCells
   rw [Array.getElem?_append_left (by simpa using hi'), Array.getElem?_map, Array.getElem?_eq_getElem hi']
   rfl
  ·have hb' : b = w.heap.size := hb
   rw [hb', Lib.bytesWorld_size]; omega
theorem byt_len {a : Addr} {n cap : Nat} : SlLen (.slice (some a) n cap) n := ⟨_, _, rfl, fun h => by cases h⟩
theorem byt_addr {b n cap : Nat} {j : Int} : slAddr (.slice (some ⟨b, 0, none⟩) n cap) 1 j = ⟨b, j.toNat, none⟩ := by
 show (⟨b, 0, none⟩ : Addr).add (j.toNat * 1) = _
 rw [add_off, Nat.zero_add, Nat.mul_one]
theorem byt_cell {w : World} {i b n cap : Nat} {T : TypeId} {l : List UInt8} {j : Int} {c : UInt8} (hr : rs[i]? = some (R.byts b T l)) (hj : rdl l j = some c) (hw : Sep w0 M rs w) :
  w.cell? (slAddr (.slice (some ⟨b, 0, none⟩) n cap) 1 j) = some (.int .u8 (c.toNat : Int)) := by
 obtain ⟨C, h1, h2, h3⟩ := hw.get hr
 obtain ⟨g1, g2, g3⟩ := rdl_some hj
 have hlt : j.toNat < l.length := by omega
 have := h3 j.toNat hlt
 rw [byt_addr]
 rw [List.getElem?_eq_getElem hlt] at g3
 rw [Option.some.inj g3] at this
 exact cell_of_block h1 this
theorem wrapB (x : Int) : 0 ≤ IntKind.u8.wrap x ∧ IntKind.u8.wrap x < 256 := by
 unfold IntKind.wrap
 simp [IntKind.bits, IntKind.signed]
 omega
theorem r_subB {m n : Int} (hx : opv e x = some (.int .u8 m)) (hy : opv e y = some (.int .u8 n)) {C : World → Prop} : Runs P N e C ⟨d, .binOp .sub t x y t', ty, pos, af, g⟩ (.int .u8 (IntKind.u8.wrap (m - n))) := fun a w ha _ => by
 simp [execOp, ha.eval hx, ha.eval hy, eqGuard, binOp, Op.intArith]
theorem setCell_atB {w : World} {b off lo hi : Nat} {T : TypeId} {C : Array Value} {v : Value} (h : w.heap[b]? = some (.cells C T (lo, hi))) :
  (w.setCell ⟨b, off, none⟩ v).heap[b]? = some (.cells (C.setIfInBounds off v) T (lo, hi)) := by
 simp [World.setCell, Array.getElem?_modify, h]
def setByt (i b : Nat) (T : TypeId) (l : List UInt8) (w0 : World) (M : Nat → Prop) (rs : List Res) (u : Value) (C' : World → Prop) : Prop := u = undef ∧ C' = Sep w0 M (rs.set i (R.byts b T l))
theorem run_storeB {w : World} {b off lo hi : Nat} {T : TypeId} {C : Array Value} {u v : Value} (h : w.heap[b]? = some (.cells C T (lo, hi))) (hlo : off < lo) (hu : C[off]? = some u) (hv : isLeaf v = true) :
  (store ⟨b, off, none⟩ v).run P w = .ok () (w.setCell ⟨b, off, none⟩ v) := by
 have h1 := cell_of_block h hu
 have h2 : w.frozen? ⟨b, off, none⟩ = false := by simp [World.frozen?, h]; omega
 cases v <;> simp [isLeaf] at hv <;> simp [store, Sem.run, h1, h2]
theorem d_storeByt {i b n cap by' : Nat} {z : Value} {T : TypeId} {l : List UInt8} {j m : Int} {c : UInt8} (hi : TInfo P t 1 by' z) (hx : opv e x = some (.pointer (some (slAddr (.slice (some ⟨b, 0, none⟩) n cap) 1 j)))) (hy : opv e y = some (.int .u8 m))
  (hr : rs[i]? = some (R.byts b T l)) (hj : rdl l j = some c) (hm : 0 ≤ m ∧ m < 256) :
  Does P N e (Sep w0 M rs) ⟨d, .store t x y, ty, pos, af, g⟩ (setByt i b T (l.set j.toNat (UInt8.ofNat m.toNat)) w0 M rs) :=
 d_of fun a w ha hw => by
  obtain ⟨C, h1, h2, h3⟩ := hw.get hr
  obtain ⟨g1, g2, g3⟩ := rdl_some hj
  have hlt : j.toNat < l.length := by omega
  have hx' : opv e x = some (.pointer (some ⟨b, j.toNat, none⟩)) := by
   rw [hx, byt_addr]
  have hst := run_storeB (P := P) (off := j.toNat) (v := .int .u8 m) h1 (by omega) (h3 j.toNat hlt) rfl
  have hadd : (⟨b, j.toNat, none⟩ : Addr).add 0 = ⟨b, j.toNat, none⟩ := by rw [add_off, Nat.add_zero]
  refine ⟨undef, w.setCell ⟨b, j.toNat, none⟩ (.int .u8 m), .inr ⟨?_, rfl⟩, _, ?_, rfl, rfl⟩
  ·have hc : (Value.int .u8 m).cells.toList = [.int .u8 m] := rfl
   have hcs : (Value.int .u8 m).cells.size = 1 := rfl
   simp [execOp, ha.eval hx', ha.eval hy, Instr.storeAt, Instr.sureAddr, storeVar, run_sizeOf hi, hcs, hc, storeCells, hadd, hst]
  ·have hset : (w.setCell ⟨b, j.toNat, none⟩ (.int .u8 m)).heap[b]? = some (.cells (C.setIfInBounds j.toNat (.int .u8 m)) T (C.size, C.size + 1)) := setCell_atB h1
   refine hw.set hr setCell_kp ?_ (fun k hk => ⟨.inl hk, by rw [setCell_size]; exact (hw.foot _ (List.mem_of_getElem? hr) k hk).2⟩)
   refine ⟨C.setIfInBounds j.toNat (.int .u8 m), by rw [hset]; simp, by simpa using h2, fun q hq => ?_⟩
   rw [List.length_set] at hq
   rw [Array.getElem?_setIfInBounds, List.getElem_set]
   have hq' := h3 q hq
   by_cases hc : j.toNat = q
   ·subst hc
    rw [if_pos rfl, if_pos (by omega), if_pos rfl]
    congr 2
    rw [UInt8.toNat_ofNat']; omega
   ·rw [if_neg hc, if_neg hc]; exact hq'
theorem r_bytsStr {i b n cap : Nat} {l : List UInt8} (hs : P.underlying src = some (.slice el)) (he : P.underlying el = some (.int .u8)) (hd : P.underlying dst = some .string) (hx : opv e x = some (.slice (some ⟨b, 0, none⟩) n cap)) (hr : rs[i]? = some (R.byts b el l)) (hn : n = l.length) :
  Runs P N e (Sep w0 M rs) ⟨d, .convert src dst x, ty, pos, af, g⟩ (.string ⟨l.toArray⟩) := fun a w ha hw => by
 obtain ⟨C, h1, h2, h3⟩ := hw.get hr
 have hB : Lib.Bytes w b 0 ⟨l.toArray⟩ := fun i hi => by
  have hi' : i < l.length := by simpa [ByteArray.size] using hi
  rw [Nat.zero_add]
  exact cell_of_block h1 (h3 i hi')
 have := Lib.run_convert_whole (P := P) w src el dst hs he hd b 0 ⟨l.toArray⟩ hB cap
 rw [show (⟨l.toArray⟩ : ByteArray).size = n by rw [hn]; simp [ByteArray.size]] at this
 simp [execOp, ha.eval hx, this]
end
end Go.Ga

namespace Go.Ga
open Go
open Go.Ga.Rp (rep own)
open Go.Ga.Flat (enc)
open Go.Ga.Wf (wfd)
def Big : Nat := 1125899906842624
theorem w64_id {x : Int} (h : -9223372036854775808 ≤ x) (h' : x ≤ 9223372036854775807) : w64 x = x := by
 unfold w64 IntKind.wrap
 simp [IntKind.bits, IntKind.signed]
 omega
theorem rdl_nat {α : Type} (l : List α) (i : Nat) : rdl l (i : Int) = l[i]? := by simp [rdl]
theorem rdl_lt {α : Type} {l : List α} {i : Nat} (h : i < l.length) : rdl l (i : Int) = some l[i] := by simp [rdl, h]
theorem bta_lt {s : ByteArray} {i : Nat} (h : i < s.size) : bta s (i : Int) = some s[i] := by simp [bta, h]
theorem wrap_byte (b : UInt8) : IntKind.i64.wrap (b.toNat : Int) = b.toNat := by
 have h := b.toNat_lt
 exact w64_id (by omega) (by omega)

def itr {S : Type} (g : Nat → S → S) : Nat → Nat → S → S
  | 0, _, s => s
  | m + 1, i, s => itr g m (i + 1) (g i s)
theorem loop_state {S β : Type} {l : Nat → S → Int → Option β} {N : Nat} {g : Nat → S → S} {out : S → Option β} (Inv : Nat → S → Prop)
    (hs : ∀ n i s, i < N → Inv i s → l (n + 1) s (i : Int) = l n (g i s) ((i + 1 : Nat) : Int) ∧ Inv (i + 1) (g i s))
    (he : ∀ n s, Inv N s → l (n + 1) s (N : Int) = out s) {k : Nat} (hk : N < k) {s : S} (h0 : Inv 0 s) :
    l k s 0 = out (itr g N 0 s) ∧ Inv N (itr g N 0 s) := by
  have key : ∀ m i k s, i + m = N → m < k → Inv i s → l k s (i : Int) = out (itr g m i s) ∧ Inv N (itr g m i s) := by
    intro m
    induction m with
    | zero =>
      intro i k s hi hk hI
      obtain ⟨n, rfl⟩ : ∃ n, k = n + 1 := ⟨k - 1, by omega⟩
      have : i = N := by omega
      subst this
      exact ⟨he n s hI, hI⟩
    | succ m ih =>
      intro i k s hi hk hI
      obtain ⟨n, rfl⟩ : ∃ n, k = n + 1 := ⟨k - 1, by omega⟩
      obtain ⟨h1, h2⟩ := hs n i s (by omega) hI
      rw [h1]
      exact ih (i + 1) n _ (by omega) (by omega) h2
  have := key N 0 k s (by omega) hk h0
  simpa using this
theorem loop_all {R : Type} {l : Nat → Int → Option (Unit ⊕ R)} {N : Nat} (ok : Nat → Bool) {z : R}
    (hs : ∀ n (i : Nat), i < N → l (n + 1) (i : Int) = if ok i = true then l n ((i + 1 : Nat) : Int) else some (.inr z))
    (he : ∀ n, l (n + 1) (N : Int) = some (.inl ())) {k : Nat} (hk : N < k) :
    l k 0 = some (if ∀ i, i < N → ok i = true then .inl () else .inr z) := by
  have key : ∀ m i k, i + m = N → m < k → l k (i : Int) = some (if (List.range' i m).all ok = true then .inl () else .inr z) := by
    intro m
    induction m with
    | zero =>
      intro i k hi hk
      obtain ⟨n, rfl⟩ : ∃ n, k = n + 1 := ⟨k - 1, by omega⟩
      have : i = N := by omega
      subst this
      rw [he]; rfl
    | succ m ih =>
      intro i k hi hk
      obtain ⟨n, rfl⟩ : ∃ n, k = n + 1 := ⟨k - 1, by omega⟩
      rw [hs n i (by omega), List.range'_succ, List.all_cons]
      by_cases h : ok i = true
      · rw [if_pos h, ih (i + 1) n (by omega) (by omega), h, Bool.true_and]
      · rw [if_neg h, if_neg (by simp [h])]
  have := key N 0 k (by omega) hk
  rw [show ((0 : Nat) : Int) = 0 from rfl] at this
  rw [this]
  congr 1
  have e : (List.range' 0 N).all ok = true ↔ ∀ i, i < N → ok i = true := by simp [List.all_eq_true, List.mem_range'_1]
  by_cases h : (List.range' 0 N).all ok = true
  · rw [if_pos h, if_pos (e.1 h)]
  · rw [if_neg h, if_neg (fun H => h (e.2 H))]
theorem loop_find {R T : Type} {l : Nat → Int → Option (T ⊕ R)} {N : Nat} (g : Nat → Option R) {z : T ⊕ R}
    (hs : ∀ n (i : Nat), i < N → l (n + 1) (i : Int) = match g i with | none => l n ((i + 1 : Nat) : Int) | some r => some (.inr r))
    (he : ∀ n, l (n + 1) (N : Int) = some z) {k : Nat} (hk : N < k) :
    l k 0 = some (match (List.range N).findSome? g with | none => z | some r => .inr r) := by
  have key : ∀ m i k, i + m = N → m < k → l k (i : Int) = some (match (List.range' i m).findSome? g with | none => z | some r => .inr r) := by
    intro m
    induction m with
    | zero =>
      intro i k hi hk
      obtain ⟨n, rfl⟩ : ∃ n, k = n + 1 := ⟨k - 1, by omega⟩
      have : i = N := by omega
      subst this
      rw [he]; rfl
    | succ m ih =>
      intro i k hi hk
      obtain ⟨n, rfl⟩ : ∃ n, k = n + 1 := ⟨k - 1, by omega⟩
      rw [hs n i (by omega), List.range'_succ, List.findSome?_cons]
      cases h : g i with
      | none => simp only []; exact ih (i + 1) n (by omega) (by omega)
      | some r => simp only []
  have := key N 0 k (by omega) hk
  rw [show ((0 : Nat) : Int) = 0 from rfl] at this
  rw [this, List.range_eq_range']
theorem Lr_ite {X : Type} {R : Type} {c : Prop} [Decidable c] {z : R} {g : R → Option X} {f : Unit → Option X} : Lr (if c then .inl () else .inr z) g f = if c then f () else g z := by split <;> rfl
end Go.Ga

namespace Go.Ga
open Go
def subB (c a : Nat) : Bool := c &&& a == c
end Go.Ga

namespace Go.Ga
open Go Go.Sort
open Go.Ga.Rp (rep own)
open Go.Ga.Flat (enc)
set_option linter.unusedVariables false
set_option linter.unusedSimpArgs false
section
variable {α β : Type} [Rp α] [Flat α] [Inhabited β] {w0 w w' : World} {M : Nat → Prop} {rs : List Res} {i : Nat} {S : Nat → Prop} {l l' : List α} {b off cap : Nat} {T : TypeId} {pre post : List Value}
end
end Go.Ga

namespace Go.Ga
open Go Go.Sort
open Go.Ga.Rp (rep own)
open Go.Ga.Flat (enc)
set_option linter.unusedVariables false
set_option linter.unusedSimpArgs false
abbrev Tri3 := Int × Int × Int
def TLt (x y : Tri3) : Prop := x.1 < y.1 ∨ x.1 = y.1 ∧ (x.2.1 < y.2.1 ∨ x.2.1 = y.2.1 ∧ x.2.2 < y.2.2)
instance (x y : Tri3) : Decidable (TLt x y) := by unfold TLt; infer_instance
end Go.Ga
namespace Go.Ga
open Go Go.Sort
open Go.Ga.Rp (rep own)
open Go.Ga.Flat (enc)
end Go.Ga

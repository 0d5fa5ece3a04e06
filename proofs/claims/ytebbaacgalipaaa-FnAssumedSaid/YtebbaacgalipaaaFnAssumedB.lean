/- A part of the proof of FnAssumed: plain facts on the model. No condition. -/
import Derived.Lib.ItoaNum
import Derived.Lib.LaidTab
import Derived.Lib.SmallJoins
import Derived.Shelf.SlSortCmp.NoneTotal
import Derived.Sort.Grow
import Derived.Test.YtebbaacgalipaaaFnAssumedA
set_option linter.unusedSimpArgs false
/- A table of the library; a quiet part that leaves alone what the region writes; bytes. -/
namespace Go.Ga
open Go
section
variable {P : Program} {ops : Array Oper} {N : Nat} {Q : Exit → Act → World → Prop} {fin : List Nat} {r : List (Nat × Bool)} {e : Env} {C : World → Prop} {i d : Nat} {o : Oper} {v : Value}
/-! any order, with writes to what the region's quiet part leaves alone -/
theorem K.q {w0 : World} {M : Nat → Prop} {rs l : List Res} (is : List Nat) (hl : Ga.pick rs is = some l) (hn : noDup is = true) (hi : ops[i]? = some o) (hd : o.dst = some d) (hN : Nat.blt d N = true) (hg : W ops N e o) (h : Runs P N e (Sep w0 M l) o v) (next : BF P ops N (Sep w0 M l) Q fin r ((d, v) :: e) (Sep w0 M rs)) : BF P ops N (Sep w0 M l) Q fin ((i, true) :: r) e (Sep w0 M rs) :=
  StrB.q Sep.up (fun _ hw => hw.pick hl hn) hi (dok hd hN) hg h (by rw [putS hd]; exact next)
theorem Tri.drawK {B : World → Prop} {id : Nat} (hm : P.follows .mixedOrders = true) (hC : upC C) (steps : List (Nat × Bool)) (fin : List Nat) (hck : checkR ops steps fin = true) (h : Str P ops N (Keep B) (FinF P ops N Q fin) steps e C) : Tri P N Q (.region id ops true) e C := Tri.draw hm hC steps fin hck h
end
/-! a table -/
/-! a byte as a text -/
section
variable {P : Program} {N : Nat} {e : Env} {w0 : World} {M : Nat → Prop} {rs : List Res} {d : Option Tmp} {t el ty src dst : TypeId} {pos : String} {af : Array Edge} {g : Option (Nat × Bool)}
end
end Go.Ga

/- A slice of the call's own that a sort of the library has laid anew. -/
namespace Go.Ga
open Go Go.Sort
open Go.Ga.Rp (rep own)
open Go.Ga.Flat (enc)
set_option linter.unusedVariables false
set_option linter.unusedSimpArgs false
theorem putCells_list {α : Type} [Inhabited α] (f : α → Value) (off : Nat) (d : Array α) (pre A post : List Value) (hp : pre.length = off) (hA : A.length = d.size) :
    putCells f off d (pre ++ A ++ post).toArray = (pre ++ d.toList.map f ++ post).toArray := by
  subst hp
  apply Array.ext_getElem?
  intro k
  simp only [putCells, Array.getElem?_mapIdx, List.getElem?_toArray]
  rcases Nat.lt_or_ge k pre.length with h | h
  · rw [List.append_assoc, List.append_assoc, List.getElem?_append_left (by omega), List.getElem?_append_left (by omega)]
    cases pre[k]? with
    | none => rfl
    | some x => rw [Option.map_some, if_neg (fun hh => by omega)]
  · have e0 : ∀ Z : List Value, (pre ++ Z ++ post)[k]? = (Z ++ post)[k - pre.length]? := fun Z => by rw [List.append_assoc]; exact List.getElem?_append_right (by omega)
    rw [e0, e0]
    rcases Nat.lt_or_ge (k - pre.length) d.size with h2 | h2
    · have e1 : (A ++ post)[k - pre.length]? = A[k - pre.length]? := List.getElem?_append_left (by omega)
      have e2 : (d.toList.map f ++ post)[k - pre.length]? = (d.toList.map f)[k - pre.length]? := List.getElem?_append_left (by simpa using h2)
      have e3 : A[k - pre.length]? = some (A[k - pre.length]'(by omega)) := List.getElem?_eq_getElem (by omega)
      rw [e1, e2, e3, Option.map_some, if_pos ⟨h, by omega⟩, List.getElem?_map, Array.getElem?_toList, Array.getElem?_eq_getElem h2, Option.map_some, getElem!_pos d _ h2]
    · have e1 : (A ++ post)[k - pre.length]? = post[k - pre.length - d.size]? := by rw [List.getElem?_append_right (by omega), hA]
      have e2 : (d.toList.map f ++ post)[k - pre.length]? = post[k - pre.length - d.size]? := by rw [List.getElem?_append_right (by simpa using h2), List.length_map]; rfl
      rw [e1, e2]
      cases post[k - pre.length - d.size]? with
      | none => rfl
      | some x => rw [Option.map_some, if_neg (fun hh => by omega)]
theorem heap_putRow {α : Type} [Inhabited α] (f : α → Value) (w : World) (b off : Nat) (d : Array α) (k : Nat) (h : k ≠ b) : (putRow f w b off d).heap[k]? = w.heap[k]? := by
  simp only [putRow, mapBlock, Array.getElem?_modify]
  rw [if_neg (fun e => h e.symm)]
theorem heap_putRow_self {α : Type} [Inhabited α] (f : α → Value) (w : World) (b off : Nat) (d : Array α) {C : Array Value} {T : TypeId} {fr : Nat × Nat} (h : w.heap[b]? = some (.cells C T fr)) : (putRow f w b off d).heap[b]? = some (.cells (putCells f off d C) T fr) := by
  simp only [putRow, mapBlock, Array.getElem?_modify, if_true, h]
  rfl
section
variable {α β : Type} [Rp α] [Flat α] [Inhabited β] {w0 w w' : World} {M : Nat → Prop} {rs : List Res} {i : Nat} {S : Nat → Prop} {l l' : List α} {b off cap : Nat} {T : TypeId} {pre post : List Value}
/-- the row is laid anew; draws and new blocks do no harm -/
theorem row_back (f : β → Value) (d : Array β) (hw : Sep w0 M rs w) (hr : rs[i]? = some (R.sl S (.slice (some ⟨b, off, none⟩) l.length cap) l)) (g1 : S b) (g3 : l.length ≤ cap) (g4 : pre.length = off)
    (g5 : w.heap[b]? = some (.cells (pre ++ encs l ++ post).toArray T (0, 0))) (g6 : off + cap * Rp.n α ≤ (pre ++ encs l ++ post).length) (n : Nat) (os : Array Obj)
    (hd : d.toList.map f = encs l') (hl : l'.length = l.length) (he : w' = grow (putRow f (Sort.ahead w n) b off d) os) : Sep w0 M (rs.set i (R.sl S (.slice (some ⟨b, off, none⟩) l.length cap) l')) w' := by
  subst he
  have hb : b < w.heap.size := block_lt g5
  have hds : (encs l).length = d.size := by
    have := congrArg List.length hd
    rw [List.length_map, Array.length_toList, encs_length, hl, ← encs_length] at this
    exact this.symm
  have h1 : (grow (putRow f (Sort.ahead w n) b off d) os).heap[b]? = some (.cells (pre ++ encs l' ++ post).toArray T (0, 0)) := by
    rw [heap_grow_old _ _ (by rw [size_putRow]; exact hb), heap_putRow_self f (Sort.ahead w n) b off d g5, putCells_list f off d pre (encs l) post g4 hds, hd]
  refine hw.set hr ⟨rfl, rfl, rfl, ?_, Nat.le_add_right _ _, fun k hk hn => ?_⟩ ?_ (fun c hc => ⟨.inl hc, ?_⟩)
  · simp [grow, Sort.ahead]
  · rw [heap_grow_old _ _ (by rw [size_putRow]; exact hk), heap_putRow]
    · rfl
    · intro e; subst e; exact hn g1
  · have := slOwn_block (S := S) (pre := pre) (off := off) (cap := cap) (l := l') (b := b) (T := T) (post := post) g1 h1 g4 (by rw [hl]; exact g3) (by
      simp only [List.length_append, encs_length, hl] at g6 ⊢; exact g6)
    rw [hl] at this; exact this
  · have := (hw.foot _ (List.mem_of_getElem? hr) c hc).2
    refine Nat.lt_of_lt_of_le this ?_
    simp [grow, Sort.ahead]
end
theorem encs_int (l : List Int) : encs l = l.map (Value.int .i64) := by
  induction l with
  | nil => rfl
  | cons x l ih => show enc x ++ encs l = _; rw [ih]; rfl
/-- slices.Sort at []int, in our own words -/
theorem sortInt_ok {P : Program} {F : Nat} (h0 : ∀ w, Calls P F #[.slice none 0 0] w fun e w' => e = .returned (.tuple #[]) ∧ w' = w)
    (h1 : ∀ (blk off cap : Nat) (zs : List Int) (w : World), Holds (Value.int .i64) w blk off zs.toArray → blk < w.heap.size → zs.length < 4611686018427387904 →
      Calls P F #[.slice (some ⟨blk, off, none⟩) zs.length cap] w fun e w' => e = .returned (.tuple #[]) ∧ ∃ n os, w' = grow (putRow (Value.int .i64) (Sort.ahead w n) blk off (zs.mergeSort fun x y => decide (x ≤ y)).toArray) os)
    {a0 r0 : List Int} (hr : (if a0.length < 4611686018427387904 then some (a0.mergeSort fun x y => decide (x ≤ y)) else none) = some r0) (w : World) {v : Value} {S : Nat → Prop} (hl : SlLen v a0.length) (hw : Sep w (footM [R.sl S v a0]) [R.sl S v a0] w) :
    Calls P F ([v] : List Value).toArray w (PostM (footM [R.sl S v a0]) (fun u ns => u = .tuple #[] ∧ SlLen v r0.length ∧ ns = [R.sl S v r0]) w) := by
  split at hr
  rotate_left 1
  · cases hr
  rename_i hsz
  cases hr
  have hlen : (a0.mergeSort fun x y => decide (x ≤ y)).length = a0.length := List.length_mergeSort _
  rcases slOwn_open (hw.get (i := 0) rfl) with ⟨rfl, rfl⟩ | ⟨b, off, cap, T, pre, post, g1, rfl, g3, g4, g5, g6⟩
  · have e0 : ([] : List Int).mergeSort (fun x y => decide (x ≤ y)) = [] := by simp
    refine (h0 w).mono fun e w' ⟨he, hw'⟩ => ⟨_, _, he, ⟨rfl, by rw [hlen]; exact hl, rfl⟩, ?_⟩
    subst hw'; rw [e0]; exact hw
  · refine (h1 b off cap a0 w (fun j hj => ?_) (block_lt g5) hsz).mono fun e w' ⟨he, n, os, hw'⟩ => ⟨_, _, he, ⟨rfl, by rw [hlen]; exact hl, rfl⟩, ?_⟩
    · have hj' : j < a0.length := by simpa using hj
      have hc : (pre ++ encs a0 ++ post).toArray[off + j]? = some (Value.int .i64 a0[j]) := by
        rw [List.getElem?_toArray, List.append_assoc, List.getElem?_append_right (by omega), g4, Nat.add_sub_cancel_left, encs_int, List.getElem?_append_left (by simpa using hj'), List.getElem?_map, List.getElem?_eq_getElem hj']; rfl
      refine ⟨?_, ?_⟩
      · rw [cell_of_block g5 hc, getElem!_pos _ j hj]; rfl
      · simp [World.frozen?, g5]
    · have := row_back (i := 0) (Value.int .i64) (a0.mergeSort fun x y => decide (x ≤ y)).toArray hw rfl g1 g3 g4 g5 g6 n os (encs_int _).symm hlen hw'
      exact this
end Go.Ga

/- Plain laws: the bounded words, reading, and loops as the printer prints them. No program in sight. -/
namespace Go.Ga
open Go
open Go.Ga.Rp (rep own)
open Go.Ga.Flat (enc)
open Go.Ga.Wf (wfd)
/-- rounds enough for all loops that the guards let in -/
def Big : Nat := 1125899906842624
theorem w64_id {x : Int} (h : -9223372036854775808 ≤ x) (h' : x ≤ 9223372036854775807) : w64 x = x := by
  unfold w64 IntKind.wrap
  simp [IntKind.bits, IntKind.signed]
  omega
theorem rdl_nat {α : Type} (l : List α) (i : Nat) : rdl l (i : Int) = l[i]? := by simp [rdl]
theorem rdl_lt {α : Type} {l : List α} {i : Nat} (h : i < l.length) : rdl l (i : Int) = some l[i] := by simp [rdl, h]
/-! loops -/
def itr {S : Type} (g : Nat → S → S) : Nat → Nat → S → S
  | 0, _, s => s
  | m + 1, i, s => itr g m (i + 1) (g i s)
theorem loop_state {S β : Type} {l : Nat → S → Int → Option β} {N : Nat} {g : Nat → S → S} {out : S → Option β} (Inv : Nat → S → Prop)
    (hs : ∀ n i s, i < N → Inv i s → l (n + 1) s (i : Int) = l n (g i s) ((i + 1 : Nat) : Int) ∧ Inv (i + 1) (g i s))
    (he : ∀ n s, Inv N s → l (n + 1) s (N : Int) = out s) {k : Nat} (hk : N < k) {s : S} (h0 : Inv 0 s) :
    l k s 0 = out (itr g N 0 s) ∧ Inv N (itr g N 0 s) := by
  have key : ∀ m i k s, i + m = N → m < k → Inv i s → l k s (i : Int) = out (itr g m i s) ∧ Inv N (itr g m i s) := by
    intro m
    induction m with
    | zero =>
      intro i k s hi hk hI
      obtain ⟨n, rfl⟩ : ∃ n, k = n + 1 := ⟨k - 1, by omega⟩
      have : i = N := by omega
      subst this
      exact ⟨he n s hI, hI⟩
    | succ m ih =>
      intro i k s hi hk hI
      obtain ⟨n, rfl⟩ : ∃ n, k = n + 1 := ⟨k - 1, by omega⟩
      obtain ⟨h1, h2⟩ := hs n i s (by omega) hI
      rw [h1]
      exact ih (i + 1) n _ (by omega) (by omega) h2
  have := key N 0 k s (by omega) hk h0
  simpa using this
/-- all elements, or else `z` -/
theorem loop_all {R : Type} {l : Nat → Int → Option (Unit ⊕ R)} {N : Nat} (ok : Nat → Bool) {z : R}
    (hs : ∀ n (i : Nat), i < N → l (n + 1) (i : Int) = if ok i = true then l n ((i + 1 : Nat) : Int) else some (.inr z))
    (he : ∀ n, l (n + 1) (N : Int) = some (.inl ())) {k : Nat} (hk : N < k) :
    l k 0 = some (if ∀ i, i < N → ok i = true then .inl () else .inr z) := by
  have key : ∀ m i k, i + m = N → m < k → l k (i : Int) = some (if (List.range' i m).all ok = true then .inl () else .inr z) := by
    intro m
    induction m with
    | zero =>
      intro i k hi hk
      obtain ⟨n, rfl⟩ : ∃ n, k = n + 1 := ⟨k - 1, by omega⟩
      have : i = N := by omega
      subst this
      rw [he]; rfl
    | succ m ih =>
      intro i k hi hk
      obtain ⟨n, rfl⟩ : ∃ n, k = n + 1 := ⟨k - 1, by omega⟩
      rw [hs n i (by omega), List.range'_succ, List.all_cons]
      by_cases h : ok i = true
      · rw [if_pos h, ih (i + 1) n (by omega) (by omega), h, Bool.true_and]
      · rw [if_neg h, if_neg (by simp [h])]
  have := key N 0 k (by omega) hk
  rw [show ((0 : Nat) : Int) = 0 from rfl] at this
  rw [this]
  congr 1
  have e : (List.range' 0 N).all ok = true ↔ ∀ i, i < N → ok i = true := by simp [List.all_eq_true, List.mem_range'_1]
  by_cases h : (List.range' 0 N).all ok = true
  · rw [if_pos h, if_pos (e.1 h)]
  · rw [if_neg h, if_neg (fun H => h (e.2 H))]
/-- the first index with an answer -/
theorem loop_find {R T : Type} {l : Nat → Int → Option (T ⊕ R)} {N : Nat} (g : Nat → Option R) {z : T ⊕ R}
    (hs : ∀ n (i : Nat), i < N → l (n + 1) (i : Int) = match g i with | none => l n ((i + 1 : Nat) : Int) | some r => some (.inr r))
    (he : ∀ n, l (n + 1) (N : Int) = some z) {k : Nat} (hk : N < k) :
    l k 0 = some (match (List.range N).findSome? g with | none => z | some r => .inr r) := by
  have key : ∀ m i k, i + m = N → m < k → l k (i : Int) = some (match (List.range' i m).findSome? g with | none => z | some r => .inr r) := by
    intro m
    induction m with
    | zero =>
      intro i k hi hk
      obtain ⟨n, rfl⟩ : ∃ n, k = n + 1 := ⟨k - 1, by omega⟩
      have : i = N := by omega
      subst this
      rw [he]; rfl
    | succ m ih =>
      intro i k hi hk
      obtain ⟨n, rfl⟩ : ∃ n, k = n + 1 := ⟨k - 1, by omega⟩
      rw [hs n i (by omega), List.range'_succ, List.findSome?_cons]
      cases h : g i with
      | none => simp only []; exact ih (i + 1) n (by omega) (by omega)
      | some r => simp only []
  have := key N 0 k (by omega) hk
  rw [show ((0 : Nat) : Int) = 0 from rfl] at this
  rw [this, List.range_eq_range']
theorem Lr_ite {X : Type} {R : Type} {c : Prop} [Decidable c] {z : R} {g : R → Option X} {f : Unit → Option X} : Lr (if c then .inl () else .inr z) g f = if c then f () else g z := by split <;> rfl
end Go.Ga

/- The words' operations on bits, on small natural numbers. -/
namespace Go.Ga
open Go
theorem wrap_nat {n : Nat} (h : n < 9223372036854775808) : IntKind.i64.wrap (n : Int) = n := w64_id (by omega) (by omega)
theorem ofInt_nat (n : Nat) : BitVec.ofInt 64 (n : Int) = BitVec.ofNat 64 n := by simp
theorem band_nat {a b : Nat} (ha : a < 9223372036854775808) (hb : b < 9223372036854775808) : band (a : Int) (b : Int) = ((a &&& b : Nat) : Int) := by
  unfold band
  rw [ofInt_nat, ofInt_nat, BitVec.toNat_and, BitVec.toNat_ofNat, BitVec.toNat_ofNat, Nat.mod_eq_of_lt (by omega), Nat.mod_eq_of_lt (by omega)]
  exact wrap_nat (Nat.lt_of_le_of_lt Nat.and_le_left ha)
theorem bor_nat {a b : Nat} (ha : a < 9223372036854775808) (hb : b < 9223372036854775808) : bor (a : Int) (b : Int) = ((a ||| b : Nat) : Int) := by
  unfold bor
  rw [ofInt_nat, ofInt_nat, BitVec.toNat_or, BitVec.toNat_ofNat, BitVec.toNat_ofNat, Nat.mod_eq_of_lt (by omega), Nat.mod_eq_of_lt (by omega)]
  exact wrap_nat (Nat.or_lt_two_pow (n := 63) ha hb)
theorem bclr_nat {a b : Nat} (ha : a < 9223372036854775808) : bclr (a : Int) (b : Int) = ((a ^^^ (a &&& b) : Nat) : Int) := by
  unfold bclr
  rw [ofInt_nat, ofInt_nat]
  have h : (BitVec.ofNat 64 a &&& ~~~ BitVec.ofNat 64 b).toNat = a ^^^ (a &&& b) := by
    apply Nat.eq_of_testBit_eq
    intro i
    rw [BitVec.testBit_toNat]
    simp only [BitVec.getLsbD_and, BitVec.getLsbD_not, BitVec.getLsbD_ofNat, Nat.testBit_xor, Nat.testBit_and]
    by_cases hi : i < 64
    · simp [hi]; cases a.testBit i <;> cases b.testBit i <;> rfl
    · have : a.testBit i = false := Nat.testBit_lt_two_pow (Nat.lt_of_lt_of_le ha (by
        have : 2 ^ 64 ≤ 2 ^ i := Nat.pow_le_pow_right (by omega) (by omega)
        omega))
      simp [this]
  rw [h]
  exact wrap_nat (Nat.xor_lt_two_pow (n := 63) ha (Nat.lt_of_le_of_lt Nat.and_le_left ha))
theorem shl_one {t : Nat} (h : t < 63) : shl 1 (t : Int) = ((2 ^ t : Nat) : Int) := by
  unfold shl
  rw [Int.toNat_natCast, Nat.min_eq_left (by omega)]
  have h1 : (1 : Int) * 2 ^ t = ((2 ^ t : Nat) : Int) := by simp
  rw [h1]
  exact wrap_nat (Nat.lt_of_le_of_lt (Nat.pow_le_pow_right (by omega) (by omega : t ≤ 62)) (by decide))
theorem shr_nat {a t : Nat} (h : t < 64) : shr (a : Int) (t : Int) = ((a / 2 ^ t : Nat) : Int) := by
  unfold shr
  rw [Int.toNat_natCast, Nat.min_eq_left (by omega)]
  rw [show (2 : Int) ^ t = ((2 ^ t : Nat) : Int) by simp, Int.fdiv_eq_ediv_of_nonneg _ (Int.natCast_nonneg _)]
  rfl
theorem bit_nat {a t : Nat} (ha : a < 9223372036854775808) (h : t < 64) : (band (shr (a : Int) (t : Int)) 1 == 0) = !a.testBit t := by
  rw [shr_nat h, show (1 : Int) = ((1 : Nat) : Int) from rfl, band_nat (Nat.lt_of_le_of_lt (Nat.div_le_self _ _) ha) (by omega)]
  rw [Nat.testBit_eq_decide_div_mod_eq, Nat.and_one_is_mod]
  have := Nat.mod_two_eq_zero_or_one (a / 2 ^ t)
  rcases this with h | h <;> simp [h]
/-- all bits of c stand in a -/
def subB (c a : Nat) : Bool := c &&& a == c
theorem has_clr {a c : Nat} (hc : c < 9223372036854775808) : (bclr (c : Int) (a : Int) == 0) = subB c a := by
  rw [bclr_nat hc]; unfold subB
  rw [Bool.eq_iff_iff, beq_iff_eq, beq_iff_eq]
  constructor
  · intro h
    have h' : c ^^^ (c &&& a) = 0 := by omega
    have := congrArg (· ^^^ (c &&& a)) h'
    simp only [Nat.xor_assoc, Nat.xor_self, Nat.xor_zero, Nat.zero_xor] at this
    exact this.symm
  · intro h; rw [h, Nat.xor_self]; rfl
theorem has_and {a c : Nat} (ha : a < 9223372036854775808) (hc : c < 9223372036854775808) : (band (a : Int) (c : Int) == (c : Int)) = subB c a := by
  rw [band_nat ha hc]; unfold subB
  rw [Bool.eq_iff_iff, beq_iff_eq, beq_iff_eq, Nat.and_comm]
  omega
end Go.Ga

/- slices.SortFunc over triples of numbers, in our own words. -/
namespace Go.Ga
open Go Go.Sort
open Go.Ga.Rp (rep own)
open Go.Ga.Flat (enc)
set_option linter.unusedVariables false
set_option linter.unusedSimpArgs false
abbrev Tri3 := Int × Int × Int
def TLt (x y : Tri3) : Prop := x.1 < y.1 ∨ x.1 = y.1 ∧ (x.2.1 < y.2.1 ∨ x.2.1 = y.2.1 ∧ x.2.2 < y.2.2)
instance (x y : Tri3) : Decidable (TLt x y) := by unfold TLt; infer_instance
end Go.Ga
namespace Go.Ga
open Go Go.Sort
open Go.Ga.Rp (rep own)
open Go.Ga.Flat (enc)
end Go.Ga

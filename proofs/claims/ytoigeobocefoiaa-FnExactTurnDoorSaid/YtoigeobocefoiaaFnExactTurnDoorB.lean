/- A part of the proof of FnExactTurnDoor: plain facts on the model. No condition. -/
import Derived.Below
import Derived.ChangeOld
import Derived.Laws.BytesArg
import Derived.Laws.IdiomCopy
import Derived.Lib.ItoaNum
import Derived.Lib.LaidTab
import Derived.Lib.SmallJoins
import Derived.OpenShut
import Derived.ProofKit
import Derived.Shelf.SlSortCmp.NoneTotal
import Derived.Shelf.Slices.Empties
import Derived.Shelf.Slices.SearchI
import Derived.Shelf.Spec.SlicesInsert
import Derived.Shelf.Spec.SlicesInsertGrow
import Derived.ShutString
import Derived.SizedLaws
import Derived.Sort.Grow
import Derived.WalkKit
import Derived.Test.YtoigeobocefoiaaFnExactTurnDoorA
set_option linter.unusedSimpArgs false
namespace Go.Ga
open Go
open Go.Ga.Rp (rep own)
open Go.Ga.Flat (enc)
set_option linter.unusedVariables false
set_option linter.unusedSimpArgs false
def Cap63 (v : Value) : Prop := ∀ a n c, v = .slice a n c → c ≤ 9223372036854775807
theorem Cap63.mk {a : Option Addr} {n c : Nat} (h : c ≤ 9223372036854775807) : Cap63 (.slice a n c) := fun a' n' c' e => by cases e; exact h
theorem cap63_nil : Cap63 (.slice none 0 0) := Cap63.mk (by decide)

section
variable {P : Program} {N : Nat} {e : Env} {C : World → Prop} {d : Option Tmp} {ty : TypeId} {pos : String} {af : Array Edge} {g : Option (Nat × Bool)} {x y : Operand} {t el : TypeId} {w0 : World} {M : Nat → Prop} {rs : List Res}
def newSlC {α : Type} [Rp α] (l : List α) (w0 : World) (M : Nat → Prop) (rs : List Res) (u : Value) (C' : World → Prop) : Prop :=
 ∃ S, SlLen u l.length ∧ Cap63 u ∧ C' = Sep w0 M (R.sl S u l :: rs)
theorem m_build0C {α : Type} [Rp α] {parts : Array (Nat × Operand)} {n by' : Nat} {z : Value} (hu : P.underlying t = some (.slice el)) (hi : TInfo P el n by' z) (hp : parts = #[] := by rfl) :
  Makes P N e (Sep w0 M rs) ⟨d, .buildSlice t 0 parts, ty, pos, af, g⟩ (newSlC ([] : List α) w0 M rs) := by
 subst hp
 refine (m_build (vs := []) hu hi rfl rfl rfl (by intro v hv; cases hv) (by simp)).imp ?_
 rintro u C' ⟨b, rfl, rfl⟩
 exact ⟨_, ⟨fun k => k = b, ⟨_, _, rfl, fun h => by cases h⟩, Cap63.mk (by decide), rfl⟩, Sep.up, fun w hw => sl_of_box0 (i := 0) rfl w hw⟩
def appdC (i : Nat) {α : Type} [Rp α] (l : List α) (w0 : World) (M : Nat → Prop) (rs : List Res) (u : Value) (C' : World → Prop) : Prop :=
 ∃ S, C' = Sep w0 M (rs.set i (R.sl S u l)) ∧ SlLen u l.length ∧ Cap63 u
theorem d_appendC {α : Type} [Rp α] [Flat α] [Leafy α] {t' : TypeId} {by' i : Nat} {z v v2 : Value} {l l2 : List α} {S : Nat → Prop} (hu : P.underlying t = some (.slice el)) (hu' : P.underlying t' = some (.slice el)) (hi : TInfo P el (Rp.n α) by' z) (hz : z.cells.size = Rp.n α) (hby : by' ≤ 120)
  (hx : opv e x = some v) (hy : opv e y = some v2) (hr : rs[i]? = some (R.sl S v l)) (hcv : Cap63 v) (h2 : ∀ w, Sep w0 M rs w → Rd w v2 l2) (hb : (l ++ l2).length < 1099511627776) :
  Does P N e (Sep w0 M rs) ⟨d, .call ⟨.builtin .append, #[x, y], #[t, t']⟩, ty, pos, af, g⟩ (appdC i (l ++ l2) w0 M rs) :=
 d_of fun a w ha hw => by
  have hown : SlOwn w S v l := hw.get hr
  have hrd2 := h2 w hw
  obtain ⟨a2, cap2, e2, _⟩ := hrd2.len
  have hfc2 := firstCells_rd (P := P) hrd2
  rw [List.length_append] at hb
  have hns : (l ++ l2).length = l.length + l2.length := List.length_append
  have hmono : ∀ b, S b → b < w.heap.size := fun b hb => (hw.foot _ (List.mem_of_getElem? hr) b hb).2
  have hlen2 : (Builtin.lenOf v2).run P w = .ok l2.length w := by rw [e2]; simp [Builtin.lenOf]
  have hres : ∃ u w', (Builtin.append_ #[t, t'] ty #[v, v2]).run P w = .ok u w' ∧ ∃ C', C' w' ∧ appdC i (l ++ l2) w0 M rs u C' := by
   obtain ⟨inf, g1, g2, g3, g4⟩ := hi
   have hti : ∀ w' : World, (typeInfo el).run P w' = .ok inf w' := fun w' => by simp [typeInfo, g1]
   have hzv : ∀ w' : World, (zeroValue el).run P w' = .ok z w' := fun w' => by simp [zeroValue, hti, g4]
   have hsz : ∀ w' : World, (sizeOf el).run P w' = .ok (Rp.n α) w' := fun w' => by simp [sizeOf, hti, g2]
   have hroom1 : ∀ (m : Nat) (w' : World), (askRoom m).run P w' = .ok () w' := fun m w' => by
    unfold askRoom; split <;> simp [mark, Sem.run]
   have hnew : ∀ {cap : Nat}, ¬ l.length + l2.length ≤ cap → (∃ base, v = .slice base l.length cap) →
     ∃ u w', (Builtin.append_ #[t, t'] ty #[v, v2]).run P w = .ok u w' ∧ ∃ C', C' w' ∧ appdC i (l ++ l2) w0 M rs u C' := by
    rintro cap hroom ⟨base, hv⟩
    have hcap := nextslicecap_le (l.length + l2.length) cap (by omega)
    have hbig : ¬ (2 ^ 48 < (Builtin.nextslicecap (l.length + l2.length) cap) * inf.bytes) := by
     have : (Builtin.nextslicecap (l.length + l2.length) cap) * inf.bytes ≤ (2 * (l.length + l2.length) + 1000) * 120 := Nat.mul_le_mul hcap (by omega)
     omega
    have h63 : ¬ (9223372036854775807 < (l.length : Int) + l2.length ∧ inf.bytes = 0) := by omega
    generalize hncq : (Question.appendCap (l.length + l2.length) cap el).cut (w.tape w.drawn (Question.appendCap (l.length + l2.length) cap el)) = nc
    have hnc : l.length + l2.length ≤ nc := by rw [← hncq]; simp [Question.cut]
    have hnb : nc ≤ 9223372036854775807 := by
     rw [← hncq]; simp only [Question.cut]
     have := Nat.mod_lt (w.tape w.drawn (Question.appendCap (l.length + l2.length) cap el)) (show 0 < 2 ^ 63 - (l.length + l2.length) by omega)
     omega
    have ha1 : (Builtin.firstCells (Rp.n α) l.length v).run P w.drew = .ok (encs l).toArray w.drew := firstCells_rd (SlRep.st (SlOwn.rd hown) (fun b _ => rfl))
    have ha2 : (Builtin.firstCells (Rp.n α) l2.length v2).run P w.drew = .ok (encs l2).toArray w.drew := firstCells_rd (SlRep.st hrd2 (fun b _ => rfl))
    have hpost : (encs l).toArray ++ ((encs l2).toArray ++ Builtin.zeroCells z.cells (nc - (l.length + l2.length))) = (encs (l ++ l2) ++ (Builtin.zeroCells z.cells (nc - (l.length + l2.length))).toList).toArray := by
     rw [encs_append]; simp
    refine ⟨.slice (some ⟨w.heap.size, 0, none⟩) (l.length + l2.length) nc, w.drew.alloc (.cells (encs (l ++ l2) ++ (Builtin.zeroCells z.cells (nc - (l.length + l2.length))).toList).toArray el), ?_, _, ?_, fun k => k = w.heap.size, rfl, ?_⟩
    ·subst hv
     unfold Builtin.append_
     simp [run_underlying hu, run_underlying hu', hsz, hlen2, hroom, hti, hbig, h63, Question.forced, ha1, ha2, hncq, hroom1, hzv, newRow, newObj, Sem.run, hpost]
    ·have hext : Ext w (w.drew.alloc (.cells (encs (l ++ l2) ++ (Builtin.zeroCells z.cells (nc - (l.length + l2.length))).toList).toArray el)) := (Ext.drew w).trans (ext_alloc w.drew _)
     refine hw.set hr (hext.kp _) ?_ (fun b hb => ?_)
     ·have hblk := alloc_at w.drew (.cells (encs (l ++ l2) ++ (Builtin.zeroCells z.cells (nc - (l.length + l2.length))).toList).toArray el)
      have := slOwn_block (S := fun k => k = w.heap.size) (pre := []) (off := 0) (cap := nc) (l := l ++ l2) (b := w.heap.size) (T := el) (post := (Builtin.zeroCells z.cells (nc - (l.length + l2.length))).toList) (w := w.drew.alloc (.cells (encs (l ++ l2) ++ (Builtin.zeroCells z.cells (nc - (l.length + l2.length))).toList).toArray el)) rfl (by rw [List.nil_append]; exact hblk) rfl (by rw [hns]; exact hnc) (by
       have hzl : (Builtin.zeroCells z.cells (nc - (l.length + l2.length))).toList.length = (nc - (l.length + l2.length)) * Rp.n α := by
        rw [Array.length_toList, zeroCells_size, hz]
       rw [List.length_append, List.length_append, encs_length, hzl, hns, List.length_nil, Nat.zero_add, Nat.zero_add, ← Nat.add_mul]
       exact Nat.mul_le_mul_right _ (by omega))
      rw [hns] at this; exact this
     ·subst hb
      refine ⟨.inr (Nat.le_refl _), ?_⟩
      rw [alloc_size]; exact Nat.lt_succ_self _
    ·exact ⟨by rw [hns]; exact ⟨_, _, rfl, fun h => by cases h⟩, Cap63.mk hnb⟩
   rcases slOwn_open hown with ⟨rfl, rfl⟩ | ⟨b, off, cap, T, pre, post, h1, rfl, h3, h4, h5, h6⟩
   ·by_cases h0 : l2.length = 0
    ·have : l2 = [] := List.eq_nil_of_length_eq_zero h0
     subst this
     refine ⟨.slice none 0 0, w, ?_, _, ?_, S, rfl, ⟨none, 0, rfl, fun _ => rfl⟩, hcv⟩
     ·unfold Builtin.append_
      have hfc := firstCells_rd (P := P) hrd2
      simp only [List.length_nil] at hfc hlen2
      simp [run_underlying hu, run_underlying hu', hsz, hlen2, hfc]
     ·exact hw.set hr (Kp.refl _ _) hown (fun b hb => ⟨.inl hb, hmono b hb⟩)
    ·exact hnew (cap := 0) (by simp only [List.length_nil]; omega) ⟨none, rfl⟩
   ·by_cases hroom : l.length + l2.length ≤ cap
    ·have hfc := firstCells_rd (P := P) hrd2
     have hmul : (l.length + l2.length) * Rp.n α ≤ cap * Rp.n α := Nat.mul_le_mul_right _ hroom
     have hsplit : post = post.take (l2.length * Rp.n α) ++ post.drop (l2.length * Rp.n α) := (List.take_append_drop _ _).symm
     have hplen : (encs l2).length ≤ post.length := by
      rw [encs_length]
      simp only [List.length_append, encs_length] at h6
      rw [Nat.add_mul] at hmul; omega
     obtain ⟨w', g5, g6, g7, g8⟩ := run_storeCells (P := P) (off0 := off + l.length * Rp.n α) (encs l2) (pre ++ encs l ++ post) 0 w h5 (by
      simp only [List.length_append, encs_length] at hplen ⊢; rw [h4]; omega) (isLeaf_encs Leafy.all l2)
     rw [Nat.add_zero, show off + l.length * Rp.n α = (pre ++ encs l).length by rw [List.length_append, encs_length, h4], over_spec _ _ _ hplen] at g7
     refine ⟨.slice (some ⟨b, off, none⟩) (l.length + l2.length) cap, w', ?_, _, ?_, S, rfl, ?_⟩
     ·unfold Builtin.append_
      simp [run_underlying hu, run_underlying hu', hsz, hlen2, hroom, hfc, add_off, g5]
     ·refine hw.set hr (g6.mono (fun k _ hk => by subst hk; exact h1)) ?_ (fun b hb => ⟨.inl hb, by rw [g8]; exact hmono b hb⟩)
      have := slOwn_block (S := S) (pre := pre) (off := off) (cap := cap) (l := l ++ l2) (b := b) (w := w') (T := T) (post := post.drop (encs l2).length) h1 (by
       rw [g7, encs_append]; simp [List.append_assoc]) h4 (by rw [hns]; exact hroom) (by
       simp only [List.length_append, encs_length, List.length_drop] at h6 hplen ⊢
       rw [Nat.add_mul]; omega)
      rw [hns] at this; exact this
     ·exact ⟨by rw [hns]; exact ⟨_, _, rfl, fun h => by cases h⟩, Cap63.mk (hcv _ _ _ rfl)⟩
    ·exact hnew hroom ⟨_, rfl⟩
  obtain ⟨u, w', h1, h3⟩ := hres
  refine ⟨u, w', .inl ?_, h3⟩
  simp [execOp, resolve, invoke, builtin, ha.eval hx, ha.eval hy, h1]
end

theorem setCells_kp (b : Nat) : ∀ (vs : List Value) (o : Nat) (w : World), Kp (fun k => k = b) w (w.setCells b o vs)
  | [], _, w => Kp.refl _ w
  | v :: r, o, w => setCell_kp.trans (setCells_kp b r (o + 1) _)
theorem setCells_size (b : Nat) : ∀ (vs : List Value) (o : Nat) (w : World), (w.setCells b o vs).heap.size = w.heap.size
  | [], _, _ => rfl
  | v :: r, o, w => by rw [World.setCells, setCells_size b r]; exact setCell_size
theorem setCells_at {b : Nat} {T : TypeId} : ∀ (vs cs : List Value) (o : Nat) (w : World), w.heap[b]? = some (.cells cs.toArray T (0, 0)) → (w.setCells b o vs).heap[b]? = some (.cells (over cs o vs).toArray T (0, 0))
  | [], _, _, _, h => h
  | v :: r, cs, o, w, h => setCells_at r (cs.set o v) (o + 1) _ (setCell_at h)
theorem over_at {pre rest vs : List Value} {o : Nat} (h : vs.length ≤ rest.length) (ho : pre.length = o) : over (pre ++ rest) o vs = pre ++ vs ++ rest.drop vs.length := by subst ho; exact over_spec vs pre rest h
theorem over_shift {A B V post : List Value} {o : Nat} (ho : A.length = o) (hp : V.length ≤ post.length) : ∃ post', over (over (A ++ (B ++ post)) (o + V.length) B) o V = A ++ V ++ B ++ post' ∧ post'.length + V.length = post.length := by
 have h1 : A ++ (B ++ post) = (A ++ (B ++ post).take V.length) ++ (B ++ post).drop V.length := by rw [List.append_assoc, List.take_append_drop]
 have hl : (A ++ (B ++ post).take V.length).length = o + V.length := by
  rw [List.length_append, List.length_take, List.length_append, ho]; omega
 have h2 : over (A ++ (B ++ post)) (o + V.length) B = A ++ ((B ++ post).take V.length ++ (B ++ ((B ++ post).drop V.length).drop B.length)) := by
  rw [h1, over_at (by rw [List.length_drop, List.length_append]; omega) hl]; simp only [List.append_assoc]
 refine ⟨((B ++ post).drop V.length).drop B.length, ?_, ?_⟩
 ·rw [h2, over_at (by rw [List.length_append, List.length_take, List.length_append]; omega) ho]
  have h3 : ((B ++ post).take V.length).length = V.length := by rw [List.length_take, List.length_append]; omega
  rw [List.drop_append_of_le_length (by omega), List.drop_eq_nil_of_le (by omega), List.nil_append]; simp only [List.append_assoc]
 ·rw [List.length_drop, List.length_drop, List.length_append]; omega
theorem grownCap_le {w : World} {n c : Nat} {T : TypeId} : n ≤ grownCap w n c T := by simp [grownCap, Question.cut]

section
variable {w w' : World} {M S : Nat → Prop} {b off cap : Nat} {T : TypeId} {pre post : List Value} {l : List Int}
theorem ins_in (hS : S b) (hM : ∀ k, S k → M k ∧ k < w.heap.size) (hk : Kp (fun k => k = b) w w') (hb : w'.heap[b]? = some (.cells (pre ++ encs l ++ post).toArray T (0, 0))) (ho : pre.length = off) (hc : l.length ≤ cap) (hp : off + cap ≤ (pre ++ encs l ++ post).length) :
  Sep w M [R.sl S (.slice (some ⟨b, off, none⟩) l.length cap) l] w' :=
 ⟨hk.mono fun k _ hkb => by subst hkb; exact (hM _ hS).1, fun r hr => by
  rw [List.mem_singleton.1 hr]; exact slOwn_block hS hb ho hc (by rw [show Rp.n Int = 1 from rfl, Nat.mul_one]; exact hp), fun r hr k hk' => by
  rw [List.mem_singleton.1 hr] at hk'; exact ⟨.inl (hM k hk').1, Nat.lt_of_lt_of_le (hM k hk').2 hk.size⟩, List.pairwise_singleton _ _⟩
theorem ins_new (hk : Kp (fun k => k = w.heap.size) w w') (hsz : w.heap.size < w'.heap.size) (hb : w'.heap[w.heap.size]? = some (.cells (encs l ++ post).toArray T (0, 0))) (hc : l.length ≤ cap) (hp : cap ≤ (encs l ++ post).length) :
  Sep w M [R.sl (fun k => k = w.heap.size) (.slice (some ⟨w.heap.size, 0, none⟩) l.length cap) l] w' :=
 ⟨⟨hk.os, hk.tape, hk.output, hk.size, hk.drawn, fun k hk1 _ => hk.block k hk1 (by omega)⟩, fun r hr => by
  rw [List.mem_singleton.1 hr]
  exact slOwn_block (pre := []) (S := fun k => k = w.heap.size) rfl hb rfl hc (by rw [show Rp.n Int = 1 from rfl, Nat.mul_one, Nat.zero_add]; exact hp), fun r hr k hk' => by
  rw [List.mem_singleton.1 hr] at hk'; have : k = w.heap.size := hk'; subst this; exact ⟨.inr (Nat.le_refl _), hsz⟩, List.pairwise_singleton _ _⟩
end
theorem encs_take (l : List Int) (i : Nat) : encs (l.take i) = (encs l).take i := by rw [encs_int, encs_int, List.map_take]
theorem encs_drop (l : List Int) (i : Nat) : encs (l.drop i) = (encs l).drop i := by rw [encs_int, encs_int, List.map_drop]
theorem encs_len1 (l : List Int) : (encs l).length = l.length := by rw [encs_int, List.length_map]
theorem encs_one {l : List Int} : ∀ v ∈ encs l, v.oneCell' = true := fun v hv => by
 rw [encs_int] at hv; obtain ⟨x, _, rfl⟩ := List.mem_map.1 hv; rfl

open Go.Shelf Go.Proofs in
theorem search_ok {P : Program} {ρ : Ren} (L : Lays2.n25 P ρ) {l : List Int} {x : Int} (hs : l.Pairwise (· ≤ ·)) (hz : l.length < 4611686018427387904) (w : World) {v : Value} (hr : Rd w v l) :
  Calls P (ρ.f 25) ([v, .int .i64 x] : List Value).toArray w fun e w' => e = .returned (.tuple #[.int .i64 (l.countP fun y => decide (y < x) : Nat), .bool (l.contains x)]) ∧ Ext w w' := by
 have hd : ∀ q, Ext w (w.drewN q) := fun q => ⟨rfl, rfl, rfl, Nat.le_refl _, Nat.le_add_right _ _, fun _ _ => rfl⟩
 have hr0 : SlRep w (fun _ => True) v l := hr
 rcases hr0 with ⟨rfl, rfl⟩ | ⟨a, rfl, rfl⟩ | ⟨b, off, cap, C, T, fr, h1, rfl, h3, h4, h5, h6⟩
 ·exact (Any.slices_BinarySearch_int_empty L none 0 x w).mono fun e w' ⟨h1, h2⟩ => ⟨h1, h2 ▸ Ext.refl w⟩
 ·exact (Any.slices_BinarySearch_int_empty L (some a) 0 x w).mono fun e w' ⟨h1, h2⟩ => ⟨h1, h2 ▸ Ext.refl w⟩
 ·refine (Any.slices_BinarySearch_int L b off l.length cap l x w (Nat.le_refl _) hz (fun j hj => ?_) (by rw [List.take_length]; exact hs)).mono fun e w' ⟨h7, q, h8⟩ => ⟨?_, h8 ▸ hd q⟩
  ·have hx := h6 j l[j] (List.getElem?_eq_getElem hj)
   rw [Flat.rep_iff] at hx
   have hc := congrArg (fun z : List Value => z[0]?) hx
   simp only [part, Nat.mul_one, show Rp.n Int = 1 from rfl] at hc
   rw [List.getElem?_take_of_lt (by decide), List.getElem?_drop, Nat.add_zero, Array.getElem?_toList] at hc
   rw [cell_of_block h4 (v := .int .i64 l[j]) hc, List.getD_eq_getElem?_getD, List.getElem?_eq_getElem hj]; rfl
  ·rw [h7, List.take_length]

open Go.Shelf Go.Proofs in
theorem insert_ok {P : Program} {ρ : Ren} (L : Lays2.n21 P ρ) {a0 a2 r0 : List Int} {a1 : Int}
  (h : (if 0 ≤ a1 ∧ a1 ≤ (a0.length : Int) ∧ 0 < a2.length ∧ (a0 ++ a2).length < 1099511627776 then some (a0.take a1.toNat ++ a2 ++ a0.drop a1.toNat) else none) = some r0) (w : World) {v v2 : Value} {S S2 : Nat → Prop}
  (hc : Cap63 v) (hw : Sep w (footM [R.sl S v a0, R.sl S2 v2 a2]) [R.sl S v a0, R.sl S2 v2 a2] w) :
  Calls P (ρ.f 21) ([v, .int .i64 a1, v2] : List Value).toArray w (PostM (footM [R.sl S v a0, R.sl S2 v2 a2]) (fun u ns => ∃ (Sr0 : Nat → Prop), SlLen u r0.length ∧ ns = [R.sl Sr0 u r0]) w) := by
 split at h
 rotate_left 1
 ·cases h
 rename_i hh
 obtain ⟨h0, h1, hm, hsz⟩ := hh
 cases h
 obtain ⟨i, rfl⟩ := Int.eq_ofNat_of_zero_le h0
 have hi : i ≤ a0.length := by omega
 rw [Int.toNat_natCast]
 rw [List.length_append] at hsz
 have hrl : (a0.take i ++ a2 ++ a0.drop i).length = a0.length + a2.length := by
  simp only [List.length_append, List.length_take, List.length_drop]; omega
 have hre : encs (a0.take i ++ a2 ++ a0.drop i) = (encs a0).take i ++ encs a2 ++ (encs a0).drop i := by rw [encs_append, encs_append, encs_take, encs_drop]
 have hap := List.pairwise_cons.1 hw.apart
 have hft : ∀ k, S k → footM [R.sl S v a0, R.sl S2 v2 a2] k ∧ k < w.heap.size := fun k hk => ⟨⟨_, List.mem_cons_self .., hk⟩, (hw.foot _ (List.mem_cons_self ..) k hk).2⟩
 rcases slOwn_open (hw.get (i := 1) rfl) with ⟨rfl, rfl⟩ | ⟨vb, voff, vc, T2, pre2, post2, k1, rfl, k3, k4, k5, k6⟩
 ·cases hm
 have hvs : ∀ j u, (encs a2)[j]? = some u → w.cell? ⟨vb, voff + j, none⟩ = some u := fun j u hj => by
  refine cell_of_block k5 ?_
  have hj' := (List.getElem?_eq_some_iff.1 hj).1
  rw [List.getElem?_toArray, List.append_assoc, List.getElem?_append_right (by omega), k4, Nat.add_sub_cancel_left, List.getElem?_append_left hj']; exact hj
 have h48 : (a0.length + a2.length) * 8 ≤ 140737488355328 := by omega
 have hz1 : ∀ n : Nat, (Builtin.zeroCells (Value.int .i64 0).cells n).toList.length = n := fun n => by
  rw [Array.length_toList, zeroCells_size]; exact Nat.mul_one n
 rcases slOwn_open (hw.get (i := 0) rfl) with ⟨rfl, rfl⟩ | ⟨b, off, cap, T, pre, post, g1, rfl, g3, g4, g5, g6⟩
 ·have hi0 : i = 0 := by simpa using hi
  subst hi0
  refine (Any2.slices_Insert_int_end_grow L none 0 0 vb voff a2.length vc [] (encs a2) w hm (Nat.le_refl _) (by omega) (by simpa using h48) rfl (encs_len1 a2) (fun _ => rfl) (fun a ha => by cases ha) hvs encs_one).mono fun e w' ⟨h2, h3⟩ => ?_
  have e3 : 0 + a2.length = (([] : List Int).take 0 ++ a2 ++ ([] : List Int).drop 0).length := by simp
  have hg : 0 + a2.length ≤ grownCap w (0 + a2.length) 0 (ρ.t 3) := grownCap_le
  generalize hq : grownCap w (0 + a2.length) 0 (ρ.t 3) = q at h2 h3 hg
  rw [e3] at h2
  subst h3
  refine ⟨_, _, h2, ⟨fun k => k = w.heap.size, ⟨_, _, rfl, fun h => by cases h⟩, rfl⟩, ?_⟩
  have hC : ((([] : List Value) ++ encs a2).toArray ++ Builtin.zeroCells (Value.int .i64 0).cells (q - (0 + a2.length))) = (encs (([] : List Int).take 0 ++ a2 ++ ([] : List Int).drop 0) ++ (Builtin.zeroCells (Value.int .i64 0).cells (q - (0 + a2.length))).toList).toArray := by simp
  rw [hC]
  refine ins_new (T := ρ.t 3) (post := (Builtin.zeroCells (Value.int .i64 0).cells (q - (0 + a2.length))).toList) (((Ext.drew w).trans (ext_alloc _ _)).kp _) ?_ (alloc_at w.drew _) (by rw [← e3]; exact hg) ?_
  ·rw [alloc_size]; exact Nat.lt_succ_self _
  ·rw [List.length_append, encs_len1, ← e3, hz1]; omega
 ·have hcc : cap ≤ 9223372036854775807 := hc _ _ _ rfl
  have hne : vb ≠ b := fun e => hap.1 _ (List.mem_cons_self ..) b g1 (by subst e; exact k1)
  have g6' : off + cap ≤ pre.length + a0.length + post.length := by
   have := g6
   rw [List.length_append, List.length_append, encs_len1, show Rp.n Int = 1 from rfl, Nat.mul_one] at this; exact this
  have hcs : ∀ j u, (encs a0)[j]? = some u → w.cell? ⟨b, off + j, none⟩ = some u := fun j u hj => by
   refine cell_of_block g5 ?_
   have hj' := (List.getElem?_eq_some_iff.1 hj).1
   rw [List.getElem?_toArray, List.append_assoc, List.getElem?_append_right (by omega), g4, Nat.add_sub_cancel_left, List.getElem?_append_left hj']; exact hj
  have hsp : ∀ j, j < cap → (w.cell? ⟨b, off + j, none⟩).isSome = true := fun j hj => by
   have hlt : off + j < (pre ++ encs a0 ++ post).length := by
    rw [List.length_append, List.length_append, encs_len1]; omega
   rw [cell_of_block g5 (v := (pre ++ encs a0 ++ post)[off + j]) (by rw [List.getElem?_toArray]; exact List.getElem?_eq_getElem hlt)]; rfl
  have hfz : ∀ j, w.frozen? ⟨b, j, none⟩ = false := fun j => by simp [World.frozen?, g5]
  have hfz2 : ∀ j, w.frozen? ⟨vb, j, none⟩ = false := fun j => by simp [World.frozen?, k5]
  have hAl : ((encs a0).take i).length = i := by rw [List.length_take, encs_len1]; omega
  have hBl : ((encs a0).drop i).length = a0.length - i := by rw [List.length_drop, encs_len1]
  have hV := encs_len1 a2
  have hA0 : (encs a0).take a0.length = encs a0 := List.take_of_length_le (by rw [encs_len1]; exact Nat.le_refl _)
  have hB0 : (encs a0).drop a0.length = [] := List.drop_eq_nil_of_le (by rw [encs_len1]; exact Nat.le_refl _)
  by_cases hroom : a0.length + a2.length ≤ cap
  ·have hpl : a2.length ≤ post.length := by omega
   by_cases hin : i = a0.length
   ·subst hin
    refine (Any2.slices_Insert_int_end_room L b off a0.length cap vb voff a2.length vc (encs a2) w hm hroom hcc hV (fun j hj => by rw [Nat.add_assoc]; exact hsp _ (by omega)) (fun j _ => hfz _) hvs encs_one).mono fun e w' ⟨h2, h3⟩ => ?_
    rw [← hrl] at h2
    subst h3
    refine ⟨_, _, h2, ⟨S, ⟨_, _, rfl, fun h => by cases h⟩, rfl⟩, ?_⟩
    have hk := setCells_at (encs a2) _ (off + a0.length) w g5
    rw [over_at (pre := pre ++ encs a0) (rest := post) (by rw [hV]; exact hpl) (by rw [List.length_append, encs_len1, g4])] at hk
    refine ins_in (pre := pre) (post := post.drop (encs a2).length) (T := T) g1 hft (setCells_kp _ _ _ _) ?_ g4 (by rw [hrl]; exact hroom) ?_
    ·rw [hk, hre, hA0, hB0]
     simp only [List.append_assoc, List.append_nil, List.nil_append]
    ·rw [List.length_append, List.length_append, encs_len1, hrl, List.length_drop, hV]; omega
   ·refine (Any2.slices_Insert_int_shift L b off a0.length cap i vb voff a2.length vc (encs a0) (encs a2) w (by omega) hm hroom hcc hne (encs_len1 a0) hV hcs (fun j hj => hsp j (by omega)) (fun j _ => hfz _) hvs encs_one encs_one
     T2 T (pre2 ++ encs a2 ++ post2).toArray.size (pre ++ encs a0 ++ post).toArray.size (by unfold World.shape?; rw [k5]) (by unfold World.shape?; rw [g5]) ?_ (hfz2 _) (hfz2 _)).mono fun e w' ⟨h2, h3⟩ => ?_
    ·rw [List.size_toArray, List.length_append, List.length_append, encs_len1]; omega
    rw [← hrl] at h2
    subst h3
    refine ⟨_, _, h2, ⟨S, ⟨_, _, rfl, fun h => by cases h⟩, rfl⟩, ?_⟩
    have hk := setCells_at (encs a2) _ (off + i) _ (setCells_at ((encs a0).drop i) _ (off + (i + a2.length)) w.drew g5)
    obtain ⟨post', p1, p2⟩ := over_shift (A := pre ++ (encs a0).take i) (B := (encs a0).drop i) (V := encs a2) (post := post) (o := off + i) (by rw [List.length_append, g4, hAl]) (by rw [hV]; exact hpl)
    have e5 : pre ++ encs a0 ++ post = (pre ++ (encs a0).take i) ++ ((encs a0).drop i ++ post) := by
     rw [List.append_assoc pre ((encs a0).take i), ← List.append_assoc ((encs a0).take i), List.take_append_drop, List.append_assoc]
    rw [e5, show off + (i + a2.length) = off + i + (encs a2).length by rw [hV]; omega, p1] at hk
    refine ins_in (pre := pre) (post := post') (T := T) g1 hft ((((Ext.drew w).kp _).trans (setCells_kp _ _ _ _)).trans (setCells_kp _ _ _ _)) ?_ g4 (by rw [hrl]; exact hroom) ?_
    ·rw [show off + (i + a2.length) = off + i + (encs a2).length by rw [hV]; omega, hk, hre]
     simp only [List.append_assoc]
    ·rw [hV] at p2; rw [List.length_append, List.length_append, encs_len1, hrl]; omega
  ·by_cases hin : i = a0.length
   ·subst hin
    refine (Any2.slices_Insert_int_end_grow L (some ⟨b, off, none⟩) a0.length cap vb voff a2.length vc (encs a0) (encs a2) w hm g3 (by omega) h48 (encs_len1 a0) hV (fun h => by cases h) (fun a ha j u hj => by cases ha; rw [add_off]; exact hcs j u hj) hvs encs_one).mono fun e w' ⟨h2, h3⟩ => ?_
    have hg : a0.length + a2.length ≤ grownCap w (a0.length + a2.length) cap (ρ.t 3) := grownCap_le
    generalize hq : grownCap w (a0.length + a2.length) cap (ρ.t 3) = q at h2 h3 hg
    rw [← hrl] at h2
    subst h3
    refine ⟨_, _, h2, ⟨fun k => k = w.heap.size, ⟨_, _, rfl, fun h => by cases h⟩, rfl⟩, ?_⟩
    have hC : ((encs a0 ++ encs a2).toArray ++ Builtin.zeroCells (Value.int .i64 0).cells (q - (a0.length + a2.length))) = (encs (a0.take a0.length ++ a2 ++ a0.drop a0.length) ++ (Builtin.zeroCells (Value.int .i64 0).cells (q - (a0.length + a2.length))).toList).toArray := by
     rw [hre, hA0, hB0]; simp
    rw [hC]
    refine ins_new (T := ρ.t 3) (post := (Builtin.zeroCells (Value.int .i64 0).cells (q - (a0.length + a2.length))).toList) (((Ext.drew w).trans (ext_alloc _ _)).kp _) ?_ (alloc_at w.drew _) (by rw [hrl]; exact hg) ?_
    ·rw [alloc_size]; exact Nat.lt_succ_self _
    ·rw [List.length_append, encs_len1, hrl, hz1]; omega
   ·refine (Any2.slices_Insert_int_grow L b off a0.length cap i vb voff a2.length vc (encs a0) (encs a2) w (by omega) hm g3 (by omega) h48 (encs_len1 a0) hV hcs hvs encs_one encs_one).mono fun e w' ⟨h2, h3⟩ => ?_
    have hg : a0.length + a2.length ≤ grownCap w (a0.length + a2.length) cap (ρ.t 3) := grownCap_le
    generalize hq : grownCap w (a0.length + a2.length) cap (ρ.t 3) = q at h2 h3 hg
    rw [← hrl] at h2
    subst h3
    refine ⟨_, _, h2, ⟨fun k => k = w.heap.size, ⟨_, _, rfl, fun h => by cases h⟩, rfl⟩, ?_⟩
    have hZ1 := hz1 (a0.length + a2.length - i)
    have hZ2 := hz1 (q - (a0.length + a2.length))
    generalize hA1 : Builtin.zeroCells (Value.int .i64 0).cells (a0.length + a2.length - i) = Z1 at hZ1
    generalize hA2 : Builtin.zeroCells (Value.int .i64 0).cells (q - (a0.length + a2.length)) = Z2 at hZ2
    have hC : (((encs a0).take i).toArray ++ Z1 ++ Z2) = ((encs a0).take i ++ (Z1.toList ++ Z2.toList)).toArray := by simp
    rw [hC]
    have hb0 := alloc_at w (.cells ((encs a0).take i ++ (Z1.toList ++ Z2.toList)).toArray (ρ.t 3))
    have hsz0 := alloc_size w (.cells ((encs a0).take i ++ (Z1.toList ++ Z2.toList)).toArray (ρ.t 3))
    have hex := ext_alloc w (.cells ((encs a0).take i ++ (Z1.toList ++ Z2.toList)).toArray (ρ.t 3))
    generalize w.alloc (.cells ((encs a0).take i ++ (Z1.toList ++ Z2.toList)).toArray (ρ.t 3)) = wa at hb0 hsz0 hex ⊢
    have hk := setCells_at ((encs a0).drop i) _ (i + a2.length) (wa.drew.setCells w.heap.size i (encs a2)).drew (setCells_at (encs a2) _ i wa.drew hb0)
    rw [over_at (pre := (encs a0).take i) (rest := Z1.toList ++ Z2.toList) (by rw [hV, List.length_append, hZ1]; omega) hAl] at hk
    rw [over_at (pre := (encs a0).take i ++ encs a2) (rest := (Z1.toList ++ Z2.toList).drop (encs a2).length) (by rw [hBl, List.length_drop, List.length_append, hZ1, hV]; omega) (by rw [List.length_append, hAl, hV])] at hk
    refine ins_new (T := ρ.t 3) (post := ((Z1.toList ++ Z2.toList).drop (encs a2).length).drop ((encs a0).drop i).length) (((((hex.kp _).trans ((Ext.drew _).kp _)).trans (setCells_kp _ _ _ _)).trans ((Ext.drew _).kp _)).trans (setCells_kp _ _ _ _)) ?_ ?_ (by rw [hrl]; exact hg) ?_
    ·rw [setCells_size]
     show w.heap.size < (wa.drew.setCells w.heap.size i (encs a2)).heap.size
     rw [setCells_size]
     show w.heap.size < wa.heap.size
     rw [hsz0]; exact Nat.lt_succ_self _
    ·rw [hk, hre]
    ·rw [List.length_append, encs_len1, hrl, List.length_drop, List.length_drop, List.length_append, hBl, hV, hZ1, hZ2]; omega
end Go.Ga

namespace Go.Ga
open Go
open Go.Ga.Rp (rep own)
open Go.Ga.Flat (enc)

class Wf (α : Type) where
 wfd : α → Prop
open Go.Ga.Wf (wfd)
instance : Wf Int := ⟨fun x => -9223372036854775808 ≤ x ∧ x ≤ 9223372036854775807⟩
instance : Wf Bool := ⟨fun _ => True⟩
instance : Wf ByteArray := ⟨fun s => s.size ≤ maxLen⟩
instance {α : Type} [Wf α] : Wf (List α) := ⟨fun l => l.length ≤ maxLen ∧ ∀ x ∈ l, wfd x⟩
instance {α β : Type} [Wf α] [Wf β] : Wf (α × β) := ⟨fun x => wfd x.1 ∧ wfd x.2⟩

def Opn (P : Program) (t : TypeId) (α : Type) [Rp α] [Wf α] : Prop :=
 ∀ {H : Type} (enc : TypeId × Value → H) (w : World) (base : Nat) (spare : Nat → Bool) (held : Bool) (fuel : Nat) (cs : List Value) (y : DataW H × List MemPlace), (∀ b, spare b = true) →
  DataW.trod enc P w base spare held fuel t cs = some y → ∃ x : α, rep w (fun _ => True) cs x ∧ wfd x

section
variable {P : Program} {t : TypeId}
theorem lit_wf {n : Int} (h : (Lit.int .i64 n).wf = true) : -9223372036854775808 ≤ n ∧ n ≤ 9223372036854775807 := by
 simp only [Lit.wf, IntKind.min, IntKind.max, IntKind.signed, IntKind.bits, Bool.and_eq_true, decide_eq_true_eq, if_true] at h
 omega
theorem opn_int (ht : P.underlying t = some (.int .i64)) : Opn P t Int := fun enc w base spare held fuel cs y _ h => by
 obtain ⟨n, rfl, _, hw⟩ := DataW.trod_int ht h
 exact ⟨n, rfl, lit_wf hw⟩
theorem cells_block {w : World} {a : Addr} {base n : Nat} {cs : List Value} (hn : 0 < n) (h : w.cells? base a n = some cs) :
  ∃ C T fr, w.heap[a.block]? = some (.cells C T fr) ∧ a.spot = none ∧ part C a.off n = cs ∧ a.off + n ≤ C.size := by
 obtain ⟨_, hl, hc⟩ := World.cells?_some h
 have h0 := hc 0 hn
 rw [List.getElem?_eq_getElem (by omega)] at h0
 have hz : a.add 0 = a := by simp [Addr.add]
 rw [hz] at h0
 have hsp := World.cell?_spot h0
 obtain ⟨b, off, sp⟩ := a
 simp only at hsp; subst hsp
 unfold World.cell? at h0
 split at h0
 ·rename_i C T fr hb
  have key : ∀ i, i < n → C[off + i]? = cs[i]? := fun i hi => by
   have := hc i hi
   rw [add_off] at this
   simpa [World.cell?, hb] using this
  have hsz : off + n ≤ C.size := by
   have h1 := key (n - 1) (by omega)
   rw [List.getElem?_eq_getElem (by omega)] at h1
   have := (Array.getElem?_eq_some_iff.1 h1).1
   omega
  refine ⟨C, T, fr, hb, rfl, ?_, hsz⟩
  refine List.ext_getElem? fun j => ?_
  simp only [part, List.getElem?_take, List.getElem?_drop]
  split
  ·rename_i hj; rw [Array.getElem?_toList]; exact key j hj
  ·rename_i hj; rw [List.getElem?_eq_none (by omega)]
 ·cases h0

theorem opn_slice {e : TypeId} {α : Type} [Rp α] [Wf α] (ht : P.underlying t = some (.slice e)) (hc : P.cellsOf e = Rp.n α) (hpos : 0 < Rp.n α) (he : Opn P e α) : Opn P t (List α) := fun enc w base spare held fuel cs y hsp h => by
  rcases DataW.trod_slice ht h with ⟨rfl, _⟩ | ⟨a, len, cap, elems, rest, n, rfl, rfl, _, hb, hl, hm, hlen, hel, hspare, _⟩
  · exact ⟨[], ⟨_, rfl, .inl ⟨rfl, rfl⟩⟩, Nat.zero_le _, by simp⟩
  · have hex : ∀ i, i < len → ∃ (x : α) (c : List Value), w.cells? base (a.add (i * Rp.n α)) (Rp.n α) = some c ∧ rep w (fun _ => True) c x ∧ wfd x := by
      intro i hi
      have h1 := hel i hi
      rw [List.getElem?_eq_getElem (by omega), Option.bind_eq_some_iff] at h1
      obtain ⟨c, h2, h3⟩ := h1
      obtain ⟨x, h4, h5⟩ := he enc w base spare held n c _ hsp h3
      rw [hc] at h2
      exact ⟨x, c, h2, h4, h5⟩
    by_cases hcap : cap = 0
    · subst hcap
      have : len = 0 := by omega
      subst this
      exact ⟨[], ⟨_, rfl, .inr (.inl ⟨a, rfl, rfl⟩)⟩, Nat.zero_le _, by simp⟩
    · have hcells : ∀ i, i < cap → ∃ c, w.cells? base (a.add (i * Rp.n α)) (Rp.n α) = some c := by
        intro i hi
        by_cases h1 : i < len
        · obtain ⟨_, c, h2, _⟩ := hex i h1; exact ⟨c, h2⟩
        · obtain ⟨h3, h4⟩ := hspare (hsp _)
          have h5 := h4 (i - len) (by omega)
          rw [List.getElem?_eq_getElem (by omega), Option.bind_eq_some_iff] at h5
          obtain ⟨c, h6, _⟩ := h5
          rw [hc, show len + (i - len) = i by omega] at h6
          exact ⟨c, h6⟩
      obtain ⟨c0, hc0⟩ := hcells 0 (by omega)
      rw [Nat.zero_mul] at hc0
      have hz : a.add 0 = a := by simp [Addr.add]
      rw [hz] at hc0
      obtain ⟨C, T, fr, hblk, hspot, _, _⟩ := cells_block hpos hc0
      obtain ⟨b, off, sp⟩ := a
      simp only at hspot; subst hspot
      have hall : ∀ i c, w.cells? base ((⟨b, off, none⟩ : Addr).add (i * Rp.n α)) (Rp.n α) = some c → part C (off + i * Rp.n α) (Rp.n α) = c ∧ off + i * Rp.n α + Rp.n α ≤ C.size := by
        intro i c hi
        rw [add_off] at hi
        obtain ⟨C', T', fr', h1, _, h2, h3⟩ := cells_block hpos hi
        simp only at h1 h2 h3
        simp only at hblk
        rw [hblk] at h1; cases h1
        exact ⟨h2, h3⟩
      obtain ⟨cl, hcl⟩ := hcells (cap - 1) (by omega)
      have hsz := (hall _ _ hcl).2
      have hmul : (cap - 1) * Rp.n α + Rp.n α = cap * Rp.n α := by
        rw [← Nat.succ_mul]; congr 1; omega
      -- the list
      have hchoose : ∃ l : List α, l.length = len ∧ ∀ i x, l[i]? = some x → rep w (fun _ => True) (part C (off + i * Rp.n α) (Rp.n α)) x ∧ wfd x := by
        have : ∀ m, m ≤ len → ∃ l : List α, l.length = m ∧ ∀ i x, l[i]? = some x → rep w (fun _ => True) (part C (off + i * Rp.n α) (Rp.n α)) x ∧ wfd x := by
          intro m
          induction m with
          | zero => intro _; exact ⟨[], rfl, by simp⟩
          | succ m ih =>
            intro hm
            obtain ⟨l, hl1, hl2⟩ := ih (by omega)
            obtain ⟨x, c, h1, h2, h3⟩ := hex m (by omega)
            have h4 := (hall m c h1).1
            refine ⟨l ++ [x], by simp [hl1], fun i z hi => ?_⟩
            rcases Nat.lt_or_ge i m with h | h
            · rw [List.getElem?_append_left (by omega)] at hi; exact hl2 i z hi
            · have : i = m := by have := (List.getElem?_eq_some_iff.1 hi).1; simp [hl1] at this; omega
              subst this
              rw [List.getElem?_append_right (by omega)] at hi
              simp [hl1] at hi; subst hi
              rw [h4]; exact ⟨h2, h3⟩
        exact this len (Nat.le_refl _)
      obtain ⟨l, hl1, hl2⟩ := hchoose
      refine ⟨l, ⟨_, rfl, .inr (.inr ⟨b, off, cap, C, T, fr, trivial, by rw [hl1], by omega, hblk, by omega, fun i x hx => (hl2 i x hx).1⟩)⟩, by omega, fun x hx => ?_⟩
      obtain ⟨i, hi⟩ := List.getElem?_of_mem hx
      exact (hl2 i x hi).2

def OpnFs (P : Program) (fs : List Field) (off N : Nat) (α : Type) [Rp α] [Wf α] : Prop :=
 ∀ {H : Type} (enc : TypeId × Value → H) (w : World) (base : Nat) (spare : Nat → Bool) (held : Bool) (fuel : Nat) (cs : List Value), (∀ b, spare b = true) → cs.length = N →
  (∀ f ∈ fs, ∃ y, DataW.trod enc P w base spare held fuel f.type ((cs.drop f.offset).take (P.cellsOf f.type)) = some y) → ∃ x : α, rep w (fun _ => True) (cs.drop off) x ∧ wfd x
theorem opnFs_one {f : Field} {off N : Nat} {α : Type} [Rp α] [Wf α] (h : Opn P f.type α) (ho : f.offset = off) (hN : off + P.cellsOf f.type = N) : OpnFs P [f] off N α := fun enc w base spare held fuel cs hsp hl hf => by
 obtain ⟨y, hy⟩ := hf f (by simp)
 rw [ho, List.take_of_length_le (by simp; omega)] at hy
 exact h enc w base spare held fuel _ y hsp hy
theorem opnFs_cons {f : Field} {fs : List Field} {off off' N : Nat} {α β : Type} [Rp α] [Wf α] [Rp β] [Wf β] (h : Opn P f.type α) (ho : f.offset = off) (hc : off + P.cellsOf f.type = off') (hr : OpnFs P fs off' N β) : OpnFs P (f :: fs) off N (α × β) :=
 fun enc w base spare held fuel cs hsp hl hf => by
  obtain ⟨y, hy⟩ := hf f (by simp)
  rw [ho] at hy
  obtain ⟨x1, h1, w1⟩ := h enc w base spare held fuel _ y hsp hy
  obtain ⟨x2, h2, w2⟩ := hr enc w base spare held fuel cs hsp hl (fun g hg => hf g (List.mem_cons_of_mem _ hg))
  refine ⟨(x1, x2), ⟨_, _, ?_, h1, h2⟩, w1, w2⟩
  rw [← hc, ← List.drop_drop, List.take_append_drop]
theorem opn_struct {fs : Array Field} {N : Nat} {α : Type} [Rp α] [Wf α] (ht : P.underlying t = some (.struct fs)) (hN : P.cellsOf t = N) (h : OpnFs P fs.toList 0 N α) : Opn P t α := fun enc w base spare held fuel cs y hsp hy => by
 obtain ⟨xs, n, rfl, _, hl, hx, hf⟩ := DataW.trod_struct ht hy
 obtain ⟨x, h1, h2⟩ := h enc w base spare held n cs hsp (by rw [hl, hN]) (fun f hfm => by
  obtain ⟨i, hi⟩ := List.getElem?_of_mem hfm
  have hi' : fs[i]? = some f := by simpa using hi
  have hlt : i < xs.length := by rw [hx]; exact (Array.getElem?_eq_some_iff.1 hi').1
  exact ⟨xs[i], by rw [hf i f hi', List.getElem?_eq_getElem hlt]⟩)
 exact ⟨x, by simpa using h1, h2⟩

def Cv (α β : Type) [Rp α] [Rp β] [Wf α] [Wf β] : Prop := ∃ f : α → β, ∀ w S cs x, rep w S cs x → wfd x → rep w S cs (f x) ∧ wfd (f x)
theorem Cv.trans {α β γ : Type} [Rp α] [Rp β] [Rp γ] [Wf α] [Wf β] [Wf γ] (h : Cv α β) (k : Cv β γ) : Cv α γ := by
 obtain ⟨f, hf⟩ := h; obtain ⟨g, hg⟩ := k
 exact ⟨g ∘ f, fun w S cs x h1 h2 => hg w S cs _ (hf w S cs x h1 h2).1 (hf w S cs x h1 h2).2⟩
theorem Cv.assoc {α β γ : Type} [Rp α] [Rp β] [Rp γ] [Wf α] [Wf β] [Wf γ] : Cv ((α × β) × γ) (α × β × γ) :=
 ⟨fun x => (x.1.1, x.1.2, x.2), fun w S cs x ⟨c1, c3, e1, ⟨c2, c4, e2, h1, h2⟩, h3⟩ ⟨⟨k1, k2⟩, k3⟩ => ⟨⟨c2, c4 ++ c3, by rw [e1, e2, List.append_assoc], h1, c4, c3, rfl, h2, h3⟩, k1, k2, k3⟩⟩
theorem Cv.right {α β γ : Type} [Rp α] [Rp β] [Rp γ] [Wf α] [Wf β] [Wf γ] (h : Cv β γ) : Cv (α × β) (α × γ) := by
 obtain ⟨f, hf⟩ := h
 exact ⟨fun x => (x.1, f x.2), fun w S cs x ⟨c1, c2, e, h1, h2⟩ ⟨k1, k2⟩ => ⟨⟨c1, c2, e, h1, (hf w S c2 _ h2 k2).1⟩, k1, (hf w S c2 _ h2 k2).2⟩⟩
theorem OpnFs.cv {fs : List Field} {off N : Nat} {α β : Type} [Rp α] [Wf α] [Rp β] [Wf β] (h : OpnFs P fs off N α) (k : Cv α β) : OpnFs P fs off N β := fun enc w base spare held fuel cs hsp hl hf => by
 obtain ⟨g, hg⟩ := k
 obtain ⟨x, h1, h2⟩ := h enc w base spare held fuel cs hsp hl hf
 exact ⟨g x, hg _ _ _ _ h1 h2⟩

theorem opn_arr3 {e : TypeId} (ht : P.underlying t = some (.array 3 e)) (hc : P.cellsOf e = 1) (hn : P.cellsOf t = 3) (he : Opn P e Int) : Opn P t (Int × Int × Int) := fun enc w base spare held fuel cs y hsp hy => by
  obtain ⟨xs, m, rfl, _, hl, hx, hf⟩ := DataW.trod_array ht hy
  rw [hn] at hl
  match cs, hl with
  | [a, b, c], _ =>
    have g : ∀ i (hi : i < 3), ∃ x : Int, (([a, b, c].drop (i * 1)).take 1) = [Value.int .i64 x] ∧ wfd x := fun i hi => by
      have h1 := hf i hi
      rw [hc, List.getElem?_eq_getElem (by omega)] at h1
      exact he enc w base spare held m _ _ hsp h1
    obtain ⟨x0, e0, w0⟩ := g 0 (by omega); obtain ⟨x1, e1, w1⟩ := g 1 (by omega); obtain ⟨x2, e2, w2⟩ := g 2 (by omega)
    simp at e0 e1 e2; subst e0; subst e1; subst e2
    exact ⟨(x0, x1, x2), ⟨[_], [_, _], rfl, rfl, [_], [_], rfl, rfl, rfl⟩, w0, w1, w2⟩
end
theorem Ext.below {w w' : World} (h : Ext w w') : RowKit.Below w.heap.size w w' := ⟨h.os, h.tape, h.output, h.size, h.block⟩
end Go.Ga

namespace Go.Ga
open Go
open Go.Ga.Rp (rep own)
open Go.Ga.Flat (enc)
open Go.Ga.Wf (wfd)
structure By where
 v : Int
deriving DecidableEq
instance : Rp By := encRp 1 (fun x => [.int .u8 x.v]) (fun _ => rfl)
instance : Flat By := ⟨fun x => [.int .u8 x.v], Iff.rfl, Iff.rfl⟩
instance : Leafy By := ⟨fun _ => rfl⟩
instance : OwnLeaf By := ⟨fun h => by rw [Flat.own_iff.1 h]; rfl⟩
instance : Wf By := ⟨fun x => 0 ≤ x.v ∧ x.v ≤ 255⟩
section
variable {P : Program} {N : Nat} {e : Env} {C : World → Prop} {d : Option Tmp} {ty : TypeId} {pos : String} {af : Array Edge} {g : Option (Nat × Bool)} {x y : Operand} {t t' el : TypeId}
end
end Go.Ga
namespace Go.Ga
open Go
end Go.Ga
namespace Go.Ga
open Go
end Go.Ga
namespace Go.Ga
open Go
section
variable {P : Program} {N : Nat} {Q : Exit → Act → World → Prop} {e : Env} {C : World → Prop} {ops : Array Oper} {i d : Nat} {o : Oper} {v : Value} {t r : Tre} {fin : List Nat}
end
end Go.Ga

namespace Go.Ga
open Go
open Go.Ga.Rp (rep own)
open Go.Ga.Flat (enc)
open Go.Ga.Wf (wfd)
def Big : Nat := 1125899906842624
theorem w64_id {x : Int} (h : -9223372036854775808 ≤ x) (h' : x ≤ 9223372036854775807) : w64 x = x := by
 unfold w64 IntKind.wrap
 simp [IntKind.bits, IntKind.signed]
 omega
theorem rdl_lt {α : Type} {l : List α} {i : Nat} (h : i < l.length) : rdl l (i : Int) = some l[i] := by simp [rdl, h]

def itr {S : Type} (g : Nat → S → S) : Nat → Nat → S → S
  | 0, _, s => s
  | m + 1, i, s => itr g m (i + 1) (g i s)
theorem loop_state {S β : Type} {l : Nat → S → Int → Option β} {N : Nat} {g : Nat → S → S} {out : S → Option β} (Inv : Nat → S → Prop)
    (hs : ∀ n i s, i < N → Inv i s → l (n + 1) s (i : Int) = l n (g i s) ((i + 1 : Nat) : Int) ∧ Inv (i + 1) (g i s))
    (he : ∀ n s, Inv N s → l (n + 1) s (N : Int) = out s) {k : Nat} (hk : N < k) {s : S} (h0 : Inv 0 s) :
    l k s 0 = out (itr g N 0 s) ∧ Inv N (itr g N 0 s) := by
  have key : ∀ m i k s, i + m = N → m < k → Inv i s → l k s (i : Int) = out (itr g m i s) ∧ Inv N (itr g m i s) := by
    intro m
    induction m with
    | zero =>
      intro i k s hi hk hI
      obtain ⟨n, rfl⟩ : ∃ n, k = n + 1 := ⟨k - 1, by omega⟩
      have : i = N := by omega
      subst this
      exact ⟨he n s hI, hI⟩
    | succ m ih =>
      intro i k s hi hk hI
      obtain ⟨n, rfl⟩ : ∃ n, k = n + 1 := ⟨k - 1, by omega⟩
      obtain ⟨h1, h2⟩ := hs n i s (by omega) hI
      rw [h1]
      exact ih (i + 1) n _ (by omega) (by omega) h2
  have := key N 0 k s (by omega) hk h0
  simpa using this
def itx {S R : Type} (g : Nat → S → S ⊕ R) : Nat → Nat → S → S ⊕ R
  | 0, _, s => .inl s
  | m + 1, i, s => match g i s with | .inl s' => itx g m (i + 1) s' | .inr r => .inr r
theorem loop_exit {S R T : Type} {l : Nat → S → Int → Option (T ⊕ R)} {N : Nat} {g : Nat → S → S ⊕ R} {out : S → Option (T ⊕ R)} (Inv : Nat → S → Prop)
    (hs : ∀ n i s, i < N → Inv i s → (∃ s', g i s = .inl s' ∧ l (n + 1) s (i : Int) = l n s' ((i + 1 : Nat) : Int) ∧ Inv (i + 1) s') ∨ (∃ r, g i s = .inr r ∧ l (n + 1) s (i : Int) = some (.inr r)))
    (he : ∀ n s, Inv N s → l (n + 1) s (N : Int) = out s) {k : Nat} (hk : N < k) {s : S} (h0 : Inv 0 s) :
    l k s 0 = (match itx g N 0 s with | .inl s' => out s' | .inr r => some (.inr r)) := by
  have key : ∀ m i k s, i + m = N → m < k → Inv i s → l k s (i : Int) = (match itx g m i s with | .inl s' => out s' | .inr r => some (.inr r)) := by
    intro m
    induction m with
    | zero =>
      intro i k s hi hk hI
      obtain ⟨n, rfl⟩ : ∃ n, k = n + 1 := ⟨k - 1, by omega⟩
      have : i = N := by omega
      subst this
      exact he n s hI
    | succ m ih =>
      intro i k s hi hk hI
      obtain ⟨n, rfl⟩ : ∃ n, k = n + 1 := ⟨k - 1, by omega⟩
      rcases hs n i s (by omega) hI with ⟨s', h1, h2, h3⟩ | ⟨r, h1, h2⟩
      · rw [h2, ih (i + 1) n _ (by omega) (by omega) h3]; simp [itx, h1]
      · rw [h2]; simp [itx, h1]
  have := key N 0 k s (by omega) hk h0
  simpa using this
theorem loop_all {R : Type} {l : Nat → Int → Option (Unit ⊕ R)} {N : Nat} (ok : Nat → Bool) {z : R}
    (hs : ∀ n (i : Nat), i < N → l (n + 1) (i : Int) = if ok i = true then l n ((i + 1 : Nat) : Int) else some (.inr z))
    (he : ∀ n, l (n + 1) (N : Int) = some (.inl ())) {k : Nat} (hk : N < k) :
    l k 0 = some (if ∀ i, i < N → ok i = true then .inl () else .inr z) := by
  have key : ∀ m i k, i + m = N → m < k → l k (i : Int) = some (if (List.range' i m).all ok = true then .inl () else .inr z) := by
    intro m
    induction m with
    | zero =>
      intro i k hi hk
      obtain ⟨n, rfl⟩ : ∃ n, k = n + 1 := ⟨k - 1, by omega⟩
      have : i = N := by omega
      subst this
      rw [he]; rfl
    | succ m ih =>
      intro i k hi hk
      obtain ⟨n, rfl⟩ : ∃ n, k = n + 1 := ⟨k - 1, by omega⟩
      rw [hs n i (by omega), List.range'_succ, List.all_cons]
      by_cases h : ok i = true
      · rw [if_pos h, ih (i + 1) n (by omega) (by omega), h, Bool.true_and]
      · rw [if_neg h, if_neg (by simp [h])]
  have := key N 0 k (by omega) hk
  rw [show ((0 : Nat) : Int) = 0 from rfl] at this
  rw [this]
  congr 1
  have e : (List.range' 0 N).all ok = true ↔ ∀ i, i < N → ok i = true := by simp [List.all_eq_true, List.mem_range'_1]
  by_cases h : (List.range' 0 N).all ok = true
  · rw [if_pos h, if_pos (e.1 h)]
  · rw [if_neg h, if_neg (fun H => h (e.2 H))]
theorem loop_find {R T : Type} {l : Nat → Int → Option (T ⊕ R)} {N : Nat} (g : Nat → Option R) {z : T ⊕ R}
    (hs : ∀ n (i : Nat), i < N → l (n + 1) (i : Int) = match g i with | none => l n ((i + 1 : Nat) : Int) | some r => some (.inr r))
    (he : ∀ n, l (n + 1) (N : Int) = some z) {k : Nat} (hk : N < k) :
    l k 0 = some (match (List.range N).findSome? g with | none => z | some r => .inr r) := by
  have key : ∀ m i k, i + m = N → m < k → l k (i : Int) = some (match (List.range' i m).findSome? g with | none => z | some r => .inr r) := by
    intro m
    induction m with
    | zero =>
      intro i k hi hk
      obtain ⟨n, rfl⟩ : ∃ n, k = n + 1 := ⟨k - 1, by omega⟩
      have : i = N := by omega
      subst this
      rw [he]; rfl
    | succ m ih =>
      intro i k hi hk
      obtain ⟨n, rfl⟩ : ∃ n, k = n + 1 := ⟨k - 1, by omega⟩
      rw [hs n i (by omega), List.range'_succ, List.findSome?_cons]
      cases h : g i with
      | none => simp only []; exact ih (i + 1) n (by omega) (by omega)
      | some r => simp only []
  have := key N 0 k (by omega) hk
  rw [show ((0 : Nat) : Int) = 0 from rfl] at this
  rw [this, List.range_eq_range']
theorem Lr_ite {X : Type} {R : Type} {c : Prop} [Decidable c] {z : R} {g : R → Option X} {f : Unit → Option X} : Lr (if c then .inl () else .inr z) g f = if c then f () else g z := by split <;> rfl
end Go.Ga

namespace Go.Ga
open Go
def subB (c a : Nat) : Bool := c &&& a == c
end Go.Ga

namespace Go.Ga
open Go Go.Sort
open Go.Ga.Rp (rep own)
open Go.Ga.Flat (enc)
set_option linter.unusedVariables false
set_option linter.unusedSimpArgs false
abbrev Tri3 := Int × Int × Int
def TLt (x y : Tri3) : Prop := x.1 < y.1 ∨ x.1 = y.1 ∧ (x.2.1 < y.2.1 ∨ x.2.1 = y.2.1 ∧ x.2.2 < y.2.2)
instance (x y : Tri3) : Decidable (TLt x y) := by unfold TLt; infer_instance
end Go.Ga
namespace Go.Ga
open Go Go.Sort
open Go.Ga.Rp (rep own)
open Go.Ga.Flat (enc)
end Go.Ga

namespace Go.Ga
open Go Go.Sort
open Go.Ga.Rp (rep own)
open Go.Ga.Flat (enc)
set_option linter.unusedVariables false
set_option linter.unusedSimpArgs false
end Go.Ga

namespace Go.Ga
open Go
open Go.Ga.Rp (rep own)
open Go.Ga.Flat (enc)
section
variable {P : Program} {N : Nat} {e : Env} {C : World → Prop} {d : Option Tmp} {ty : TypeId} {pos : String} {af : Array Edge} {g : Option (Nat × Bool)} {x : Operand} {src dst el : TypeId}
end
end Go.Ga

namespace Go.Ga
open Go
section
variable {P : Program} {ops : Array Oper} {N : Nat} {Q : Exit → Act → World → Prop} {fin : List Nat} {r : List (Nat × Bool)} {e : Env} {C : World → Prop} {i d : Nat} {o : Oper} {v : Value}
end
section
variable {P : Program} {N : Nat} {e : Env} {w0 : World} {M : Nat → Prop} {rs : List Res} {d : Option Tmp} {t el ty src dst : TypeId} {pos : String} {af : Array Edge} {g : Option (Nat × Bool)}
end
end Go.Ga

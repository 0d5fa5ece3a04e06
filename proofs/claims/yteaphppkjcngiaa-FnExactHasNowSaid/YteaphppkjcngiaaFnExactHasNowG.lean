/- A part of the proof of FnExactHasNow: what the functions of the program compute, walked on the model. No condition. -/
import Derived.Test.YteaphppkjcngiaaFnExactHasNowF
/- The words' operations on bits, on small natural numbers. -/
namespace Go.Ga
open Go
theorem wrap_nat {n : Nat} (h : n < 9223372036854775808) : IntKind.i64.wrap (n : Int) = n := w64_id (by omega) (by omega)
theorem ofInt_nat (n : Nat) : BitVec.ofInt 64 (n : Int) = BitVec.ofNat 64 n := by simp
theorem band_nat {a b : Nat} (ha : a < 9223372036854775808) (hb : b < 9223372036854775808) : band (a : Int) (b : Int) = ((a &&& b : Nat) : Int) := by
  unfold band
  rw [ofInt_nat, ofInt_nat, BitVec.toNat_and, BitVec.toNat_ofNat, BitVec.toNat_ofNat, Nat.mod_eq_of_lt (by omega), Nat.mod_eq_of_lt (by omega)]
  exact wrap_nat (Nat.lt_of_le_of_lt Nat.and_le_left ha)
theorem bor_nat {a b : Nat} (ha : a < 9223372036854775808) (hb : b < 9223372036854775808) : bor (a : Int) (b : Int) = ((a ||| b : Nat) : Int) := by
  unfold bor
  rw [ofInt_nat, ofInt_nat, BitVec.toNat_or, BitVec.toNat_ofNat, BitVec.toNat_ofNat, Nat.mod_eq_of_lt (by omega), Nat.mod_eq_of_lt (by omega)]
  exact wrap_nat (Nat.or_lt_two_pow (n := 63) ha hb)
theorem bxor_nat {a b : Nat} (ha : a < 9223372036854775808) (hb : b < 9223372036854775808) : bxor (a : Int) (b : Int) = ((a ^^^ b : Nat) : Int) := by
  unfold bxor
  rw [ofInt_nat, ofInt_nat, BitVec.toNat_xor, BitVec.toNat_ofNat, BitVec.toNat_ofNat, Nat.mod_eq_of_lt (by omega), Nat.mod_eq_of_lt (by omega)]
  exact wrap_nat (Nat.xor_lt_two_pow (n := 63) ha hb)
theorem bclr_nat {a b : Nat} (ha : a < 9223372036854775808) : bclr (a : Int) (b : Int) = ((a ^^^ (a &&& b) : Nat) : Int) := by
  unfold bclr
  rw [ofInt_nat, ofInt_nat]
  have h : (BitVec.ofNat 64 a &&& ~~~ BitVec.ofNat 64 b).toNat = a ^^^ (a &&& b) := by
    apply Nat.eq_of_testBit_eq
    intro i
    rw [BitVec.testBit_toNat]
    simp only [BitVec.getLsbD_and, BitVec.getLsbD_not, BitVec.getLsbD_ofNat, Nat.testBit_xor, Nat.testBit_and]
    by_cases hi : i < 64
    · simp [hi]; cases a.testBit i <;> cases b.testBit i <;> rfl
    · have : a.testBit i = false := Nat.testBit_lt_two_pow (Nat.lt_of_lt_of_le ha (by
        have : 2 ^ 64 ≤ 2 ^ i := Nat.pow_le_pow_right (by omega) (by omega)
        omega))
      simp [this]
  rw [h]
  exact wrap_nat (Nat.xor_lt_two_pow (n := 63) ha (Nat.lt_of_le_of_lt Nat.and_le_left ha))
theorem shl_one {t : Nat} (h : t < 63) : shl 1 (t : Int) = ((2 ^ t : Nat) : Int) := by
  unfold shl
  rw [Int.toNat_natCast, Nat.min_eq_left (by omega)]
  have h1 : (1 : Int) * 2 ^ t = ((2 ^ t : Nat) : Int) := by simp
  rw [h1]
  exact wrap_nat (Nat.lt_of_le_of_lt (Nat.pow_le_pow_right (by omega) (by omega : t ≤ 62)) (by decide))
theorem shr_nat {a t : Nat} (h : t < 64) : shr (a : Int) (t : Int) = ((a / 2 ^ t : Nat) : Int) := by
  unfold shr
  rw [Int.toNat_natCast, Nat.min_eq_left (by omega)]
  rw [show (2 : Int) ^ t = ((2 ^ t : Nat) : Int) by simp, Int.fdiv_eq_ediv_of_nonneg _ (Int.natCast_nonneg _)]
  rfl
theorem bit_nat {a t : Nat} (ha : a < 9223372036854775808) (h : t < 64) : (band (shr (a : Int) (t : Int)) 1 == 0) = !a.testBit t := by
  rw [shr_nat h, show (1 : Int) = ((1 : Nat) : Int) from rfl, band_nat (Nat.lt_of_le_of_lt (Nat.div_le_self _ _) ha) (by omega)]
  rw [Nat.testBit_eq_decide_div_mod_eq, Nat.and_one_is_mod]
  have := Nat.mod_two_eq_zero_or_one (a / 2 ^ t)
  rcases this with h | h <;> simp [h]
/-- all bits of c stand in a -/
def subB (c a : Nat) : Bool := c &&& a == c
theorem has_clr {a c : Nat} (hc : c < 9223372036854775808) : (bclr (c : Int) (a : Int) == 0) = subB c a := by
  rw [bclr_nat hc]; unfold subB
  rw [Bool.eq_iff_iff, beq_iff_eq, beq_iff_eq]
  constructor
  · intro h
    have h' : c ^^^ (c &&& a) = 0 := by omega
    have := congrArg (· ^^^ (c &&& a)) h'
    simp only [Nat.xor_assoc, Nat.xor_self, Nat.xor_zero, Nat.zero_xor] at this
    exact this.symm
  · intro h; rw [h, Nat.xor_self]; rfl
theorem has_and {a c : Nat} (ha : a < 9223372036854775808) (hc : c < 9223372036854775808) : (band (a : Int) (c : Int) == (c : Int)) = subB c a := by
  rw [band_nat ha hc]; unfold subB
  rw [Bool.eq_iff_iff, beq_iff_eq, beq_iff_eq, Nat.and_comm]
  omega
theorem or_lt {a b : Nat} (ha : a < 9223372036854775808) (hb : b < 9223372036854775808) : a ||| b < 9223372036854775808 := Nat.or_lt_two_pow (n := 63) ha hb
end Go.Ga

/- loop.example/g01158/laws.szTrap -/
namespace Go.Proofs
open Go Go.Ga
set_option linter.unusedVariables false
set_option maxRecDepth 100000
set_option maxHeartbeats 4000000
def laws_szTrap.f (k : Nat) (a0_0 : Int) (a0_1 : List (Int × Int × Int)) (a0_2 : List Int) (a0_3 : List Int) (a1 : Int) : Option (Int) := (laws_szMaze.f k a0_0 a0_1 a0_2 a1).bind fun t8 => (if (decide (t8 < 0)) = true then some (-1) else (laws_szIntS.f k a0_3 t8).bind fun t14 => (if (decide (t14 < 0)) = true then some (-1) else some t14))

theorem laws_szTrap.ok {k : Nat}  {a0_0 : Int} {a0_1 : List (Int × Int × Int)} {a0_2 : List Int} {a0_3 : List Int} {a1 : Int} {r0 : Int} (h : laws_szTrap.f k a0_0 a0_1 a0_2 a0_3 a1 = some r0) (w : World) {va0_1 : Value} {va0_2 : Value} {va0_3 : Value} (hr_a0_1 : Rd w va0_1 a0_1) (hr_a0_2 : Rd w va0_2 a0_2) (hr_a0_3 : Rd w va0_3 a0_3) :
    Calls Try.prog 19 ([.agg ([.int .i64 a0_0, va0_1, va0_2, va0_3].toArray), .int .i64 a1] : List Value).toArray w (fun e w' => e = .returned (.int .i64 r0) ∧ Ext w w') := by
  unfold laws_szTrap.f at h
  have hl_va0_1 := hr_a0_1.len
  have hl_va0_2 := hr_a0_2.len
  have hl_va0_3 := hr_a0_3.len
  refine Calls.of_tri (N := 18) Try.func19 rfl rfl rfl (Sep.nil (M := noM)) ?_
  refine Tri.seq ?_
  refine Tri.reg (l := [0, 1]) rfl ?_
  refine F.m rfl rfl rfl (wanted_none rfl) (m_boxG rfl rfl) ?_
  rintro _ _ ⟨b2_1, rfl, rfl⟩
  refine F.q rfl rfl rfl (wanted_none rfl) (r_assign rfl) ?_
  refine F.nil ?_
  refine Nrm.seq ?_
  refine Tri.seq ?_
  obtain ⟨t8, h8, h⟩ := bind_some h
  refine Tri.reg (l := [0, 1, 2, 3, 4]) rfl ?_
  refine F.q rfl rfl rfl (wanted_none rfl) (r_fieldAddr tf34_0 rfl) ?_
  refine F.q rfl rfl rfl (wanted_none rfl) (r_loadA ta32 ti32 rfl rfl (fun w hw => cells_1 (cs' := [.int .i64 a0_0, va0_1, va0_2]) (box_cells (i := 0) rfl w hw) rfl)) ?_
  refine F.q rfl rfl rfl (wanted_none rfl) (r_move rfl) ?_
  refine F.qc rfl rfl rfl (wanted_none rfl) (q_callF (xs := _) rfl ok29 rfl rfl (fun w hw => laws_szMaze.ok h8 w ((fun _ hw => hr_a0_1.sep hw) w hw) ((fun _ hw => hr_a0_2.sep hw) w hw))) ?_
  refine F.q rfl rfl rfl (wanted_none rfl) (r_assign rfl) ?_
  refine F.nil ?_
  refine Nrm.seq ?_
  refine Tri.seq ?_
  refine Tri.seq ?_
  refine Tri.reg (l := [0, 1]) rfl ?_
  refine F.q rfl rfl rfl (wanted_none rfl) (r_move rfl) ?_
  refine F.q rfl rfl rfl (wanted_none rfl) (r_lss rfl rfl) ?_
  refine F.nil ?_
  refine Nrm.seq ?_
  refine Tri.cond (b := decide (t8 < 0)) rfl (fun g_1 => ?_) (fun g_1 => ?_)
  · replace h := if_tt g_1 h
    refine Tri.seq ?_
    refine Tri.reg (l := [0]) rfl ?_
    refine F.q rfl rfl rfl (wanted_none rfl) (r_assign rfl) ?_
    refine F.nil ?_
    refine Nrm.seq ?_
    refine Tri.ret ?_
    refine Rtn.then ?_
    cases h
    exact Rtn.body (.tmp rfl .nil) (fun w hw => ⟨rfl, hw.ext⟩)
  · replace h := if_ff g_1 h
    refine Tri.skip ?_
    refine Nrm.seq ?_
    refine Tri.seq ?_
    obtain ⟨t14, h14, h⟩ := bind_some h
    refine Tri.reg (l := [0, 1, 2, 3, 4]) rfl ?_
    refine F.q rfl rfl rfl (wanted_none rfl) (r_fieldAddr tf34_1 rfl) ?_
    refine F.q rfl rfl rfl (wanted_none rfl) (r_load ta30 rfl (fun w hw => cell_1 (box_cells (i := 0) rfl w hw) rfl)) ?_
    refine F.q rfl rfl rfl (wanted_none rfl) (r_move rfl) ?_
    refine F.qc rfl rfl rfl (wanted_none rfl) (q_callF (xs := _) rfl ok80 rfl rfl (fun w hw => laws_szIntS.ok h14 w ((fun _ hw => hr_a0_3.sep hw) w hw))) ?_
    refine F.q rfl rfl rfl (wanted_none rfl) (r_assign rfl) ?_
    refine F.nil ?_
    refine Nrm.seq ?_
    refine Tri.seq ?_
    refine Tri.seq ?_
    refine Tri.reg (l := [0, 1]) rfl ?_
    refine F.q rfl rfl rfl (wanted_none rfl) (r_move rfl) ?_
    refine F.q rfl rfl rfl (wanted_none rfl) (r_lss rfl rfl) ?_
    refine F.nil ?_
    refine Nrm.seq ?_
    refine Tri.cond (b := decide (t14 < 0)) rfl (fun g_2 => ?_) (fun g_2 => ?_)
    · replace h := if_tt g_2 h
      refine Tri.seq ?_
      refine Tri.reg (l := [0]) rfl ?_
      refine F.q rfl rfl rfl (wanted_none rfl) (r_assign rfl) ?_
      refine F.nil ?_
      refine Nrm.seq ?_
      refine Tri.ret ?_
      refine Rtn.then ?_
      cases h
      exact Rtn.body (.tmp rfl .nil) (fun w hw => ⟨rfl, hw.ext⟩)
    · replace h := if_ff g_2 h
      refine Tri.skip ?_
      refine Nrm.seq ?_
      refine Tri.seq ?_
      refine Tri.reg (l := [0, 1]) rfl ?_
      refine F.q rfl rfl rfl (wanted_none rfl) (r_move rfl) ?_
      refine F.q rfl rfl rfl (wanted_none rfl) (r_assign rfl) ?_
      refine F.nil ?_
      refine Nrm.seq ?_
      refine Tri.ret ?_
      cases h
      exact Rtn.body (.tmp rfl .nil) (fun w hw => ⟨rfl, hw.ext⟩)

end Go.Proofs

/- loop.example/g01158/spec.l1Rising -/
namespace Go.Proofs
open Go Go.Ga
set_option linter.unusedVariables false
set_option maxRecDepth 100000
set_option maxHeartbeats 4000000
def spec_l1Rising.l0 (k : Nat) (a0 : List Int) (a1 : Int) (a2 : Int) : Nat → Int → Option ((Unit) ⊕ (Bool))
  | 0, _ => none
  | n + 1, x7 => (if (decide (x7 < (a0.length : Int))) = true then ((rdl a0 x7).bind fun t16 => (spec_l1In.f k t16 a1 a2).bind fun t20 => (if (!t20) = true then some true else (if (decide (x7 > 0)) = true then (rdl a0 (w64 (x7 - 1))).bind fun t29 => (rdl a0 x7).bind fun t33 => some (decide (t29 ≥ t33)) else some false))).bind fun y37 => (if y37 = true then some (Sum.inr false) else spec_l1Rising.l0 k a0 a1 a2 n (w64 (x7 + 1))) else some (Sum.inl ()))

def spec_l1Rising.f (k : Nat) (a0 : List Int) (a1 : Int) (a2 : Int) : Option (Bool) := (spec_l1Rising.l0 k a0 a1 a2 k 0).bind fun s => Lr s some fun _ => some true

theorem spec_l1Rising.ok {k : Nat}  {a0 : List Int} {a1 : Int} {a2 : Int} {r0 : Bool} (h : spec_l1Rising.f k a0 a1 a2 = some r0) (w : World) {va0 : Value} (hr_a0 : Rd w va0 a0) :
    Calls Try.prog 141 ([va0, .int .i64 a1, .int .i64 a2] : List Value).toArray w (fun e w' => e = .returned (.bool r0) ∧ Ext w w') := by
  unfold spec_l1Rising.f at h
  have hl_va0 := hr_a0.len
  refine Calls.of_tri (N := 38) Try.func141 rfl rfl rfl (Sep.nil (M := noM)) ?_
  refine Tri.seq ?_
  refine Tri.reg (l := [0]) rfl ?_
  refine F.q rfl rfl rfl (wanted_none rfl) (r_assign rfl) ?_
  refine F.nil ?_
  refine Nrm.seq ?_
  refine Tri.seq ?_
  refine Tri.seq ?_
  refine Tri.reg (l := [0]) rfl ?_
  refine F.q rfl rfl rfl (wanted_none rfl) (r_assign rfl) ?_
  refine F.nil ?_
  refine Nrm.seq ?_
  obtain ⟨s0, hE_1, h⟩ := bind_some h
  refine Tri.block ?_
  refine Tri.only [0, 1, 2, 7] rfl ?_
  refine Tri.pick [] rfl rfl ?_
  refine Tri.rounds (fun n e' C' => ∃ (x7' : Int), spec_l1Rising.l0 k a0 a1 a2 n x7' = some s0 ∧ e' = [(0, va0), (1, .int .i64 a1), (2, .int .i64 a2), (7, .int .i64 x7')] ∧ C' = Sep w noM []) k ?_ ?_ ?_
  · exact ⟨0, hE_1, rfl, rfl⟩
  · rintro _ _ ⟨_, hE_1, _⟩
    rw [spec_l1Rising.l0.eq_1] at hE_1; cases hE_1
  · rintro n_1 _ _ ⟨x7, hE_1, rfl, rfl⟩ ih_1
    rw [spec_l1Rising.l0.eq_2] at hE_1
    refine Tri.seq ?_
    refine Tri.seq ?_
    refine Tri.reg (l := [0, 1, 2, 3]) rfl ?_
    refine F.q rfl rfl rfl (wanted_none rfl) (r_move rfl) ?_
    refine F.q rfl rfl rfl (wanted_none rfl) (r_move rfl) ?_
    refine F.q rfl rfl rfl (wanted_none rfl) (r_len Try.underlying30 rfl hl_va0) ?_
    refine F.q rfl rfl rfl (wanted_none rfl) (r_lss rfl rfl) ?_
    refine F.nil ?_
    refine Nrm.seq ?_
    refine Tri.cond (b := decide (x7 < (a0.length : Int))) rfl (fun g_1 => ?_) (fun g_1 => ?_)
    · replace hE_1 := if_tt g_1 hE_1
      refine Tri.skip ?_
      refine Nrm.seq ?_
      refine Tri.seq ?_
      refine Tri.block ?_
      refine Tri.seq ?_
      obtain ⟨y37, hE_2, hE_1⟩ := bind_some hE_1
      refine Tri.cut (fun e' C' => e' = [(0, va0), (1, .int .i64 a1), (2, .int .i64 a2), (7, .int .i64 x7), (37, .bool y37)] ∧ C' = Sep w noM []) ?_ (fun hj_1 => ?_)
      · rintro _ _ ⟨rfl, rfl⟩
        refine Nrm.seq ?_
        refine Tri.cond (b := y37) rfl (fun g_2 => ?_) (fun g_2 => ?_)
        · replace hE_1 := if_tt g_2 hE_1
          refine Tri.seq ?_
          refine Tri.reg (l := [0]) rfl ?_
          refine F.q rfl rfl rfl (wanted_none rfl) (r_assign rfl) ?_
          refine F.nil ?_
          refine Nrm.seq ?_
          refine Tri.ret ?_
          refine Rtn.block ?_
          refine Rtn.then ?_
          refine Rtn.then ?_
          refine Rtn.block ?_
          refine Rtn.then ?_
          cases hE_1
          replace h := Lr_inr h
          cases h
          exact Rtn.body (.tmp rfl .nil) (fun w hw => ⟨rfl, hw.ext⟩)
        · replace hE_1 := if_ff g_2 hE_1
          refine Tri.skip ?_
          refine Nrm.block ?_
          refine Nrm.seq ?_
          refine Tri.reg (l := [0, 1, 2]) rfl ?_
          refine F.q rfl rfl rfl (wanted_none rfl) (r_move rfl) ?_
          refine F.q rfl rfl rfl (wanted_none rfl) (r_add rfl rfl) ?_
          refine F.q rfl rfl rfl (wanted_none rfl) (r_assign rfl) ?_
          refine F.nil ?_
          refine Nrm.round ?_
          refine Rnd.only [0, 1, 2, 7] rfl ?_
          refine Rnd.pick [] rfl rfl ?_
          exact ih_1 _ _ ⟨w64 (x7 + 1), hE_1, rfl, rfl⟩
      · obtain ⟨t16, h16, hE_2⟩ := bind_some hE_2
        obtain ⟨t20, h20, hE_2⟩ := bind_some hE_2
        rcases Bool.eq_false_or_eq_true (!t20) with g22 | g22
        · replace hE_2 := if_tt g22 hE_2
          refine Tri.drawA mixedT Sep.up [(0, true), (1, true), (2, true), (3, true), (4, true), (5, true), (6, true), (7, true), (8, true), (9, true), (10, true), (11, true), (12, true), (13, true), (14, true), (15, true), (16, true), (17, true), (18, true), (19, true), (20, true), (21, true), (22, true), (23, true)] [] (by kernel_rfl) ?_
          refine S.q rfl rfl rfl (wanted_none rfl) (r_move rfl) ?_
          refine S.q rfl rfl rfl (wanted_none rfl) (r_move rfl) ?_
          refine S.q rfl rfl rfl (wanted_none rfl) (r_indexAddrS Try.underlying30 ti3 rfl hl_va0 rfl (rdl_some h16).1 (rdl_some h16).2.1) ?_
          refine S.q rfl rfl rfl (wanted_none rfl) (r_load ta3 rfl (fun w hw => cell_0 (Rd.flat ((fun _ hw => hr_a0.sep hw) w hw) (rdl_some h16).2.2) rfl)) ?_
          refine S.q rfl rfl rfl (wanted_none rfl) (r_move rfl) ?_
          refine S.q rfl rfl rfl (wanted_none rfl) (r_move rfl) ?_
          refine S.qc rfl rfl rfl (wanted_none rfl) (q_callF (xs := _) rfl ok144 rfl rfl (fun w hw => spec_l1In.ok h20 w )) ?_
          refine S.q rfl rfl rfl (wanted_none rfl) (r_not rfl) ?_
          refine S.q rfl rfl rfl (wanted_none rfl) (r_move rfl) ?_
          refine S.sk rfl rfl rfl (wf rfl rfl rfl g22) ?_
          refine S.sk rfl rfl rfl (wf rfl rfl rfl g22) ?_
          refine S.sk rfl rfl rfl (wf rfl rfl rfl g22) ?_
          refine S.sk rfl rfl rfl (wanted_undef rfl rfl rfl) ?_
          refine S.sk rfl rfl rfl (wanted_undef rfl rfl rfl) ?_
          refine S.sk rfl rfl rfl (wanted_undef rfl rfl rfl) ?_
          refine S.sk rfl rfl rfl (wanted_undef rfl rfl rfl) ?_
          refine S.sk rfl rfl rfl (wanted_undef rfl rfl rfl) ?_
          refine S.sk rfl rfl rfl (wanted_undef rfl rfl rfl) ?_
          refine S.sk rfl rfl rfl (wanted_undef rfl rfl rfl) ?_
          refine S.sk rfl rfl rfl (wanted_undef rfl rfl rfl) ?_
          refine S.sk rfl rfl rfl (wanted_undef rfl rfl rfl) ?_
          refine S.sk rfl rfl rfl (wanted_undef rfl rfl rfl) ?_
          refine S.sk rfl rfl rfl (wf rfl rfl rfl g22) ?_
          refine S.q rfl rfl rfl (wanted_none rfl) (r_pick rfl rfl g22) ?_
          refine S.nil ?_
          refine F.nil ?_
          cases hE_2
          refine Nrm.only [0, 1, 2, 7, 37] rfl ?_
          refine Nrm.pick [] rfl rfl ?_
          exact hj_1 _ _ ⟨rfl, rfl⟩
        · replace hE_2 := if_ff g22 hE_2
          rcases Bool.eq_false_or_eq_true (decide (x7 > 0)) with g25 | g25
          · replace hE_2 := if_tt g25 hE_2
            obtain ⟨t29, h29, hE_2⟩ := bind_some hE_2
            obtain ⟨t33, h33, hE_2⟩ := bind_some hE_2
            refine Tri.drawA mixedT Sep.up [(0, true), (1, true), (2, true), (3, true), (4, true), (5, true), (6, true), (7, true), (8, true), (9, true), (10, true), (11, true), (12, true), (13, true), (14, true), (15, true), (16, true), (17, true), (18, true), (19, true), (20, true), (21, true), (22, true), (23, true)] [] (by kernel_rfl) ?_
            refine S.q rfl rfl rfl (wanted_none rfl) (r_move rfl) ?_
            refine S.q rfl rfl rfl (wanted_none rfl) (r_move rfl) ?_
            refine S.q rfl rfl rfl (wanted_none rfl) (r_indexAddrS Try.underlying30 ti3 rfl hl_va0 rfl (rdl_some h16).1 (rdl_some h16).2.1) ?_
            refine S.q rfl rfl rfl (wanted_none rfl) (r_load ta3 rfl (fun w hw => cell_0 (Rd.flat ((fun _ hw => hr_a0.sep hw) w hw) (rdl_some h16).2.2) rfl)) ?_
            refine S.q rfl rfl rfl (wanted_none rfl) (r_move rfl) ?_
            refine S.q rfl rfl rfl (wanted_none rfl) (r_move rfl) ?_
            refine S.qc rfl rfl rfl (wanted_none rfl) (q_callF (xs := _) rfl ok144 rfl rfl (fun w hw => spec_l1In.ok h20 w )) ?_
            refine S.q rfl rfl rfl (wanted_none rfl) (r_not rfl) ?_
            refine S.q rfl rfl rfl (wanted_none rfl) (r_move rfl) ?_
            refine S.q rfl rfl rfl (wg rfl rfl rfl g22) (r_move rfl) ?_
            refine S.q rfl rfl rfl (wg rfl rfl rfl g22) (r_gtr rfl rfl) ?_
            refine S.q rfl rfl rfl (wg rfl rfl rfl g22) (r_move rfl) ?_
            refine S.q rfl rfl rfl (wg rfl rfl rfl g25) (r_move rfl) ?_
            refine S.q rfl rfl rfl (wg rfl rfl rfl g25) (r_move rfl) ?_
            refine S.q rfl rfl rfl (wg rfl rfl rfl g25) (r_sub rfl rfl) ?_
            refine S.q rfl rfl rfl (wg rfl rfl rfl g25) (r_indexAddrS Try.underlying30 ti3 rfl hl_va0 rfl (rdl_some h29).1 (rdl_some h29).2.1) ?_
            refine S.q rfl rfl rfl (wg rfl rfl rfl g25) (r_load ta3 rfl (fun w hw => cell_0 (Rd.flat ((fun _ hw => hr_a0.sep hw) w hw) (rdl_some h29).2.2) rfl)) ?_
            refine S.q rfl rfl rfl (wg rfl rfl rfl g25) (r_move rfl) ?_
            refine S.q rfl rfl rfl (wg rfl rfl rfl g25) (r_move rfl) ?_
            refine S.q rfl rfl rfl (wg rfl rfl rfl g25) (r_indexAddrS Try.underlying30 ti3 rfl hl_va0 rfl (rdl_some h33).1 (rdl_some h33).2.1) ?_
            refine S.q rfl rfl rfl (wg rfl rfl rfl g25) (r_load ta3 rfl (fun w hw => cell_0 (Rd.flat ((fun _ hw => hr_a0.sep hw) w hw) (rdl_some h33).2.2) rfl)) ?_
            refine S.q rfl rfl rfl (wg rfl rfl rfl g25) (r_geq rfl rfl) ?_
            refine S.q rfl rfl rfl (wg rfl rfl rfl g22) (r_pick rfl rfl g25) ?_
            refine S.q rfl rfl rfl (wanted_none rfl) (r_pickf rfl rfl g22) ?_
            refine S.nil ?_
            refine F.nil ?_
            cases hE_2
            refine Nrm.only [0, 1, 2, 7, 37] rfl ?_
            refine Nrm.pick [] rfl rfl ?_
            exact hj_1 _ _ ⟨rfl, rfl⟩
          · replace hE_2 := if_ff g25 hE_2
            refine Tri.drawA mixedT Sep.up [(0, true), (1, true), (2, true), (3, true), (4, true), (5, true), (6, true), (7, true), (8, true), (9, true), (10, true), (11, true), (12, true), (13, true), (14, true), (15, true), (16, true), (17, true), (18, true), (19, true), (20, true), (21, true), (22, true), (23, true)] [] (by kernel_rfl) ?_
            refine S.q rfl rfl rfl (wanted_none rfl) (r_move rfl) ?_
            refine S.q rfl rfl rfl (wanted_none rfl) (r_move rfl) ?_
            refine S.q rfl rfl rfl (wanted_none rfl) (r_indexAddrS Try.underlying30 ti3 rfl hl_va0 rfl (rdl_some h16).1 (rdl_some h16).2.1) ?_
            refine S.q rfl rfl rfl (wanted_none rfl) (r_load ta3 rfl (fun w hw => cell_0 (Rd.flat ((fun _ hw => hr_a0.sep hw) w hw) (rdl_some h16).2.2) rfl)) ?_
            refine S.q rfl rfl rfl (wanted_none rfl) (r_move rfl) ?_
            refine S.q rfl rfl rfl (wanted_none rfl) (r_move rfl) ?_
            refine S.qc rfl rfl rfl (wanted_none rfl) (q_callF (xs := _) rfl ok144 rfl rfl (fun w hw => spec_l1In.ok h20 w )) ?_
            refine S.q rfl rfl rfl (wanted_none rfl) (r_not rfl) ?_
            refine S.q rfl rfl rfl (wanted_none rfl) (r_move rfl) ?_
            refine S.q rfl rfl rfl (wg rfl rfl rfl g22) (r_move rfl) ?_
            refine S.q rfl rfl rfl (wg rfl rfl rfl g22) (r_gtr rfl rfl) ?_
            refine S.q rfl rfl rfl (wg rfl rfl rfl g22) (r_move rfl) ?_
            refine S.sk rfl rfl rfl (wf rfl rfl rfl g25) ?_
            refine S.sk rfl rfl rfl (wf rfl rfl rfl g25) ?_
            refine S.sk rfl rfl rfl (wf rfl rfl rfl g25) ?_
            refine S.sk rfl rfl rfl (wf rfl rfl rfl g25) ?_
            refine S.sk rfl rfl rfl (wf rfl rfl rfl g25) ?_
            refine S.sk rfl rfl rfl (wf rfl rfl rfl g25) ?_
            refine S.sk rfl rfl rfl (wf rfl rfl rfl g25) ?_
            refine S.sk rfl rfl rfl (wf rfl rfl rfl g25) ?_
            refine S.sk rfl rfl rfl (wf rfl rfl rfl g25) ?_
            refine S.sk rfl rfl rfl (wf rfl rfl rfl g25) ?_
            refine S.q rfl rfl rfl (wg rfl rfl rfl g22) (r_pickf rfl rfl g25) ?_
            refine S.q rfl rfl rfl (wanted_none rfl) (r_pickf rfl rfl g22) ?_
            refine S.nil ?_
            refine F.nil ?_
            cases hE_2
            refine Nrm.only [0, 1, 2, 7, 37] rfl ?_
            refine Nrm.pick [] rfl rfl ?_
            exact hj_1 _ _ ⟨rfl, rfl⟩
    · replace hE_1 := if_ff g_1 hE_1
      refine Tri.exit ?_
      refine Exi.then ?_
      refine Exi.then ?_
      refine Exi.same ?_
      cases hE_1
      replace h := Lr_inl h
      refine Nrm.seq ?_
      refine Tri.seq ?_
      refine Tri.reg (l := [0]) rfl ?_
      refine F.q rfl rfl rfl (wanted_none rfl) (r_assign rfl) ?_
      refine F.nil ?_
      refine Nrm.seq ?_
      refine Tri.ret ?_
      cases h
      exact Rtn.body (.tmp rfl .nil) (fun w hw => ⟨rfl, hw.ext⟩)

end Go.Proofs

/- loop.example/g01158/spec.l11Trap -/
namespace Go.Proofs
open Go Go.Ga
set_option linter.unusedVariables false
set_option maxRecDepth 100000
set_option maxHeartbeats 4000000
def spec_l11Trap.f (k : Nat) (a0_0 : Int) (a0_1 : List (Int × Int × Int)) (a0_2 : List Int) (a0_3 : List Int) : Option (Bool) := ((spec_l2Maze.f k a0_0 a0_1 a0_2).bind fun t5 => (if t5 = true then (spec_l1Rising.f k a0_3 0 (w64 ((a0_1.length : Int) - 1))).bind fun t14 => some t14 else some false)).bind fun y2 => some y2

theorem spec_l11Trap.ok {k : Nat}  {a0_0 : Int} {a0_1 : List (Int × Int × Int)} {a0_2 : List Int} {a0_3 : List Int} {r0 : Bool} (h : spec_l11Trap.f k a0_0 a0_1 a0_2 a0_3 = some r0) (w : World) {va0_1 : Value} {va0_2 : Value} {va0_3 : Value} (hr_a0_1 : Rd w va0_1 a0_1) (hr_a0_2 : Rd w va0_2 a0_2) (hr_a0_3 : Rd w va0_3 a0_3) :
    Calls Try.prog 81 ([.agg ([.int .i64 a0_0, va0_1, va0_2, va0_3].toArray)] : List Value).toArray w (fun e w' => e = .returned (.bool r0) ∧ Ext w w') := by
  unfold spec_l11Trap.f at h
  have hl_va0_1 := hr_a0_1.len
  have hl_va0_2 := hr_a0_2.len
  have hl_va0_3 := hr_a0_3.len
  refine Calls.of_tri (N := 16) Try.func81 rfl rfl rfl (Sep.nil (M := noM)) ?_
  refine Tri.seq ?_
  refine Tri.reg (l := [0, 1]) rfl ?_
  refine F.m rfl rfl rfl (wanted_none rfl) (m_boxG rfl rfl) ?_
  rintro _ _ ⟨b1_1, rfl, rfl⟩
  refine F.q rfl rfl rfl (wanted_none rfl) (r_assign rfl) ?_
  refine F.nil ?_
  refine Nrm.seq ?_
  refine Tri.seq ?_
  obtain ⟨y2, hE_1, h⟩ := bind_some h
  refine Tri.cut (fun e' C' => e' = [(2, .bool y2)] ∧ C' = Sep w noM []) ?_ (fun hj_1 => ?_)
  · rintro _ _ ⟨rfl, rfl⟩
    refine Nrm.seq ?_
    refine Tri.ret ?_
    cases h
    exact Rtn.body (.tmp rfl .nil) (fun w hw => ⟨rfl, hw.ext⟩)
  · obtain ⟨t5, h5, hE_1⟩ := bind_some hE_1
    rcases Bool.eq_false_or_eq_true (t5) with g6 | g6
    · replace hE_1 := if_tt g6 hE_1
      obtain ⟨t14, h14, hE_1⟩ := bind_some hE_1
      refine Tri.reg (l := [0, 1, 2, 3, 4, 5, 6, 7, 8, 9, 10, 11, 12, 13]) rfl ?_
      refine F.q rfl rfl rfl (wanted_none rfl) (r_fieldAddr tf39_0 rfl) ?_
      refine F.q rfl rfl rfl (wanted_none rfl) (r_loadA ta37 ti37 rfl rfl (fun w hw => cells_1 (cs' := [.int .i64 a0_0, va0_1, va0_2]) (box_cells (i := 0) rfl w hw) rfl)) ?_
      refine F.qc rfl rfl rfl (wanted_none rfl) (q_callF (xs := _) rfl ok87 rfl rfl (fun w hw => spec_l2Maze.ok h5 w ((fun _ hw => hr_a0_1.sep hw) w hw) ((fun _ hw => hr_a0_2.sep hw) w hw))) ?_
      refine F.q rfl rfl rfl (wanted_none rfl) (r_move rfl) ?_
      refine F.q rfl rfl rfl (wg rfl rfl rfl g6) (r_fieldAddr tf39_1 rfl) ?_
      refine F.q rfl rfl rfl (wg rfl rfl rfl g6) (r_load ta30 rfl (fun w hw => cell_1 (box_cells (i := 0) rfl w hw) rfl)) ?_
      refine F.q rfl rfl rfl (wg rfl rfl rfl g6) (r_fieldAddr tf39_0 rfl) ?_
      refine F.q rfl rfl rfl (wg rfl rfl rfl g6) (r_fieldAddr tf37_1 rfl) ?_
      refine F.q rfl rfl rfl (wg rfl rfl rfl g6) (r_load ta29 rfl (fun w hw => cell_2 (box_cells (i := 0) rfl w hw) rfl)) ?_
      refine F.q rfl rfl rfl (wg rfl rfl rfl g6) (r_len Try.underlying29 rfl hl_va0_1) ?_
      refine F.q rfl rfl rfl (wg rfl rfl rfl g6) (r_sub rfl rfl) ?_
      refine F.qc rfl rfl rfl (wg rfl rfl rfl g6) (q_callF (xs := _) rfl ok141 rfl rfl (fun w hw => spec_l1Rising.ok h14 w ((fun _ hw => hr_a0_3.sep hw) w hw))) ?_
      refine F.q rfl rfl rfl (wanted_none rfl) (r_pick rfl rfl g6) ?_
      refine F.q rfl rfl rfl (wanted_none rfl) (r_assign rfl) ?_
      refine F.nil ?_
      cases hE_1
      refine Nrm.only [2] rfl ?_
      refine Nrm.pick [] rfl rfl ?_
      exact hj_1 _ _ ⟨rfl, rfl⟩
    · replace hE_1 := if_ff g6 hE_1
      refine Tri.reg (l := [0, 1, 2, 3, 4, 5, 6, 7, 8, 9, 10, 11, 12, 13]) rfl ?_
      refine F.q rfl rfl rfl (wanted_none rfl) (r_fieldAddr tf39_0 rfl) ?_
      refine F.q rfl rfl rfl (wanted_none rfl) (r_loadA ta37 ti37 rfl rfl (fun w hw => cells_1 (cs' := [.int .i64 a0_0, va0_1, va0_2]) (box_cells (i := 0) rfl w hw) rfl)) ?_
      refine F.qc rfl rfl rfl (wanted_none rfl) (q_callF (xs := _) rfl ok87 rfl rfl (fun w hw => spec_l2Maze.ok h5 w ((fun _ hw => hr_a0_1.sep hw) w hw) ((fun _ hw => hr_a0_2.sep hw) w hw))) ?_
      refine F.q rfl rfl rfl (wanted_none rfl) (r_move rfl) ?_
      refine F.sk rfl rfl rfl (wf rfl rfl rfl g6) ?_
      refine F.sk rfl rfl rfl (wf rfl rfl rfl g6) ?_
      refine F.sk rfl rfl rfl (wf rfl rfl rfl g6) ?_
      refine F.sk rfl rfl rfl (wf rfl rfl rfl g6) ?_
      refine F.sk rfl rfl rfl (wf rfl rfl rfl g6) ?_
      refine F.sk rfl rfl rfl (wf rfl rfl rfl g6) ?_
      refine F.sk rfl rfl rfl (wf rfl rfl rfl g6) ?_
      refine F.sk rfl rfl rfl (wf rfl rfl rfl g6) ?_
      refine F.q rfl rfl rfl (wanted_none rfl) (r_pickf rfl rfl g6) ?_
      refine F.q rfl rfl rfl (wanted_none rfl) (r_assign rfl) ?_
      refine F.nil ?_
      cases hE_1
      refine Nrm.only [2] rfl ?_
      refine Nrm.pick [] rfl rfl ?_
      exact hj_1 _ _ ⟨rfl, rfl⟩

end Go.Proofs

/- loop.example/g01158/spec.IsTrap -/
namespace Go.Proofs
open Go Go.Ga
set_option linter.unusedVariables false
set_option maxRecDepth 100000
set_option maxHeartbeats 4000000
def spec_IsTrap.f (k : Nat) (a0_0 : Int) (a0_1 : List (Int × Int × Int)) (a0_2 : List Int) (a0_3 : List Int) : Option (Bool) := (spec_l11Trap.f k a0_0 a0_1 a0_2 a0_3).bind fun t4 => some t4

theorem spec_IsTrap.ok {k : Nat}  {a0_0 : Int} {a0_1 : List (Int × Int × Int)} {a0_2 : List Int} {a0_3 : List Int} {r0 : Bool} (h : spec_IsTrap.f k a0_0 a0_1 a0_2 a0_3 = some r0) (w : World) {va0_1 : Value} {va0_2 : Value} {va0_3 : Value} (hr_a0_1 : Rd w va0_1 a0_1) (hr_a0_2 : Rd w va0_2 a0_2) (hr_a0_3 : Rd w va0_3 a0_3) :
    Calls Try.prog 20 ([.agg ([.int .i64 a0_0, va0_1, va0_2, va0_3].toArray)] : List Value).toArray w (fun e w' => e = .returned (.bool r0) ∧ Ext w w') := by
  unfold spec_IsTrap.f at h
  have hl_va0_1 := hr_a0_1.len
  have hl_va0_2 := hr_a0_2.len
  have hl_va0_3 := hr_a0_3.len
  refine Calls.of_tri (N := 5) Try.func20 rfl rfl rfl (Sep.nil (M := noM)) ?_
  refine Tri.seq ?_
  refine Tri.reg (l := [0, 1]) rfl ?_
  refine F.m rfl rfl rfl (wanted_none rfl) (m_boxG rfl rfl) ?_
  rintro _ _ ⟨b1_1, rfl, rfl⟩
  refine F.q rfl rfl rfl (wanted_none rfl) (r_assign rfl) ?_
  refine F.nil ?_
  refine Nrm.seq ?_
  refine Tri.seq ?_
  obtain ⟨t4, h4, h⟩ := bind_some h
  refine Tri.reg (l := [0, 1, 2]) rfl ?_
  refine F.q rfl rfl rfl (wanted_none rfl) (r_loadA ta39 ti39 rfl rfl (fun w hw => (box_cells (i := 0) rfl w hw))) ?_
  refine F.qc rfl rfl rfl (wanted_none rfl) (q_callF (xs := _) rfl ok81 rfl rfl (fun w hw => spec_l11Trap.ok h4 w ((fun _ hw => hr_a0_1.sep hw) w hw) ((fun _ hw => hr_a0_2.sep hw) w hw) ((fun _ hw => hr_a0_3.sep hw) w hw))) ?_
  refine F.q rfl rfl rfl (wanted_none rfl) (r_assign rfl) ?_
  refine F.nil ?_
  refine Nrm.seq ?_
  refine Tri.ret ?_
  cases h
  exact Rtn.body (.tmp rfl .nil) (fun w hw => ⟨rfl, hw.ext⟩)

end Go.Proofs

/- loop.example/g01158/laws.toTrap -/
namespace Go.Proofs
open Go Go.Ga
set_option linter.unusedVariables false
set_option maxRecDepth 100000
set_option maxHeartbeats 4000000
def laws_toTrap.f (k : Nat) (a0_0 : Int) (a0_1 : List (Int × Int × Int)) (a0_2 : List Int) (a0_3 : List Int) : Option (Int × (List (Int × Int × Int)) × (List Int) × (List Int)) := (laws_toMaze.f k a0_0 a0_1 a0_2).bind fun (t6_1, t6_2, t6_3) => (laws_toIntS.f k a0_3).bind fun t10 => some (t6_1, t6_2, t6_3, t10)

theorem laws_toTrap.ok {k : Nat}  {a0_0 : Int} {a0_1 : List (Int × Int × Int)} {a0_2 : List Int} {a0_3 : List Int} {r0 : Int} {r1 : List (Int × Int × Int)} {r2 : List Int} {r3 : List Int} (h : laws_toTrap.f k a0_0 a0_1 a0_2 a0_3 = some (r0, r1, r2, r3)) (w : World) {va0_1 : Value} {va0_2 : Value} {va0_3 : Value} (hr_a0_1 : Rd w va0_1 a0_1) (hr_a0_2 : Rd w va0_2 a0_2) (hr_a0_3 : Rd w va0_3 a0_3) :
    Calls Try.prog 21 ([.agg ([.int .i64 a0_0, va0_1, va0_2, va0_3].toArray)] : List Value).toArray w (Post (fun u ns => ∃ (ur1 : Value) (Sr1 : Nat → Prop) (ur2 : Value) (Sr2 : Nat → Prop) (ur3 : Value) (Sr3 : Nat → Prop), u = .agg [.int .i64 r0, ur1, ur2, ur3].toArray ∧ SlLen ur1 r1.length ∧ SlLen ur2 r2.length ∧ SlLen ur3 r3.length ∧ ns = [R.sl Sr1 ur1 r1, R.sl Sr2 ur2 r2, R.sl Sr3 ur3 r3]) w) := by
  unfold laws_toTrap.f at h
  have hl_va0_1 := hr_a0_1.len
  have hl_va0_2 := hr_a0_2.len
  have hl_va0_3 := hr_a0_3.len
  refine Calls.of_tri (N := 13) Try.func21 rfl rfl rfl (Sep.nil (M := noM)) ?_
  refine Tri.seq ?_
  refine Tri.reg (l := [0, 1]) rfl ?_
  refine F.m rfl rfl rfl (wanted_none rfl) (m_boxG rfl rfl) ?_
  rintro _ _ ⟨b1_1, rfl, rfl⟩
  refine F.m rfl rfl rfl (wanted_none rfl) (m_alloc ti39) ?_
  rintro _ _ ⟨b2_1, rfl, rfl⟩
  refine F.nil ?_
  refine Nrm.seq ?_
  refine Tri.seq ?_
  refine Tri.reg (l := [0]) rfl ?_
  refine F.m rfl rfl rfl (wanted_none rfl) (m_alloc ti39) ?_
  rintro _ _ ⟨b3_1, rfl, rfl⟩
  refine F.nil ?_
  refine Nrm.seq ?_
  refine Tri.seq ?_
  obtain ⟨⟨t6_1, t6_2, t6_3⟩, h6, h⟩ := bind_some h
  refine Tri.reg (l := [0, 1, 2, 3, 4]) rfl ?_
  refine F.q rfl rfl rfl (wanted_none rfl) (r_fieldAddr tf34_0 rfl) ?_
  refine F.q rfl rfl rfl (wanted_none rfl) (r_loadA ta32 ti32 rfl rfl (fun w hw => cells_1 (cs' := [.int .i64 a0_0, va0_1, va0_2]) (box_cells (i := 2) rfl w hw) rfl)) ?_
  refine F.m rfl rfl rfl (wanted_none rfl) (m_callF (xs := _) rfl ok31 rfl rfl (fun w hw => laws_toMaze.ok h6 w ((fun _ hw => hr_a0_1.sep hw) w hw) ((fun _ hw => hr_a0_2.sep hw) w hw))) ?_
  rintro _ _ ⟨_, ⟨v6_1, S6_1, v6_2, S6_2, rfl, hl_v6_1, hl_v6_2, rfl⟩, rfl⟩
  refine F.q rfl rfl rfl (wanted_none rfl) (r_fieldAddr tf39_0 rfl) ?_
  refine F.ef0 rfl rfl (wanted_none rfl) (d_storeG1 (i := 2) (cs2 := [.int .i64 t6_1, v6_1, v6_2]) ti37 rfl rfl rfl rfl rfl (Nat.le_of_ble_eq_true rfl) (lf_cons rfl (lf_cons (sl_leaf hl_v6_1) (lf_cons (sl_leaf hl_v6_2) lf_nil)))) ?_
  rintro _ _ ⟨rfl, rfl⟩
  refine F.nil ?_
  refine Nrm.seq ?_
  refine Tri.seq ?_
  obtain ⟨t10, h10, h⟩ := bind_some h
  refine Tri.reg (l := [0, 1, 2, 3, 4]) rfl ?_
  refine F.q rfl rfl rfl (wanted_none rfl) (r_fieldAddr tf34_1 rfl) ?_
  refine F.q rfl rfl rfl (wanted_none rfl) (r_load ta30 rfl (fun w hw => cell_1 (box_cells (i := 4) rfl w hw) rfl)) ?_
  refine F.m rfl rfl rfl (wanted_none rfl) (m_callF (xs := _) rfl ok45 rfl rfl (fun w hw => laws_toIntS.ok h10 w ((fun _ hw => hr_a0_3.sep hw) w hw))) ?_
  rintro v10_1 _ ⟨_, ⟨S10_1, hl_v10_1, rfl⟩, rfl⟩
  refine F.q rfl rfl rfl (wanted_none rfl) (r_fieldAddr tf39_1 rfl) ?_
  refine F.ef0 rfl rfl (wanted_none rfl) (d_storeG1 (i := 3) (cs2 := [v10_1]) ti30 rfl rfl rfl (sl_cells hl_v10_1) rfl (Nat.le_of_ble_eq_true rfl) (lf_cons (sl_leaf hl_v10_1) lf_nil)) ?_
  rintro _ _ ⟨rfl, rfl⟩
  refine F.nil ?_
  refine Nrm.seq ?_
  refine Tri.seq ?_
  refine Tri.reg (l := [0, 1]) rfl ?_
  refine F.q rfl rfl rfl (wanted_none rfl) (r_loadA ta39 ti39 rfl rfl (fun w hw => (box_cells (i := 3) rfl w hw))) ?_
  refine F.ef0 rfl rfl (wanted_none rfl) (d_storeG0 (i := 4) (cs2 := [.int .i64 t6_1, v6_1, v6_2, v10_1]) ti39 rfl rfl rfl rfl rfl (Nat.le_of_ble_eq_true rfl) (lf_cons rfl (lf_cons (sl_leaf hl_v6_1) (lf_cons (sl_leaf hl_v6_2) (lf_cons (sl_leaf hl_v10_1) lf_nil))))) ?_
  rintro _ _ ⟨rfl, rfl⟩
  refine F.nil ?_
  refine Nrm.seq ?_
  refine Tri.ret ?_
  cases h
  exact Rtn.body (.cell rfl ta39 ti39 rfl (fun _ hw => box_cells (i := 4) rfl _ hw) .nil) (fun w hw => ⟨_, _, rfl, ⟨v6_1, S6_1, v6_2, S6_2, v10_1, S10_1, rfl, hl_v6_1, hl_v6_2, hl_v10_1, rfl⟩, Sep.pick (is := [1, 2, 0]) rfl rfl hw⟩)

end Go.Proofs

/- loop.example/g01158/impl.IsTrap -/
namespace Go.Proofs
open Go Go.Ga
set_option linter.unusedVariables false
set_option maxRecDepth 100000
set_option maxHeartbeats 4000000
def impl_IsTrap.l0 (k : Nat) (a0_1 : List (Int × Int × Int)) (a0_3 : List Int) : Nat → Int → Option ((Unit) ⊕ (Bool))
  | 0, _ => none
  | n + 1, x12 => (if (decide (x12 < (a0_3.length : Int))) = true then (rdl a0_3 x12).bind fun t15 => ((impl_within.f k t15 0 (w64 ((a0_1.length : Int) - 1))).bind fun t23 => (if (!t23) = true then some true else (if (decide (x12 > 0)) = true then (rdl a0_3 (w64 (x12 - 1))).bind fun t34 => some (decide (t15 ≤ t34)) else some false))).bind fun y38 => (if y38 = true then some (Sum.inr false) else impl_IsTrap.l0 k a0_1 a0_3 n (w64 (x12 + 1))) else some (Sum.inl ()))

def impl_IsTrap.f (k : Nat) (a0_0 : Int) (a0_1 : List (Int × Int × Int)) (a0_2 : List Int) (a0_3 : List Int) : Option (Bool) := (impl_IsMaze.f k a0_0 a0_1 a0_2).bind fun t7 => (if (!t7) = true then some false else (impl_IsTrap.l0 k a0_1 a0_3 k 0).bind fun s => Lr s some fun _ => some true)

theorem impl_IsTrap.ok {k : Nat}  {a0_0 : Int} {a0_1 : List (Int × Int × Int)} {a0_2 : List Int} {a0_3 : List Int} {r0 : Bool} (h : impl_IsTrap.f k a0_0 a0_1 a0_2 a0_3 = some r0) (w : World) {va0_1 : Value} {va0_2 : Value} {va0_3 : Value} (hr_a0_1 : Rd w va0_1 a0_1) (hr_a0_2 : Rd w va0_2 a0_2) (hr_a0_3 : Rd w va0_3 a0_3) :
    Calls Try.prog 22 ([.agg ([.int .i64 a0_0, va0_1, va0_2, va0_3].toArray)] : List Value).toArray w (fun e w' => e = .returned (.bool r0) ∧ Ext w w') := by
  unfold impl_IsTrap.f at h
  have hl_va0_1 := hr_a0_1.len
  have hl_va0_2 := hr_a0_2.len
  have hl_va0_3 := hr_a0_3.len
  refine Calls.of_tri (N := 40) Try.func22 rfl rfl rfl (Sep.nil (M := noM)) ?_
  refine Tri.seq ?_
  refine Tri.reg (l := [0, 1]) rfl ?_
  refine F.m rfl rfl rfl (wanted_none rfl) (m_boxG rfl rfl) ?_
  rintro _ _ ⟨b1_1, rfl, rfl⟩
  refine F.q rfl rfl rfl (wanted_none rfl) (r_assign rfl) ?_
  refine F.nil ?_
  refine Nrm.seq ?_
  refine Tri.seq ?_
  refine Tri.seq ?_
  obtain ⟨t7, h7, h⟩ := bind_some h
  refine Tri.reg (l := [0, 1, 2, 3]) rfl ?_
  refine F.q rfl rfl rfl (wanted_none rfl) (r_fieldAddr tf39_0 rfl) ?_
  refine F.q rfl rfl rfl (wanted_none rfl) (r_loadA ta37 ti37 rfl rfl (fun w hw => cells_1 (cs' := [.int .i64 a0_0, va0_1, va0_2]) (box_cells (i := 0) rfl w hw) rfl)) ?_
  refine F.qc rfl rfl rfl (wanted_none rfl) (q_callF (xs := _) rfl ok82 rfl rfl (fun w hw => impl_IsMaze.ok h7 w ((fun _ hw => hr_a0_1.sep hw) w hw) ((fun _ hw => hr_a0_2.sep hw) w hw))) ?_
  refine F.q rfl rfl rfl (wanted_none rfl) (r_not rfl) ?_
  refine F.nil ?_
  refine Nrm.seq ?_
  refine Tri.cond (b := !t7) rfl (fun g_1 => ?_) (fun g_1 => ?_)
  · replace h := if_tt g_1 h
    refine Tri.seq ?_
    refine Tri.reg (l := [0]) rfl ?_
    refine F.q rfl rfl rfl (wanted_none rfl) (r_assign rfl) ?_
    refine F.nil ?_
    refine Nrm.seq ?_
    refine Tri.ret ?_
    refine Rtn.then ?_
    cases h
    exact Rtn.body (.tmp rfl .nil) (fun w hw => ⟨rfl, hw.ext⟩)
  · replace h := if_ff g_1 h
    refine Tri.skip ?_
    refine Nrm.seq ?_
    refine Tri.seq ?_
    refine Tri.seq ?_
    refine Tri.reg (l := [0, 1, 2, 3]) rfl ?_
    refine F.q rfl rfl rfl (wanted_none rfl) (r_fieldAddr tf39_1 rfl) ?_
    refine F.q rfl rfl rfl (wanted_none rfl) (r_load ta30 rfl (fun w hw => cell_1 (box_cells (i := 0) rfl w hw) rfl)) ?_
    refine F.q rfl rfl rfl (wanted_none rfl) (r_len Try.underlying30 rfl hl_va0_3) ?_
    refine F.q rfl rfl rfl (wanted_none rfl) (r_move rfl) ?_
    refine F.nil ?_
    refine Nrm.seq ?_
    obtain ⟨s0, hE_1, h⟩ := bind_some h
    refine Tri.block ?_
    refine Tri.only [1, 10, 11, 12] rfl ?_
    refine Tri.pick [0] rfl rfl ?_
    refine Tri.rounds (fun n e' C' => ∃ (x12' : Int), impl_IsTrap.l0 k a0_1 a0_3 n x12' = some s0 ∧ e' = [(1, .pointer (some ⟨b1_1, 0, none⟩)), (10, va0_3), (11, .int .i64 (a0_3.length : Int)), (12, .int .i64 x12')] ∧ C' = Sep w noM [R.box b1_1 39 [.int .i64 a0_0, va0_1, va0_2, va0_3]]) k ?_ ?_ ?_
    · exact ⟨0, hE_1, rfl, rfl⟩
    · rintro _ _ ⟨_, hE_1, _⟩
      rw [impl_IsTrap.l0.eq_1] at hE_1; cases hE_1
    · rintro n_1 _ _ ⟨x12, hE_1, rfl, rfl⟩ ih_1
      rw [impl_IsTrap.l0.eq_2] at hE_1
      refine Tri.seq ?_
      refine Tri.reg (l := [0]) rfl ?_
      refine F.q rfl rfl rfl (wanted_none rfl) (r_lss rfl rfl) ?_
      refine F.nil ?_
      refine Nrm.seq ?_
      refine Tri.seq ?_
      refine Tri.cond (b := decide (x12 < (a0_3.length : Int))) rfl (fun g_2 => ?_) (fun g_2 => ?_)
      · replace hE_1 := if_tt g_2 hE_1
        refine Tri.skip ?_
        refine Nrm.seq ?_
        refine Tri.seq ?_
        refine Tri.block ?_
        refine Tri.seq ?_
        obtain ⟨t15, h15, hE_1⟩ := bind_some hE_1
        refine Tri.reg (l := [0, 1, 2, 3, 4]) rfl ?_
        refine F.q rfl rfl rfl (wanted_none rfl) (r_move rfl) ?_
        refine F.q rfl rfl rfl (wanted_none rfl) (r_indexAddrS Try.underlying30 ti3 rfl hl_va0_3 rfl (rdl_some h15).1 (rdl_some h15).2.1) ?_
        refine F.q rfl rfl rfl (wanted_none rfl) (r_load ta3 rfl (fun w hw => cell_0 (Rd.flat ((fun _ hw => hr_a0_3.sep hw) w hw) (rdl_some h15).2.2) rfl)) ?_
        refine F.q rfl rfl rfl (wanted_none rfl) (r_assign rfl) ?_
        refine F.q rfl rfl rfl (wanted_none rfl) (r_assign rfl) ?_
        refine F.nil ?_
        refine Nrm.seq ?_
        refine Tri.seq ?_
        obtain ⟨y38, hE_2, hE_1⟩ := bind_some hE_1
        refine Tri.cut (fun e' C' => e' = [(1, .pointer (some ⟨b1_1, 0, none⟩)), (10, va0_3), (11, .int .i64 (a0_3.length : Int)), (12, .int .i64 x12), (38, .bool y38)] ∧ C' = Sep w noM [R.box b1_1 39 [.int .i64 a0_0, va0_1, va0_2, va0_3]]) ?_ (fun hj_1 => ?_)
        · rintro _ _ ⟨rfl, rfl⟩
          refine Nrm.seq ?_
          refine Tri.cond (b := y38) rfl (fun g_3 => ?_) (fun g_3 => ?_)
          · replace hE_1 := if_tt g_3 hE_1
            refine Tri.seq ?_
            refine Tri.reg (l := [0]) rfl ?_
            refine F.q rfl rfl rfl (wanted_none rfl) (r_assign rfl) ?_
            refine F.nil ?_
            refine Nrm.seq ?_
            refine Tri.ret ?_
            refine Rtn.block ?_
            refine Rtn.then ?_
            refine Rtn.then ?_
            refine Rtn.block ?_
            refine Rtn.then ?_
            cases hE_1
            replace h := Lr_inr h
            cases h
            exact Rtn.body (.tmp rfl .nil) (fun w hw => ⟨rfl, hw.ext⟩)
          · replace hE_1 := if_ff g_3 hE_1
            refine Tri.skip ?_
            refine Nrm.block ?_
            refine Nrm.seq ?_
            refine Tri.reg (l := [0, 1]) rfl ?_
            refine F.q rfl rfl rfl (wanted_none rfl) (r_add rfl rfl) ?_
            refine F.q rfl rfl rfl (wanted_none rfl) (r_move rfl) ?_
            refine F.nil ?_
            refine Nrm.round ?_
            refine Rnd.only [1, 10, 11, 12] rfl ?_
            refine Rnd.pick [0] rfl rfl ?_
            exact ih_1 _ _ ⟨w64 (x12 + 1), hE_1, rfl, rfl⟩
        · obtain ⟨t23, h23, hE_2⟩ := bind_some hE_2
          rcases Bool.eq_false_or_eq_true (!t23) with g25 | g25
          · replace hE_2 := if_tt g25 hE_2
            refine Tri.reg (l := [0, 1, 2, 3, 4, 5, 6, 7, 8, 9, 10, 11, 12, 13, 14, 15, 16, 17, 18, 19, 20, 21]) rfl ?_
            refine F.q rfl rfl rfl (wanted_none rfl) (r_move rfl) ?_
            refine F.q rfl rfl rfl (wanted_none rfl) (r_fieldAddr tf39_0 rfl) ?_
            refine F.q rfl rfl rfl (wanted_none rfl) (r_fieldAddr tf37_1 rfl) ?_
            refine F.q rfl rfl rfl (wanted_none rfl) (r_load ta29 rfl (fun w hw => cell_2 (box_cells (i := 0) rfl w hw) rfl)) ?_
            refine F.q rfl rfl rfl (wanted_none rfl) (r_len Try.underlying29 rfl hl_va0_1) ?_
            refine F.q rfl rfl rfl (wanted_none rfl) (r_sub rfl rfl) ?_
            refine F.qc rfl rfl rfl (wanted_none rfl) (q_callF (xs := _) rfl ok83 rfl rfl (fun w hw => impl_within.ok h23 w )) ?_
            refine F.q rfl rfl rfl (wanted_none rfl) (r_not rfl) ?_
            refine F.q rfl rfl rfl (wanted_none rfl) (r_move rfl) ?_
            refine F.sk rfl rfl rfl (wf rfl rfl rfl g25) ?_
            refine F.sk rfl rfl rfl (wf rfl rfl rfl g25) ?_
            refine F.sk rfl rfl rfl (wf rfl rfl rfl g25) ?_
            refine F.sk rfl rfl rfl (wanted_undef rfl rfl rfl) ?_
            refine F.sk rfl rfl rfl (wanted_undef rfl rfl rfl) ?_
            refine F.sk rfl rfl rfl (wanted_undef rfl rfl rfl) ?_
            refine F.sk rfl rfl rfl (wanted_undef rfl rfl rfl) ?_
            refine F.sk rfl rfl rfl (wanted_undef rfl rfl rfl) ?_
            refine F.sk rfl rfl rfl (wanted_undef rfl rfl rfl) ?_
            refine F.sk rfl rfl rfl (wanted_undef rfl rfl rfl) ?_
            refine F.sk rfl rfl rfl (wanted_undef rfl rfl rfl) ?_
            refine F.sk rfl rfl rfl (wf rfl rfl rfl g25) ?_
            refine F.q rfl rfl rfl (wanted_none rfl) (r_pick rfl rfl g25) ?_
            refine F.nil ?_
            cases hE_2
            refine Nrm.only [1, 10, 11, 12, 38] rfl ?_
            refine Nrm.pick [0] rfl rfl ?_
            exact hj_1 _ _ ⟨rfl, rfl⟩
          · replace hE_2 := if_ff g25 hE_2
            rcases Bool.eq_false_or_eq_true (decide (x12 > 0)) with g28 | g28
            · replace hE_2 := if_tt g28 hE_2
              obtain ⟨t34, h34, hE_2⟩ := bind_some hE_2
              refine Tri.reg (l := [0, 1, 2, 3, 4, 5, 6, 7, 8, 9, 10, 11, 12, 13, 14, 15, 16, 17, 18, 19, 20, 21]) rfl ?_
              refine F.q rfl rfl rfl (wanted_none rfl) (r_move rfl) ?_
              refine F.q rfl rfl rfl (wanted_none rfl) (r_fieldAddr tf39_0 rfl) ?_
              refine F.q rfl rfl rfl (wanted_none rfl) (r_fieldAddr tf37_1 rfl) ?_
              refine F.q rfl rfl rfl (wanted_none rfl) (r_load ta29 rfl (fun w hw => cell_2 (box_cells (i := 0) rfl w hw) rfl)) ?_
              refine F.q rfl rfl rfl (wanted_none rfl) (r_len Try.underlying29 rfl hl_va0_1) ?_
              refine F.q rfl rfl rfl (wanted_none rfl) (r_sub rfl rfl) ?_
              refine F.qc rfl rfl rfl (wanted_none rfl) (q_callF (xs := _) rfl ok83 rfl rfl (fun w hw => impl_within.ok h23 w )) ?_
              refine F.q rfl rfl rfl (wanted_none rfl) (r_not rfl) ?_
              refine F.q rfl rfl rfl (wanted_none rfl) (r_move rfl) ?_
              refine F.q rfl rfl rfl (wg rfl rfl rfl g25) (r_move rfl) ?_
              refine F.q rfl rfl rfl (wg rfl rfl rfl g25) (r_gtr rfl rfl) ?_
              refine F.q rfl rfl rfl (wg rfl rfl rfl g25) (r_move rfl) ?_
              refine F.q rfl rfl rfl (wg rfl rfl rfl g28) (r_move rfl) ?_
              refine F.q rfl rfl rfl (wg rfl rfl rfl g28) (r_fieldAddr tf39_1 rfl) ?_
              refine F.q rfl rfl rfl (wg rfl rfl rfl g28) (r_load ta30 rfl (fun w hw => cell_1 (box_cells (i := 0) rfl w hw) rfl)) ?_
              refine F.q rfl rfl rfl (wg rfl rfl rfl g28) (r_move rfl) ?_
              refine F.q rfl rfl rfl (wg rfl rfl rfl g28) (r_sub rfl rfl) ?_
              refine F.q rfl rfl rfl (wg rfl rfl rfl g28) (r_indexAddrS Try.underlying30 ti3 rfl hl_va0_3 rfl (rdl_some h34).1 (rdl_some h34).2.1) ?_
              refine F.q rfl rfl rfl (wg rfl rfl rfl g28) (r_load ta3 rfl (fun w hw => cell_0 (Rd.flat ((fun _ hw => hr_a0_3.sep hw) w hw) (rdl_some h34).2.2) rfl)) ?_
              refine F.q rfl rfl rfl (wg rfl rfl rfl g28) (r_leq rfl rfl) ?_
              refine F.q rfl rfl rfl (wg rfl rfl rfl g25) (r_pick rfl rfl g28) ?_
              refine F.q rfl rfl rfl (wanted_none rfl) (r_pickf rfl rfl g25) ?_
              refine F.nil ?_
              cases hE_2
              refine Nrm.only [1, 10, 11, 12, 38] rfl ?_
              refine Nrm.pick [0] rfl rfl ?_
              exact hj_1 _ _ ⟨rfl, rfl⟩
            · replace hE_2 := if_ff g28 hE_2
              refine Tri.reg (l := [0, 1, 2, 3, 4, 5, 6, 7, 8, 9, 10, 11, 12, 13, 14, 15, 16, 17, 18, 19, 20, 21]) rfl ?_
              refine F.q rfl rfl rfl (wanted_none rfl) (r_move rfl) ?_
              refine F.q rfl rfl rfl (wanted_none rfl) (r_fieldAddr tf39_0 rfl) ?_
              refine F.q rfl rfl rfl (wanted_none rfl) (r_fieldAddr tf37_1 rfl) ?_
              refine F.q rfl rfl rfl (wanted_none rfl) (r_load ta29 rfl (fun w hw => cell_2 (box_cells (i := 0) rfl w hw) rfl)) ?_
              refine F.q rfl rfl rfl (wanted_none rfl) (r_len Try.underlying29 rfl hl_va0_1) ?_
              refine F.q rfl rfl rfl (wanted_none rfl) (r_sub rfl rfl) ?_
              refine F.qc rfl rfl rfl (wanted_none rfl) (q_callF (xs := _) rfl ok83 rfl rfl (fun w hw => impl_within.ok h23 w )) ?_
              refine F.q rfl rfl rfl (wanted_none rfl) (r_not rfl) ?_
              refine F.q rfl rfl rfl (wanted_none rfl) (r_move rfl) ?_
              refine F.q rfl rfl rfl (wg rfl rfl rfl g25) (r_move rfl) ?_
              refine F.q rfl rfl rfl (wg rfl rfl rfl g25) (r_gtr rfl rfl) ?_
              refine F.q rfl rfl rfl (wg rfl rfl rfl g25) (r_move rfl) ?_
              refine F.sk rfl rfl rfl (wf rfl rfl rfl g28) ?_
              refine F.sk rfl rfl rfl (wf rfl rfl rfl g28) ?_
              refine F.sk rfl rfl rfl (wf rfl rfl rfl g28) ?_
              refine F.sk rfl rfl rfl (wf rfl rfl rfl g28) ?_
              refine F.sk rfl rfl rfl (wf rfl rfl rfl g28) ?_
              refine F.sk rfl rfl rfl (wf rfl rfl rfl g28) ?_
              refine F.sk rfl rfl rfl (wf rfl rfl rfl g28) ?_
              refine F.sk rfl rfl rfl (wf rfl rfl rfl g28) ?_
              refine F.q rfl rfl rfl (wg rfl rfl rfl g25) (r_pickf rfl rfl g28) ?_
              refine F.q rfl rfl rfl (wanted_none rfl) (r_pickf rfl rfl g25) ?_
              refine F.nil ?_
              cases hE_2
              refine Nrm.only [1, 10, 11, 12, 38] rfl ?_
              refine Nrm.pick [0] rfl rfl ?_
              exact hj_1 _ _ ⟨rfl, rfl⟩
      · replace hE_1 := if_ff g_2 hE_1
        refine Tri.exit ?_
        refine Exi.then ?_
        refine Exi.then ?_
        refine Exi.same ?_
        cases hE_1
        replace h := Lr_inl h
        refine Nrm.seq ?_
        refine Tri.seq ?_
        refine Tri.reg (l := [0]) rfl ?_
        refine F.q rfl rfl rfl (wanted_none rfl) (r_assign rfl) ?_
        refine F.nil ?_
        refine Nrm.seq ?_
        refine Tri.ret ?_
        cases h
        exact Rtn.body (.tmp rfl .nil) (fun w hw => ⟨rfl, hw.ext⟩)

end Go.Proofs

/- loop.example/g01158/laws.eqTrap -/
namespace Go.Proofs
open Go Go.Ga
set_option linter.unusedVariables false
set_option maxRecDepth 100000
set_option maxHeartbeats 4000000
def laws_eqTrap.f (k : Nat) (a0_0 : Int) (a0_1 : List (Int × Int × Int)) (a0_2 : List Int) (a0_3 : List Int) (a1_0 : Int) (a1_1 : List (Int × Int × Int)) (a1_2 : List Int) (a1_3 : List Int) : Option (Bool) := (laws_eqMaze.f k a0_0 a0_1 a0_2 a1_0 a1_1 a1_2).bind fun t9 => (if (!t9) = true then some false else (laws_eqIntS.f k a0_3 a1_3).bind fun t15 => (if (!t15) = true then some false else some true))

theorem laws_eqTrap.ok {k : Nat}  {a0_0 : Int} {a0_1 : List (Int × Int × Int)} {a0_2 : List Int} {a0_3 : List Int} {a1_0 : Int} {a1_1 : List (Int × Int × Int)} {a1_2 : List Int} {a1_3 : List Int} {r0 : Bool} (h : laws_eqTrap.f k a0_0 a0_1 a0_2 a0_3 a1_0 a1_1 a1_2 a1_3 = some r0) (w : World) {va0_1 : Value} {va0_2 : Value} {va0_3 : Value} {va1_1 : Value} {va1_2 : Value} {va1_3 : Value} (hr_a0_1 : Rd w va0_1 a0_1) (hr_a0_2 : Rd w va0_2 a0_2) (hr_a0_3 : Rd w va0_3 a0_3) (hr_a1_1 : Rd w va1_1 a1_1) (hr_a1_2 : Rd w va1_2 a1_2) (hr_a1_3 : Rd w va1_3 a1_3) :
    Calls Try.prog 23 ([.agg ([.int .i64 a0_0, va0_1, va0_2, va0_3].toArray), .agg ([.int .i64 a1_0, va1_1, va1_2, va1_3].toArray)] : List Value).toArray w (fun e w' => e = .returned (.bool r0) ∧ Ext w w') := by
  unfold laws_eqTrap.f at h
  have hl_va0_1 := hr_a0_1.len
  have hl_va0_2 := hr_a0_2.len
  have hl_va0_3 := hr_a0_3.len
  have hl_va1_1 := hr_a1_1.len
  have hl_va1_2 := hr_a1_2.len
  have hl_va1_3 := hr_a1_3.len
  refine Calls.of_tri (N := 17) Try.func23 rfl rfl rfl (Sep.nil (M := noM)) ?_
  refine Tri.seq ?_
  refine Tri.reg (l := [0, 1, 2]) rfl ?_
  refine F.m rfl rfl rfl (wanted_none rfl) (m_boxG rfl rfl) ?_
  rintro _ _ ⟨b2_1, rfl, rfl⟩
  refine F.m rfl rfl rfl (wanted_none rfl) (m_boxG rfl rfl) ?_
  rintro _ _ ⟨b3_1, rfl, rfl⟩
  refine F.q rfl rfl rfl (wanted_none rfl) (r_assign rfl) ?_
  refine F.nil ?_
  refine Nrm.seq ?_
  refine Tri.seq ?_
  refine Tri.seq ?_
  obtain ⟨t9, h9, h⟩ := bind_some h
  refine Tri.reg (l := [0, 1, 2, 3, 4, 5]) rfl ?_
  refine F.q rfl rfl rfl (wanted_none rfl) (r_fieldAddr tf39_0 rfl) ?_
  refine F.q rfl rfl rfl (wanted_none rfl) (r_loadA ta37 ti37 rfl rfl (fun w hw => cells_1 (cs' := [.int .i64 a0_0, va0_1, va0_2]) (box_cells (i := 1) rfl w hw) rfl)) ?_
  refine F.q rfl rfl rfl (wanted_none rfl) (r_fieldAddr tf39_0 rfl) ?_
  refine F.q rfl rfl rfl (wanted_none rfl) (r_loadA ta37 ti37 rfl rfl (fun w hw => cells_1 (cs' := [.int .i64 a1_0, va1_1, va1_2]) (box_cells (i := 0) rfl w hw) rfl)) ?_
  refine F.qc rfl rfl rfl (wanted_none rfl) (q_callF (xs := _) rfl ok33 rfl rfl (fun w hw => laws_eqMaze.ok h9 w ((fun _ hw => hr_a0_1.sep hw) w hw) ((fun _ hw => hr_a0_2.sep hw) w hw) ((fun _ hw => hr_a1_1.sep hw) w hw) ((fun _ hw => hr_a1_2.sep hw) w hw))) ?_
  refine F.q rfl rfl rfl (wanted_none rfl) (r_not rfl) ?_
  refine F.nil ?_
  refine Nrm.seq ?_
  refine Tri.cond (b := !t9) rfl (fun g_1 => ?_) (fun g_1 => ?_)
  · replace h := if_tt g_1 h
    refine Tri.seq ?_
    refine Tri.reg (l := [0]) rfl ?_
    refine F.q rfl rfl rfl (wanted_none rfl) (r_assign rfl) ?_
    refine F.nil ?_
    refine Nrm.seq ?_
    refine Tri.ret ?_
    refine Rtn.then ?_
    cases h
    exact Rtn.body (.tmp rfl .nil) (fun w hw => ⟨rfl, hw.ext⟩)
  · replace h := if_ff g_1 h
    refine Tri.skip ?_
    refine Nrm.seq ?_
    refine Tri.seq ?_
    refine Tri.seq ?_
    obtain ⟨t15, h15, h⟩ := bind_some h
    refine Tri.reg (l := [0, 1, 2, 3, 4, 5]) rfl ?_
    refine F.q rfl rfl rfl (wanted_none rfl) (r_fieldAddr tf39_1 rfl) ?_
    refine F.q rfl rfl rfl (wanted_none rfl) (r_load ta30 rfl (fun w hw => cell_1 (box_cells (i := 1) rfl w hw) rfl)) ?_
    refine F.q rfl rfl rfl (wanted_none rfl) (r_fieldAddr tf39_1 rfl) ?_
    refine F.q rfl rfl rfl (wanted_none rfl) (r_load ta30 rfl (fun w hw => cell_1 (box_cells (i := 0) rfl w hw) rfl)) ?_
    refine F.qc rfl rfl rfl (wanted_none rfl) (q_callF (xs := _) rfl ok47 rfl rfl (fun w hw => laws_eqIntS.ok h15 w ((fun _ hw => hr_a0_3.sep hw) w hw) ((fun _ hw => hr_a1_3.sep hw) w hw))) ?_
    refine F.q rfl rfl rfl (wanted_none rfl) (r_not rfl) ?_
    refine F.nil ?_
    refine Nrm.seq ?_
    refine Tri.cond (b := !t15) rfl (fun g_2 => ?_) (fun g_2 => ?_)
    · replace h := if_tt g_2 h
      refine Tri.seq ?_
      refine Tri.reg (l := [0]) rfl ?_
      refine F.q rfl rfl rfl (wanted_none rfl) (r_assign rfl) ?_
      refine F.nil ?_
      refine Nrm.seq ?_
      refine Tri.ret ?_
      refine Rtn.then ?_
      cases h
      exact Rtn.body (.tmp rfl .nil) (fun w hw => ⟨rfl, hw.ext⟩)
    · replace h := if_ff g_2 h
      refine Tri.skip ?_
      refine Nrm.seq ?_
      refine Tri.seq ?_
      refine Tri.reg (l := [0]) rfl ?_
      refine F.q rfl rfl rfl (wanted_none rfl) (r_assign rfl) ?_
      refine F.nil ?_
      refine Nrm.seq ?_
      refine Tri.ret ?_
      cases h
      exact Rtn.body (.tmp rfl .nil) (fun w hw => ⟨rfl, hw.ext⟩)

end Go.Proofs

/- loop.example/g01158/laws.FnExactIsTrap -/
namespace Go.Proofs
open Go Go.Ga
set_option linter.unusedVariables false
set_option maxRecDepth 100000
set_option maxHeartbeats 4000000
def laws_FnExactIsTrap.f (k : Nat) (a0_0 : Int) (a0_1 : List (Int × Int × Int)) (a0_2 : List Int) (a0_3 : List Int) : Option (Bool) := (laws_szTrap.f k a0_0 a0_1 a0_2 a0_3 1048576).bind fun t9 => (if (decide (t9 < 0)) = true then some true else (laws_toTrap.f k a0_0 a0_1 a0_2 a0_3).bind fun (t13_1, t13_2, t13_3, t13_4) => (spec_IsTrap.f k t13_1 t13_2 t13_3 t13_4).bind fun t14 => (laws_toTrap.f k a0_0 a0_1 a0_2 a0_3).bind fun (t16_1, t16_2, t16_3, t16_4) => (impl_IsTrap.f k t16_1 t16_2 t16_3 t16_4).bind fun t18 => (if (t18 != t14) = true then some false else (laws_toTrap.f k a0_0 a0_1 a0_2 a0_3).bind fun (t24_1, t24_2, t24_3, t24_4) => (laws_eqTrap.f k t16_1 t16_2 t16_3 t16_4 t24_1 t24_2 t24_3 t24_4).bind fun t25 => (if (!t25) = true then some false else some true)))

theorem laws_FnExactIsTrap.ok {k : Nat}  {a0_0 : Int} {a0_1 : List (Int × Int × Int)} {a0_2 : List Int} {a0_3 : List Int} {r0 : Bool} (h : laws_FnExactIsTrap.f k a0_0 a0_1 a0_2 a0_3 = some r0) (w : World) {va0_1 : Value} {va0_2 : Value} {va0_3 : Value} (hr_a0_1 : Rd w va0_1 a0_1) (hr_a0_2 : Rd w va0_2 a0_2) (hr_a0_3 : Rd w va0_3 a0_3) :
    Calls Try.prog 4 ([.agg ([.int .i64 a0_0, va0_1, va0_2, va0_3].toArray)] : List Value).toArray w (fun e w' => e = .returned (.bool r0) ∧ Ext w w') := by
  unfold laws_FnExactIsTrap.f at h
  have hl_va0_1 := hr_a0_1.len
  have hl_va0_2 := hr_a0_2.len
  have hl_va0_3 := hr_a0_3.len
  refine Calls.of_tri (N := 27) Try.func4 rfl rfl rfl (Sep.nil (M := noM)) ?_
  refine Tri.seq ?_
  refine Tri.reg (l := [0, 1]) rfl ?_
  refine F.m rfl rfl rfl (wanted_none rfl) (m_boxG rfl rfl) ?_
  rintro _ _ ⟨b1_1, rfl, rfl⟩
  refine F.q rfl rfl rfl (wanted_none rfl) (r_assign rfl) ?_
  refine F.nil ?_
  refine Nrm.seq ?_
  refine Tri.seq ?_
  refine Tri.reg (l := [0]) rfl ?_
  refine F.q rfl rfl rfl (wanted_none rfl) (r_assign rfl) ?_
  refine F.nil ?_
  refine Nrm.seq ?_
  refine Tri.seq ?_
  obtain ⟨t9, h9, h⟩ := bind_some h
  refine Tri.reg (l := [0, 1, 2, 3]) rfl ?_
  refine F.q rfl rfl rfl (wanted_none rfl) (r_loadA ta34 ti34 rfl rfl (fun w hw => (box_cells (i := 0) rfl w hw))) ?_
  refine F.q rfl rfl rfl (wanted_none rfl) (r_move rfl) ?_
  refine F.qc rfl rfl rfl (wanted_none rfl) (q_callF (xs := _) rfl ok19 rfl rfl (fun w hw => laws_szTrap.ok h9 w ((fun _ hw => hr_a0_1.sep hw) w hw) ((fun _ hw => hr_a0_2.sep hw) w hw) ((fun _ hw => hr_a0_3.sep hw) w hw))) ?_
  refine F.q rfl rfl rfl (wanted_none rfl) (r_assign rfl) ?_
  refine F.nil ?_
  refine Nrm.seq ?_
  refine Tri.seq ?_
  refine Tri.seq ?_
  refine Tri.reg (l := [0, 1]) rfl ?_
  refine F.q rfl rfl rfl (wanted_none rfl) (r_move rfl) ?_
  refine F.q rfl rfl rfl (wanted_none rfl) (r_lss rfl rfl) ?_
  refine F.nil ?_
  refine Nrm.seq ?_
  refine Tri.cond (b := decide (t9 < 0)) rfl (fun g_1 => ?_) (fun g_1 => ?_)
  · replace h := if_tt g_1 h
    refine Tri.seq ?_
    refine Tri.reg (l := [0]) rfl ?_
    refine F.q rfl rfl rfl (wanted_none rfl) (r_assign rfl) ?_
    refine F.nil ?_
    refine Nrm.seq ?_
    refine Tri.ret ?_
    refine Rtn.then ?_
    cases h
    exact Rtn.body (.tmp rfl .nil) (fun w hw => ⟨rfl, hw.ext⟩)
  · replace h := if_ff g_1 h
    refine Tri.skip ?_
    refine Nrm.seq ?_
    refine Tri.seq ?_
    obtain ⟨⟨t13_1, t13_2, t13_3, t13_4⟩, h13, h⟩ := bind_some h
    obtain ⟨t14, h14, h⟩ := bind_some h
    refine Tri.reg (l := [0, 1, 2, 3]) rfl ?_
    refine F.q rfl rfl rfl (wanted_none rfl) (r_loadA ta34 ti34 rfl rfl (fun w hw => (box_cells (i := 0) rfl w hw))) ?_
    refine F.m rfl rfl rfl (wanted_none rfl) (m_callF (xs := _) rfl ok21 rfl rfl (fun w hw => laws_toTrap.ok h13 w ((fun _ hw => hr_a0_1.sep hw) w hw) ((fun _ hw => hr_a0_2.sep hw) w hw) ((fun _ hw => hr_a0_3.sep hw) w hw))) ?_
    rintro _ _ ⟨_, ⟨v13_1, S13_1, v13_2, S13_2, v13_3, S13_3, rfl, hl_v13_1, hl_v13_2, hl_v13_3, rfl⟩, rfl⟩
    refine F.qc rfl rfl rfl (wanted_none rfl) (q_callF (xs := _) rfl ok20 rfl rfl (fun w hw => spec_IsTrap.ok h14 w ((rd_sl (i := 0) rfl) w hw) ((rd_sl (i := 1) rfl) w hw) ((rd_sl (i := 2) rfl) w hw))) ?_
    refine F.q rfl rfl rfl (wanted_none rfl) (r_assign rfl) ?_
    refine F.nil ?_
    refine Nrm.seq ?_
    refine Tri.seq ?_
    obtain ⟨⟨t16_1, t16_2, t16_3, t16_4⟩, h16, h⟩ := bind_some h
    refine Tri.reg (l := [0, 1, 2, 3]) rfl ?_
    refine F.q rfl rfl rfl (wanted_none rfl) (r_loadA ta34 ti34 rfl rfl (fun w hw => (box_cells (i := 3) rfl w hw))) ?_
    refine F.m rfl rfl rfl (wanted_none rfl) (m_callF (xs := _) rfl ok21 rfl rfl (fun w hw => laws_toTrap.ok h16 w ((fun _ hw => hr_a0_1.sep hw) w hw) ((fun _ hw => hr_a0_2.sep hw) w hw) ((fun _ hw => hr_a0_3.sep hw) w hw))) ?_
    rintro _ _ ⟨_, ⟨v16_1, S16_1, v16_2, S16_2, v16_3, S16_3, rfl, hl_v16_1, hl_v16_2, hl_v16_3, rfl⟩, rfl⟩
    refine F.m rfl rfl rfl (wanted_none rfl) (m_alloc ti39) ?_
    rintro _ _ ⟨b5_1, rfl, rfl⟩
    refine F.ef0 rfl rfl (wanted_none rfl) (d_storeG0 (i := 0) (cs2 := [.int .i64 t16_1, v16_1, v16_2, v16_3]) ti39 rfl rfl rfl rfl rfl (Nat.le_of_ble_eq_true rfl) (lf_cons rfl (lf_cons (sl_leaf hl_v16_1) (lf_cons (sl_leaf hl_v16_2) (lf_cons (sl_leaf hl_v16_3) lf_nil))))) ?_
    rintro _ _ ⟨rfl, rfl⟩
    refine F.nil ?_
    refine Nrm.seq ?_
    refine Tri.seq ?_
    obtain ⟨t18, h18, h⟩ := bind_some h
    refine Tri.reg (l := [0, 1, 2]) rfl ?_
    refine F.q rfl rfl rfl (wanted_none rfl) (r_loadA ta39 ti39 rfl rfl (fun w hw => (box_cells (i := 0) rfl w hw))) ?_
    refine F.qc rfl rfl rfl (wanted_none rfl) (q_callF (xs := _) rfl ok22 rfl rfl (fun w hw => impl_IsTrap.ok h18 w ((rd_sl (i := 1) rfl) w hw) ((rd_sl (i := 2) rfl) w hw) ((rd_sl (i := 3) rfl) w hw))) ?_
    refine F.q rfl rfl rfl (wanted_none rfl) (r_assign rfl) ?_
    refine F.nil ?_
    refine Nrm.seq ?_
    refine Tri.seq ?_
    refine Tri.seq ?_
    refine Tri.reg (l := [0, 1, 2]) rfl ?_
    refine F.q rfl rfl rfl (wanted_none rfl) (r_move rfl) ?_
    refine F.q rfl rfl rfl (wanted_none rfl) (r_move rfl) ?_
    refine F.q rfl rfl rfl (wanted_none rfl) (r_neqB Try.underlying4 rfl rfl) ?_
    refine F.nil ?_
    refine Nrm.seq ?_
    refine Tri.cond (b := t18 != t14) rfl (fun g_2 => ?_) (fun g_2 => ?_)
    · replace h := if_tt g_2 h
      refine Tri.seq ?_
      refine Tri.reg (l := [0]) rfl ?_
      refine F.q rfl rfl rfl (wanted_none rfl) (r_assign rfl) ?_
      refine F.nil ?_
      refine Nrm.seq ?_
      refine Tri.ret ?_
      refine Rtn.then ?_
      cases h
      exact Rtn.body (.tmp rfl .nil) (fun w hw => ⟨rfl, hw.ext⟩)
    · replace h := if_ff g_2 h
      refine Tri.skip ?_
      refine Nrm.seq ?_
      refine Tri.seq ?_
      refine Tri.seq ?_
      obtain ⟨⟨t24_1, t24_2, t24_3, t24_4⟩, h24, h⟩ := bind_some h
      obtain ⟨t25, h25, h⟩ := bind_some h
      refine Tri.drawA mixedT Sep.up [(0, true), (1, true), (2, false), (3, true), (4, true)] [] (by kernel_rfl) ?_
      refine S.q rfl rfl rfl (wanted_none rfl) (r_loadA ta39 ti39 rfl rfl (fun w hw => (box_cells (i := 0) rfl w hw))) ?_
      refine S.q rfl rfl rfl (wanted_none rfl) (r_loadA ta34 ti34 rfl rfl (fun w hw => (box_cells (i := 7) rfl w hw))) ?_
      refine S.m rfl rfl rfl (wanted_none rfl) (m_callF (xs := _) rfl ok21 rfl rfl (fun w hw => laws_toTrap.ok h24 w ((fun _ hw => hr_a0_1.sep hw) w hw) ((fun _ hw => hr_a0_2.sep hw) w hw) ((fun _ hw => hr_a0_3.sep hw) w hw))) ?_
      rintro _ _ ⟨_, ⟨v24_4, S24_4, v24_5, S24_5, v24_6, S24_6, rfl, hl_v24_4, hl_v24_5, hl_v24_6, rfl⟩, rfl⟩
      refine S.qc rfl rfl rfl (wanted_none rfl) (q_callF (xs := _) rfl ok23 rfl rfl (fun w hw => laws_eqTrap.ok h25 w ((rd_sl (i := 4) rfl) w hw) ((rd_sl (i := 5) rfl) w hw) ((rd_sl (i := 6) rfl) w hw) ((rd_sl (i := 0) rfl) w hw) ((rd_sl (i := 1) rfl) w hw) ((rd_sl (i := 2) rfl) w hw))) ?_
      refine S.q rfl rfl rfl (wanted_none rfl) (r_not rfl) ?_
      refine S.nil ?_
      refine F.nil ?_
      refine Nrm.seq ?_
      refine Tri.cond (b := !t25) rfl (fun g_3 => ?_) (fun g_3 => ?_)
      · replace h := if_tt g_3 h
        refine Tri.seq ?_
        refine Tri.reg (l := [0]) rfl ?_
        refine F.q rfl rfl rfl (wanted_none rfl) (r_assign rfl) ?_
        refine F.nil ?_
        refine Nrm.seq ?_
        refine Tri.ret ?_
        refine Rtn.then ?_
        cases h
        exact Rtn.body (.tmp rfl .nil) (fun w hw => ⟨rfl, hw.ext⟩)
      · replace h := if_ff g_3 h
        refine Tri.skip ?_
        refine Nrm.seq ?_
        refine Tri.seq ?_
        refine Tri.reg (l := [0]) rfl ?_
        refine F.q rfl rfl rfl (wanted_none rfl) (r_assign rfl) ?_
        refine F.nil ?_
        refine Nrm.seq ?_
        refine Tri.ret ?_
        cases h
        exact Rtn.body (.tmp rfl .nil) (fun w hw => ⟨rfl, hw.ext⟩)

end Go.Proofs

/- loop.example/g01158/spec.IsVisit -/
namespace Go.Proofs
open Go Go.Ga
set_option linter.unusedVariables false
set_option maxRecDepth 100000
set_option maxHeartbeats 4000000
def spec_IsVisit.f (k : Nat) (a0_0 : Int) (a0_1 : List (Int × Int × Int)) (a0_2 : List Int) (a0_3 : List Int) (a0_4 : Int) : Option (Bool) := (spec_l12Good.f k a0_0 a0_1 a0_2 a0_3 a0_4).bind fun t4 => some t4

theorem spec_IsVisit.ok {k : Nat}  {a0_0 : Int} {a0_1 : List (Int × Int × Int)} {a0_2 : List Int} {a0_3 : List Int} {a0_4 : Int} {r0 : Bool} (h : spec_IsVisit.f k a0_0 a0_1 a0_2 a0_3 a0_4 = some r0) (w : World) {va0_1 : Value} {va0_2 : Value} {va0_3 : Value} (hr_a0_1 : Rd w va0_1 a0_1) (hr_a0_2 : Rd w va0_2 a0_2) (hr_a0_3 : Rd w va0_3 a0_3) :
    Calls Try.prog 25 ([.agg ([.int .i64 a0_0, va0_1, va0_2, va0_3, .int .i64 a0_4].toArray)] : List Value).toArray w (fun e w' => e = .returned (.bool r0) ∧ Ext w w') := by
  unfold spec_IsVisit.f at h
  have hl_va0_1 := hr_a0_1.len
  have hl_va0_2 := hr_a0_2.len
  have hl_va0_3 := hr_a0_3.len
  refine Calls.of_tri (N := 5) Try.func25 rfl rfl rfl (Sep.nil (M := noM)) ?_
  refine Tri.seq ?_
  refine Tri.reg (l := [0, 1]) rfl ?_
  refine F.m rfl rfl rfl (wanted_none rfl) (m_boxG rfl rfl) ?_
  rintro _ _ ⟨b1_1, rfl, rfl⟩
  refine F.q rfl rfl rfl (wanted_none rfl) (r_assign rfl) ?_
  refine F.nil ?_
  refine Nrm.seq ?_
  refine Tri.seq ?_
  obtain ⟨t4, h4, h⟩ := bind_some h
  refine Tri.reg (l := [0, 1, 2]) rfl ?_
  refine F.q rfl rfl rfl (wanted_none rfl) (r_loadA ta48 ti48 rfl rfl (fun w hw => (box_cells (i := 0) rfl w hw))) ?_
  refine F.qc rfl rfl rfl (wanted_none rfl) (q_callF (xs := _) rfl ok84 rfl rfl (fun w hw => spec_l12Good.ok h4 w ((fun _ hw => hr_a0_1.sep hw) w hw) ((fun _ hw => hr_a0_2.sep hw) w hw) ((fun _ hw => hr_a0_3.sep hw) w hw))) ?_
  refine F.q rfl rfl rfl (wanted_none rfl) (r_assign rfl) ?_
  refine F.nil ?_
  refine Nrm.seq ?_
  refine Tri.ret ?_
  cases h
  exact Rtn.body (.tmp rfl .nil) (fun w hw => ⟨rfl, hw.ext⟩)

end Go.Proofs

/- loop.example/g01158/laws.FnExactIsVisit -/
namespace Go.Proofs
open Go Go.Ga
set_option linter.unusedVariables false
set_option maxRecDepth 100000
set_option maxHeartbeats 4000000
def laws_FnExactIsVisit.f (k : Nat) (a0_0 : Int) (a0_1 : List (Int × Int × Int)) (a0_2 : List Int) (a0_3 : List Int) (a0_4 : Int) : Option (Bool) := (laws_szVisit.f k a0_0 a0_1 a0_2 a0_3 a0_4 1048576).bind fun t9 => (if (decide (t9 < 0)) = true then some true else (laws_toVisit.f k a0_0 a0_1 a0_2 a0_3 a0_4).bind fun (t13_1, t13_2, t13_3, t13_4, t13_5) => (spec_IsVisit.f k t13_1 t13_2 t13_3 t13_4 t13_5).bind fun t14 => (laws_toVisit.f k a0_0 a0_1 a0_2 a0_3 a0_4).bind fun (t16_1, t16_2, t16_3, t16_4, t16_5) => (impl_IsVisit.f k t16_1 t16_2 t16_3 t16_4 t16_5).bind fun t18 => (if (t18 != t14) = true then some false else (laws_toVisit.f k a0_0 a0_1 a0_2 a0_3 a0_4).bind fun (t24_1, t24_2, t24_3, t24_4, t24_5) => (laws_eqVisit.f k t16_1 t16_2 t16_3 t16_4 t16_5 t24_1 t24_2 t24_3 t24_4 t24_5).bind fun t25 => (if (!t25) = true then some false else some true)))

theorem laws_FnExactIsVisit.ok {k : Nat}  {a0_0 : Int} {a0_1 : List (Int × Int × Int)} {a0_2 : List Int} {a0_3 : List Int} {a0_4 : Int} {r0 : Bool} (h : laws_FnExactIsVisit.f k a0_0 a0_1 a0_2 a0_3 a0_4 = some r0) (w : World) {va0_1 : Value} {va0_2 : Value} {va0_3 : Value} (hr_a0_1 : Rd w va0_1 a0_1) (hr_a0_2 : Rd w va0_2 a0_2) (hr_a0_3 : Rd w va0_3 a0_3) :
    Calls Try.prog 5 ([.agg ([.int .i64 a0_0, va0_1, va0_2, va0_3, .int .i64 a0_4].toArray)] : List Value).toArray w (fun e w' => e = .returned (.bool r0) ∧ Ext w w') := by
  unfold laws_FnExactIsVisit.f at h
  have hl_va0_1 := hr_a0_1.len
  have hl_va0_2 := hr_a0_2.len
  have hl_va0_3 := hr_a0_3.len
  refine Calls.of_tri (N := 27) Try.func5 rfl rfl rfl (Sep.nil (M := noM)) ?_
  refine Tri.seq ?_
  refine Tri.reg (l := [0, 1]) rfl ?_
  refine F.m rfl rfl rfl (wanted_none rfl) (m_boxG rfl rfl) ?_
  rintro _ _ ⟨b1_1, rfl, rfl⟩
  refine F.q rfl rfl rfl (wanted_none rfl) (r_assign rfl) ?_
  refine F.nil ?_
  refine Nrm.seq ?_
  refine Tri.seq ?_
  refine Tri.reg (l := [0]) rfl ?_
  refine F.q rfl rfl rfl (wanted_none rfl) (r_assign rfl) ?_
  refine F.nil ?_
  refine Nrm.seq ?_
  refine Tri.seq ?_
  obtain ⟨t9, h9, h⟩ := bind_some h
  refine Tri.reg (l := [0, 1, 2, 3]) rfl ?_
  refine F.q rfl rfl rfl (wanted_none rfl) (r_loadA ta44 ti44 rfl rfl (fun w hw => (box_cells (i := 0) rfl w hw))) ?_
  refine F.q rfl rfl rfl (wanted_none rfl) (r_move rfl) ?_
  refine F.qc rfl rfl rfl (wanted_none rfl) (q_callF (xs := _) rfl ok24 rfl rfl (fun w hw => laws_szVisit.ok h9 w ((fun _ hw => hr_a0_1.sep hw) w hw) ((fun _ hw => hr_a0_2.sep hw) w hw) ((fun _ hw => hr_a0_3.sep hw) w hw))) ?_
  refine F.q rfl rfl rfl (wanted_none rfl) (r_assign rfl) ?_
  refine F.nil ?_
  refine Nrm.seq ?_
  refine Tri.seq ?_
  refine Tri.seq ?_
  refine Tri.reg (l := [0, 1]) rfl ?_
  refine F.q rfl rfl rfl (wanted_none rfl) (r_move rfl) ?_
  refine F.q rfl rfl rfl (wanted_none rfl) (r_lss rfl rfl) ?_
  refine F.nil ?_
  refine Nrm.seq ?_
  refine Tri.cond (b := decide (t9 < 0)) rfl (fun g_1 => ?_) (fun g_1 => ?_)
  · replace h := if_tt g_1 h
    refine Tri.seq ?_
    refine Tri.reg (l := [0]) rfl ?_
    refine F.q rfl rfl rfl (wanted_none rfl) (r_assign rfl) ?_
    refine F.nil ?_
    refine Nrm.seq ?_
    refine Tri.ret ?_
    refine Rtn.then ?_
    cases h
    exact Rtn.body (.tmp rfl .nil) (fun w hw => ⟨rfl, hw.ext⟩)
  · replace h := if_ff g_1 h
    refine Tri.skip ?_
    refine Nrm.seq ?_
    refine Tri.seq ?_
    obtain ⟨⟨t13_1, t13_2, t13_3, t13_4, t13_5⟩, h13, h⟩ := bind_some h
    obtain ⟨t14, h14, h⟩ := bind_some h
    refine Tri.reg (l := [0, 1, 2, 3]) rfl ?_
    refine F.q rfl rfl rfl (wanted_none rfl) (r_loadA ta44 ti44 rfl rfl (fun w hw => (box_cells (i := 0) rfl w hw))) ?_
    refine F.m rfl rfl rfl (wanted_none rfl) (m_callF (xs := _) rfl ok26 rfl rfl (fun w hw => laws_toVisit.ok h13 w ((fun _ hw => hr_a0_1.sep hw) w hw) ((fun _ hw => hr_a0_2.sep hw) w hw) ((fun _ hw => hr_a0_3.sep hw) w hw))) ?_
    rintro _ _ ⟨_, ⟨v13_1, S13_1, v13_2, S13_2, v13_3, S13_3, rfl, hl_v13_1, hl_v13_2, hl_v13_3, rfl⟩, rfl⟩
    refine F.qc rfl rfl rfl (wanted_none rfl) (q_callF (xs := _) rfl ok25 rfl rfl (fun w hw => spec_IsVisit.ok h14 w ((rd_sl (i := 0) rfl) w hw) ((rd_sl (i := 1) rfl) w hw) ((rd_sl (i := 2) rfl) w hw))) ?_
    refine F.q rfl rfl rfl (wanted_none rfl) (r_assign rfl) ?_
    refine F.nil ?_
    refine Nrm.seq ?_
    refine Tri.seq ?_
    obtain ⟨⟨t16_1, t16_2, t16_3, t16_4, t16_5⟩, h16, h⟩ := bind_some h
    refine Tri.reg (l := [0, 1, 2, 3]) rfl ?_
    refine F.q rfl rfl rfl (wanted_none rfl) (r_loadA ta44 ti44 rfl rfl (fun w hw => (box_cells (i := 3) rfl w hw))) ?_
    refine F.m rfl rfl rfl (wanted_none rfl) (m_callF (xs := _) rfl ok26 rfl rfl (fun w hw => laws_toVisit.ok h16 w ((fun _ hw => hr_a0_1.sep hw) w hw) ((fun _ hw => hr_a0_2.sep hw) w hw) ((fun _ hw => hr_a0_3.sep hw) w hw))) ?_
    rintro _ _ ⟨_, ⟨v16_1, S16_1, v16_2, S16_2, v16_3, S16_3, rfl, hl_v16_1, hl_v16_2, hl_v16_3, rfl⟩, rfl⟩
    refine F.m rfl rfl rfl (wanted_none rfl) (m_alloc ti48) ?_
    rintro _ _ ⟨b5_1, rfl, rfl⟩
    refine F.ef0 rfl rfl (wanted_none rfl) (d_storeG0 (i := 0) (cs2 := [.int .i64 t16_1, v16_1, v16_2, v16_3, .int .i64 t16_5]) ti48 rfl rfl rfl rfl rfl (Nat.le_of_ble_eq_true rfl) (lf_cons rfl (lf_cons (sl_leaf hl_v16_1) (lf_cons (sl_leaf hl_v16_2) (lf_cons (sl_leaf hl_v16_3) (lf_cons rfl lf_nil)))))) ?_
    rintro _ _ ⟨rfl, rfl⟩
    refine F.nil ?_
    refine Nrm.seq ?_
    refine Tri.seq ?_
    obtain ⟨t18, h18, h⟩ := bind_some h
    refine Tri.reg (l := [0, 1, 2]) rfl ?_
    refine F.q rfl rfl rfl (wanted_none rfl) (r_loadA ta48 ti48 rfl rfl (fun w hw => (box_cells (i := 0) rfl w hw))) ?_
    refine F.qc rfl rfl rfl (wanted_none rfl) (q_callF (xs := _) rfl ok27 rfl rfl (fun w hw => impl_IsVisit.ok h18 w ((rd_sl (i := 1) rfl) w hw) ((rd_sl (i := 2) rfl) w hw) ((rd_sl (i := 3) rfl) w hw))) ?_
    refine F.q rfl rfl rfl (wanted_none rfl) (r_assign rfl) ?_
    refine F.nil ?_
    refine Nrm.seq ?_
    refine Tri.seq ?_
    refine Tri.seq ?_
    refine Tri.reg (l := [0, 1, 2]) rfl ?_
    refine F.q rfl rfl rfl (wanted_none rfl) (r_move rfl) ?_
    refine F.q rfl rfl rfl (wanted_none rfl) (r_move rfl) ?_
    refine F.q rfl rfl rfl (wanted_none rfl) (r_neqB Try.underlying4 rfl rfl) ?_
    refine F.nil ?_
    refine Nrm.seq ?_
    refine Tri.cond (b := t18 != t14) rfl (fun g_2 => ?_) (fun g_2 => ?_)
    · replace h := if_tt g_2 h
      refine Tri.seq ?_
      refine Tri.reg (l := [0]) rfl ?_
      refine F.q rfl rfl rfl (wanted_none rfl) (r_assign rfl) ?_
      refine F.nil ?_
      refine Nrm.seq ?_
      refine Tri.ret ?_
      refine Rtn.then ?_
      cases h
      exact Rtn.body (.tmp rfl .nil) (fun w hw => ⟨rfl, hw.ext⟩)
    · replace h := if_ff g_2 h
      refine Tri.skip ?_
      refine Nrm.seq ?_
      refine Tri.seq ?_
      refine Tri.seq ?_
      obtain ⟨⟨t24_1, t24_2, t24_3, t24_4, t24_5⟩, h24, h⟩ := bind_some h
      obtain ⟨t25, h25, h⟩ := bind_some h
      refine Tri.drawA mixedT Sep.up [(0, true), (1, true), (2, false), (3, true), (4, true)] [] (by kernel_rfl) ?_
      refine S.q rfl rfl rfl (wanted_none rfl) (r_loadA ta48 ti48 rfl rfl (fun w hw => (box_cells (i := 0) rfl w hw))) ?_
      refine S.q rfl rfl rfl (wanted_none rfl) (r_loadA ta44 ti44 rfl rfl (fun w hw => (box_cells (i := 7) rfl w hw))) ?_
      refine S.m rfl rfl rfl (wanted_none rfl) (m_callF (xs := _) rfl ok26 rfl rfl (fun w hw => laws_toVisit.ok h24 w ((fun _ hw => hr_a0_1.sep hw) w hw) ((fun _ hw => hr_a0_2.sep hw) w hw) ((fun _ hw => hr_a0_3.sep hw) w hw))) ?_
      rintro _ _ ⟨_, ⟨v24_4, S24_4, v24_5, S24_5, v24_6, S24_6, rfl, hl_v24_4, hl_v24_5, hl_v24_6, rfl⟩, rfl⟩
      refine S.qc rfl rfl rfl (wanted_none rfl) (q_callF (xs := _) rfl ok28 rfl rfl (fun w hw => laws_eqVisit.ok h25 w ((rd_sl (i := 4) rfl) w hw) ((rd_sl (i := 5) rfl) w hw) ((rd_sl (i := 6) rfl) w hw) ((rd_sl (i := 0) rfl) w hw) ((rd_sl (i := 1) rfl) w hw) ((rd_sl (i := 2) rfl) w hw))) ?_
      refine S.q rfl rfl rfl (wanted_none rfl) (r_not rfl) ?_
      refine S.nil ?_
      refine F.nil ?_
      refine Nrm.seq ?_
      refine Tri.cond (b := !t25) rfl (fun g_3 => ?_) (fun g_3 => ?_)
      · replace h := if_tt g_3 h
        refine Tri.seq ?_
        refine Tri.reg (l := [0]) rfl ?_
        refine F.q rfl rfl rfl (wanted_none rfl) (r_assign rfl) ?_
        refine F.nil ?_
        refine Nrm.seq ?_
        refine Tri.ret ?_
        refine Rtn.then ?_
        cases h
        exact Rtn.body (.tmp rfl .nil) (fun w hw => ⟨rfl, hw.ext⟩)
      · replace h := if_ff g_3 h
        refine Tri.skip ?_
        refine Nrm.seq ?_
        refine Tri.seq ?_
        refine Tri.reg (l := [0]) rfl ?_
        refine F.q rfl rfl rfl (wanted_none rfl) (r_assign rfl) ?_
        refine F.nil ?_
        refine Nrm.seq ?_
        refine Tri.ret ?_
        cases h
        exact Rtn.body (.tmp rfl .nil) (fun w hw => ⟨rfl, hw.ext⟩)

end Go.Proofs

/-
  The contracts of the document's quotients and rests, and of both shifts: a number times a power of two, held.
-/
import Derived.Test.YthblmmighjmgpaaDoorRestsCalls
import Derived.Test.YthblmmighjmgpaaDoorFnRefDiv
namespace Go.Proofs.YthblmmighjmgpaaDoor
open Go.RowKit Go.Proofs.YthblmmighjmgpaaDoorW.PrintWords
open Plain (hold)
set_option linter.unusedVariables false

theorem tdiv_sign (a b : Int) : (if (decide (a < 0) != decide (b < 0)) then -((a.natAbs / b.natAbs : Nat) : Int) else ((a.natAbs / b.natAbs : Nat) : Int)) = a.tdiv b := by
  have e1 := Plain.sign_abs a
  have e2 := Plain.sign_abs b
  have hd : ((a.natAbs / b.natAbs : Nat) : Int) = (a.natAbs : Int).tdiv (b.natAbs : Int) := rfl
  rw [hd]
  generalize (a.natAbs : Int) = p at *
  generalize (b.natAbs : Int) = q at *
  by_cases x : a < 0 <;> by_cases y : b < 0
  · simp only [x, y, decide_true, if_true] at e1 e2 ⊢
    rw [if_neg (by simp), ← e1, ← e2, Int.neg_tdiv, Int.tdiv_neg, Int.neg_neg]
  · simp only [x, y, decide_true, decide_false, if_true, Bool.false_eq_true, if_false] at e1 e2 ⊢
    rw [if_pos (by simp), ← e1, ← e2, Int.neg_tdiv]
  · simp only [x, y, decide_true, decide_false, if_true, Bool.false_eq_true, if_false] at e1 e2 ⊢
    rw [if_pos (by simp), ← e1, ← e2, Int.tdiv_neg]
  · simp only [x, y, decide_false, Bool.false_eq_true, if_false] at e1 e2 ⊢
    rw [if_neg (by simp), ← e1, ← e2]

theorem tmod_sign (a b : Int) : (if decide (a < 0) then -((a.natAbs % b.natAbs : Nat) : Int) else ((a.natAbs % b.natAbs : Nat) : Int)) = a.tmod b := by
  have e1 := Plain.sign_abs a
  have hd : ((a.natAbs % b.natAbs : Nat) : Int) = (a.natAbs : Int).tmod (b.natAbs : Int) := rfl
  have hb : (a.natAbs : Int).tmod (b.natAbs : Int) = (a.natAbs : Int).tmod b := by
    rcases Int.natAbs_eq b with e | e
    · conv => rhs; rw [e]
    · conv => rhs; rw [e, Int.tmod_neg]
  rw [hd, hb]
  generalize (a.natAbs : Int) = p at *
  by_cases x : a < 0
  · simp only [x, decide_true, if_true] at e1 ⊢
    rw [← e1, Int.neg_tmod]
  · simp only [x, decide_false, Bool.false_eq_true, if_false] at e1 ⊢
    rw [e1]

section
variable (a b : Int) (ha0 : -9223372036854775808 ≤ a) (ha1 : a ≤ 9223372036854775807) (hb0 : -9223372036854775808 ≤ b) (hb1 : b ≤ 9223372036854775807) (w : World)
include ha0 ha1 hb0 hb1
theorem rdiv_f (hb : b ≠ 0) : Fn.prompterref01_Div.f 1 a b = some (hold (a.tdiv b), 0) := by
  unfold Fn.prompterref01_Div.f
  rw [if_neg hb, Plain.of_f a ha0 ha1, Plain.of_f b hb0 hb1]
  simp only [Option.bind_some]
  rw [if_neg (by omega)]
  have hle : a.natAbs / b.natAbs ≤ a.natAbs := Nat.div_le_self _ _
  have hs := tdiv_sign a b
  have e0 : (a.natAbs : Int).tdiv (b.natAbs : Int) = ((a.natAbs / b.natAbs : Nat) : Int) := rfl
  rw [e0]
  generalize a.natAbs / b.natAbs = z at *
  have e1 : IntKind.u64.wrap (z : Int) = (z : Int) := by rw [Plain.u64w]; omega
  rw [e1, Plain.held_f 0 _ 0 _ (by omega) (by omega) (by omega)]
  simp only [Option.bind_some, Int.zero_mul, Int.zero_add]
  rw [hs]

theorem rmod_f (hb : b ≠ 0) : Fn.prompterref01_Mod.f 1 a b = some (a.tmod b, 0) := by
  unfold Fn.prompterref01_Mod.f
  rw [if_neg hb, Plain.of_f a ha0 ha1, Plain.of_f b hb0 hb1]
  simp only [Option.bind_some]
  rw [if_neg (by omega)]
  have hle : a.natAbs % b.natAbs < b.natAbs := Nat.mod_lt _ (by omega)
  have e1 : (a.natAbs : Int).tmod (b.natAbs : Int) = ((a.natAbs % b.natAbs : Nat) : Int) := rfl
  have hbd := Plain.tmod_bd a b hb
  rw [e1, Plain.held_f 0 _ 0 _ (by omega) (by omega) (by omega)]
  simp only [Option.bind_some, Int.zero_mul, Int.zero_add]
  rw [tmod_sign]
  have : hold (a.tmod b) = a.tmod b := by unfold hold; rw [if_neg (by omega), if_neg (by omega)]
  rw [this]

theorem rdiv_c (hb : b ≠ 0) : Calls Tryd.prog 29 #[.int .i64 a, .int .i64 b] w (Gives (.tuple #[.int .i64 (hold (a.tdiv b)), .int .i64 0]) w) :=
  Fn.prompterref01_Div.calls 1 a b _ _ w (rdiv_f a b ha0 ha1 hb0 hb1 hb)
theorem rmod_c (hb : b ≠ 0) : Calls Tryd.prog 30 #[.int .i64 a, .int .i64 b] w (Gives (.tuple #[.int .i64 (a.tmod b), .int .i64 0]) w) :=
  Fn.prompterref01_Mod.calls 1 a b _ _ w (rmod_f a b ha0 ha1 hb0 hb1 hb)
omit ha0 ha1 hb0 hb1
theorem rdiv_zero_c : Calls Tryd.prog 29 #[.int .i64 a, .int .i64 0] w (Gives (.tuple #[.int .i64 0, .int .i64 10]) w) :=
  Fn.prompterref01_Div.calls 0 a 0 0 10 w (by unfold Fn.prompterref01_Div.f; rw [if_pos rfl])
theorem rmod_zero_c : Calls Tryd.prog 30 #[.int .i64 a, .int .i64 0] w (Gives (.tuple #[.int .i64 0, .int .i64 10]) w) :=
  Fn.prompterref01_Mod.calls 0 a 0 0 10 w (by unfold Fn.prompterref01_Mod.f; rw [if_pos rfl])
end

/-! ### Shifts -/
/-- a times 2 to the power n (0 for n below 0; from 64 on nothing changes any more), held. -/
def shiftS (a n : Int) : Int := hold (a * 2 ^ min n.toNat 64)

theorem hold_twice (a p : Int) (hp : 1 ≤ p) : hold (hold (a * p) + hold (a * p)) = hold (a * (p * 2)) := by
  rw [← Int.mul_assoc]
  generalize a * p = q
  unfold hold
  split <;> (try split) <;> (try split) <;> (try split) <;> (try split) <;> omega

theorem rshift_f (a n : Int) (hn : n ≤ 9223372036854775807) : ∀ (d j : Nat) (k : Nat), d + j = min n.toNat 64 → d + 2 ≤ k →
    Fn.prompterref01_Shift.l0 k (hold (a * 2 ^ j)) n (j : Int) = some (shiftS a n)
  | 0, j, k, hd, hk => by
    obtain ⟨k, rfl⟩ : ∃ m, k = m + 1 := ⟨k - 1, by omega⟩
    simp only [Fn.prompterref01_Shift.l0]
    have e : shiftS a n = hold (a * 2 ^ j) := by unfold shiftS; rw [← hd, Nat.zero_add]
    rw [e]
    by_cases h : (j : Int) < n
    · rw [if_pos h, if_neg (by omega)]
    · rw [if_neg h]
  | d + 1, j, k, hd, hk => by
    obtain ⟨k, rfl⟩ : ∃ m, k = m + 1 := ⟨k - 1, by omega⟩
    simp only [Fn.prompterref01_Shift.l0]
    rw [if_pos (by omega), if_pos (by omega)]
    obtain ⟨k', rfl⟩ : ∃ m, k = m + 1 := ⟨k - 1, by omega⟩
    rw [Plain.radd_f _ _ (Plain.hold_lo _) (Plain.hold_hi _) (Plain.hold_lo _) (Plain.hold_hi _) k']
    simp only [Option.bind_some]
    have hw : wrap64 ((j : Int) + 1) = ((j + 1 : Nat) : Int) := by unfold wrap64; omega
    have hp : (1 : Int) ≤ 2 ^ j := by
      have h : (0 : Int) < 2 ^ j := Int.pow_pos (by omega)
      generalize (2 : Int) ^ j = q at *
      omega
    rw [hw, hold_twice a (2 ^ j) hp, ← Int.pow_succ]
    exact rshift_f a n hn d (j + 1) (k' + 1) (by omega) (by omega)

theorem rshift_c (a n : Int) (ha0 : -9223372036854775808 ≤ a) (ha1 : a ≤ 9223372036854775807) (hn : n ≤ 9223372036854775807) (w : World) :
    Calls Tryd.prog 32 #[.int .i64 a, .int .i64 n] w (Gives (.int .i64 (shiftS a n)) w) :=
  Fn.prompterref01_Shift.calls (min n.toNat 64 + 2) a n _ w (by
    have h := rshift_f a n hn (min n.toNat 64) 0 (min n.toNat 64 + 2) (by omega) (by omega)
    have e : hold (a * 2 ^ 0) = a := by rw [Int.pow_zero, Int.mul_one]; unfold hold; rw [if_neg (by omega), if_neg (by omega)]
    rw [e] at h
    exact h)

set_option maxHeartbeats 400000 in
theorem shift_none (a n : Int) (hn0 : n ≤ 0) (w : World) :
    Calls Tryd.prog 31 #[.int .i64 a, .int .i64 n] w fun e w' => e = .returned (.int .i64 a) ∧ w' = w := by
  go_enter Tryd.func31, Tryd.ntmps31
  go_wp2
  go_ret
  exact ⟨rfl, rfl⟩
set_option maxHeartbeats 400000 in
theorem shift_zero (n : Int) (hn0 : 0 < n) (w : World) :
    Calls Tryd.prog 31 #[.int .i64 0, .int .i64 n] w fun e w' => e = .returned (.int .i64 0) ∧ w' = w := by
  go_enter Tryd.func31, Tryd.ntmps31
  go_wp2
  go_ret
  exact ⟨rfl, rfl⟩
set_option maxHeartbeats 400000 in
theorem shift_far (a n : Int) (ha : (a == 0) = false) (hn0 : 0 < n) (hn1 : 63 < n) (r : Int) (hr : Fn.whole_end.f (decide (a < 0)) = some r) (w : World) :
    Calls Tryd.prog 31 #[.int .i64 a, .int .i64 n] w fun e w' => e = .returned (.int .i64 r) ∧ Below w.heap.size w w' := by
  have HR := Lib.hid hr
  clear hr
  go_enter Tryd.func31, Tryd.ntmps31
  go_wp2_with fail
  refine (Fn.whole_end.calls (decide (a < 0)) r _ HR.out).mono ?_
  rintro e w1 ⟨rfl, hd⟩
  have HB := Lib.hid hd.below
  clear hd
  go_wp2_with fail
  go_ret
  exact ⟨rfl, HB.out⟩
set_option maxHeartbeats 400000 in
theorem shift_in (a n : Int) (ha : (a == 0) = false) (hn0 : 0 < n) (hn1 : n ≤ 63) (hx : (wrap64 (a * 2 ^ n.toNat) / 2 ^ n.toNat != a) = false) (w : World) :
    Calls Tryd.prog 31 #[.int .i64 a, .int .i64 n] w fun e w' => e = .returned (.int .i64 (wrap64 (a * 2 ^ n.toNat))) ∧ w' = w := by
  go_enter Tryd.func31, Tryd.ntmps31
  go_wp2_with fail
  go_ret
  exact ⟨rfl, rfl⟩
set_option maxHeartbeats 400000 in
theorem shift_out (a n : Int) (ha : (a == 0) = false) (hn0 : 0 < n) (hn1 : n ≤ 63) (hx : (wrap64 (a * 2 ^ n.toNat) / 2 ^ n.toNat != a) = true) (r : Int) (hr : Fn.whole_end.f (decide (a < 0)) = some r) (w : World) :
    Calls Tryd.prog 31 #[.int .i64 a, .int .i64 n] w fun e w' => e = .returned (.int .i64 r) ∧ Below w.heap.size w w' := by
  have HR := Lib.hid hr
  clear hr
  go_enter Tryd.func31, Tryd.ntmps31
  go_wp2_with fail
  refine (Fn.whole_end.calls (decide (a < 0)) r _ HR.out).mono ?_
  rintro e w1 ⟨rfl, hd⟩
  have HB := Lib.hid hd.below
  clear hd
  go_wp2_with fail
  go_ret
  exact ⟨rfl, HB.out⟩

/-- The program's shift. -/
theorem shift_c (a n : Int) (ha0 : -9223372036854775808 ≤ a) (ha1 : a ≤ 9223372036854775807) (w : World) :
    Calls Tryd.prog 31 #[.int .i64 a, .int .i64 n] w (Gives (.int .i64 (shiftS a n)) w) := by
  by_cases h0 : n ≤ 0
  · have e : shiftS a n = a := by
      unfold shiftS hold
      rw [show min n.toNat 64 = 0 by omega, Int.pow_zero, Int.mul_one, if_neg (by omega), if_neg (by omega)]
    rw [e]
    exact (shift_none a n h0 w).mono fun _ _ h => ⟨h.1, h.2 ▸ Below.refl _ _⟩
  by_cases h1 : a = 0
  · subst h1
    have e : shiftS 0 n = 0 := by unfold shiftS hold; simp
    rw [e]
    exact (shift_zero n (by omega) w).mono fun _ _ h => ⟨h.1, h.2 ▸ Below.refl _ _⟩
  have hz : (a == 0) = false := by simpa using h1
  have hend : ∀ p : Int, 9223372036854775808 < p → Fn.whole_end.f (decide (a < 0)) = some (hold (a * p)) := by
    intro p hp
    unfold Fn.whole_end.f hold
    by_cases hs : a < 0
    · have : a * p ≤ -1 * p := Int.mul_le_mul_of_nonneg_right (by omega) (by omega)
      rw [if_pos (by simpa using hs), if_neg (by omega), if_pos (by omega)]
    · have : 1 * p ≤ a * p := Int.mul_le_mul_of_nonneg_right (by omega) (by omega)
      rw [if_neg (by simpa using hs), if_pos (by omega)]
  by_cases h2 : 63 < n
  · have e : Fn.whole_end.f (decide (a < 0)) = some (shiftS a n) := by
      unfold shiftS; rw [show min n.toNat 64 = 64 by omega]; exact hend _ (by decide)
    exact shift_far a n hz (by omega) h2 _ e w
  have hm : min n.toNat 64 = n.toNat := by omega
  obtain ⟨c, hc⟩ : ∃ c : Int, (18446744073709551616 : Int) = 2 ^ n.toNat * c ∧ 2 ≤ c := by
    refine ⟨2 ^ (64 - n.toNat), ?_, ?_⟩
    · rw [← Int.pow_add, show n.toNat + (64 - n.toNat) = 64 by omega]; decide
    · have : (2 : Int) ^ (64 - n.toNat) = 2 * 2 ^ (63 - n.toNat) := by
        rw [show 64 - n.toNat = (63 - n.toNat) + 1 by omega, Int.pow_succ, Int.mul_comm]
      have h3 : (0 : Int) < 2 ^ (63 - n.toNat) := Int.pow_pos (by omega)
      rw [this]
      generalize (2 : Int) ^ (63 - n.toNat) = q at *
      omega
  have hpos : (0 : Int) < 2 ^ n.toNat := Int.pow_pos (by omega)
  have hes : shiftS a n = hold (a * 2 ^ n.toNat) := by unfold shiftS; rw [hm]
  rw [hes]
  by_cases h3 : -9223372036854775808 ≤ a * 2 ^ n.toNat ∧ a * 2 ^ n.toNat ≤ 9223372036854775807
  · have hw : wrap64 (a * 2 ^ n.toNat) = a * 2 ^ n.toNat := by unfold wrap64; omega
    have hh : hold (a * 2 ^ n.toNat) = wrap64 (a * 2 ^ n.toNat) := by rw [hw]; unfold hold; rw [if_neg (by omega), if_neg (by omega)]
    rw [hh]
    exact (shift_in a n hz (by omega) (by omega) (by rw [hw, Int.mul_ediv_cancel _ (by omega)]; simp) w).mono fun _ _ h => ⟨h.1, h.2 ▸ Below.refl _ _⟩
  · have hne : wrap64 (a * 2 ^ n.toNat) / 2 ^ n.toNat ≠ a := by
      intro he
      obtain ⟨t, ht⟩ : ∃ t : Int, wrap64 (a * 2 ^ n.toNat) = a * 2 ^ n.toNat + 18446744073709551616 * t := by
        refine ⟨-((a * 2 ^ n.toNat + 9223372036854775808) / 18446744073709551616), ?_⟩
        unfold wrap64; omega
      have ht0 : t ≠ 0 := by
        intro h; rw [h] at ht
        apply h3; rw [← (by rw [ht]; omega : wrap64 (a * 2 ^ n.toNat) = a * 2 ^ n.toNat)]
        unfold wrap64; omega
      rw [ht, hc.1, show a * 2 ^ n.toNat + 2 ^ n.toNat * c * t = (a + c * t) * 2 ^ n.toNat by
        rw [Int.add_mul, Int.mul_assoc, Int.mul_comm (c * t)], Int.mul_ediv_cancel _ (by omega)] at he
      have : c * t = 0 := by omega
      rcases Int.mul_eq_zero.1 this with h | h <;> omega
    have e : Fn.whole_end.f (decide (a < 0)) = some (hold (a * 2 ^ n.toNat)) := by
      unfold Fn.whole_end.f hold
      by_cases hs : a < 0
      · have : a * 2 ^ n.toNat < 0 := Int.mul_neg_of_neg_of_pos hs hpos
        rw [if_pos (by simpa using hs), if_neg (by omega), if_pos (by omega)]
      · have : 0 < a * 2 ^ n.toNat := Int.mul_pos (by omega) hpos
        rw [if_neg (by simpa using hs), if_pos (by omega)]
    exact shift_out a n hz (by omega) (by omega) (by simpa using hne) _ e w

end Go.Proofs.YthblmmighjmgpaaDoor

/-
  The plain law of sums, products and turned numbers: what the program's functions and the document's functions tell is the number 'held' within the ends of int64.
-/
import Derived.Test.YthblmmighjmgpaaDoorFnWhole
import Derived.Test.YthblmmighjmgpaaDoorFnRef
import Derived.Laws.BitsLemmas
import Derived.WalkSmall
namespace Go.Proofs.YthblmmighjmgpaaDoor.Plain
open Go.RowKit Go.Proofs.YthblmmighjmgpaaDoorW.PrintWords Go.Proofs.YthblmmighjmgpaaDoorW.PrintMore Go.Proofs.YthblmmighjmgpaaDoor.Fn

/-- A whole number of any size, held. -/
def hold (n : Int) : Int := if n > 9223372036854775807 then 9223372036854775807 else if n < -9223372036854775808 then -9223372036854775808 else n

theorem u64w (n : Int) : IntKind.u64.wrap n = n % 18446744073709551616 := by simp [IntKind.wrap, IntKind.bits, IntKind.signed]

theorem hold_lo (n : Int) : -9223372036854775808 ≤ hold n := by unfold hold; split <;> (try split) <;> omega
theorem hold_hi (n : Int) : hold n ≤ 9223372036854775807 := by unfold hold; split <;> (try split) <;> omega

theorem tmod_bd (c b : Int) (hb : b ≠ 0) : -(b.natAbs : Int) < c.tmod b ∧ c.tmod b < b.natAbs := by
  have h1 := Int.natAbs_tmod c b
  have h2 : c.natAbs % b.natAbs < b.natAbs := Nat.mod_lt _ (by omega)
  omega

section
variable (a b : Int) (ha0 : -9223372036854775808 ≤ a) (ha1 : a ≤ 9223372036854775807) (hb0 : -9223372036854775808 ≤ b) (hb1 : b ≤ 9223372036854775807)
include ha0 ha1 hb0 hb1

theorem add_f (k : Nat) : whole_Add.f (k + 1) a b = some (hold (a + b)) := by
  unfold whole_Add.f hold
  simp only [whole_Add.j0]
  unfold wrap64
  by_cases h1 : b > 0
  · rw [if_pos h1]
    by_cases h2 : a > 9223372036854775807 - b
    · rw [if_pos (by simp only [decide_eq_true_eq]; omega), if_pos (by omega)]
    · rw [if_neg (by simp only [decide_eq_true_eq]; omega), if_neg (by omega), if_neg (by omega), if_neg (by omega)]
      congr 1; omega
  · rw [if_neg h1, if_neg (by simp)]
    by_cases h3 : b < 0
    · rw [if_pos h3]
      by_cases h4 : a < -9223372036854775808 - b
      · rw [if_pos (by omega), if_neg (by omega), if_pos (by omega)]
      · rw [if_neg (by omega), if_neg (by omega), if_neg (by omega)]
        congr 1; omega
    · rw [if_neg h3, if_neg (by omega), if_neg (by omega)]
      congr 1; omega

theorem sub_f (k : Nat) : whole_Sub.f (k + 1) a b = some (hold (a - b)) := by
  unfold whole_Sub.f hold
  simp only [whole_Sub.j0]
  unfold wrap64
  by_cases h1 : b < 0
  · rw [if_pos h1]
    by_cases h2 : a > 9223372036854775807 + b
    · rw [if_pos (by simp only [decide_eq_true_eq]; omega), if_pos (by omega)]
    · rw [if_neg (by simp only [decide_eq_true_eq]; omega), if_neg (by omega), if_neg (by omega), if_neg (by omega)]
      congr 1; omega
  · rw [if_neg h1, if_neg (by simp)]
    by_cases h3 : b > 0
    · rw [if_pos h3]
      by_cases h4 : a < -9223372036854775808 + b
      · rw [if_pos (by omega), if_neg (by omega), if_pos (by omega)]
      · rw [if_neg (by omega), if_neg (by omega), if_neg (by omega)]
        congr 1; omega
    · rw [if_neg h3, if_neg (by omega), if_neg (by omega)]
      congr 1; omega

omit hb0 hb1 in
theorem neg_f (k : Nat) : whole_Neg.f (k + 1) a = some (hold (-a)) := by
  unfold whole_Neg.f
  rw [sub_f 0 a (by omega) (by omega) ha0 ha1 k]
  simp

/-- The product: where the wrapped product over b gives a back, it was not wrapped. -/
theorem mul_f (k : Nat) : whole_Mul.f (k + 2) a b = some (hold (a * b)) := by
  unfold whole_Mul.f
  by_cases h1 : a = 0
  · subst h1; simp [whole_Mul.j0, hold]
  rw [if_neg h1]
  by_cases h2 : b = 0
  · subst h2; simp [whole_Mul.j0, hold]
  simp only [whole_Mul.j0]
  rw [if_neg (by simpa using h2)]
  -- the two ways that meet at the greatest
  by_cases h3 : a = -9223372036854775808 ∧ b = -1
  · obtain ⟨rfl, rfl⟩ := h3
    rw [if_pos rfl, if_pos rfl]; simp [whole_Mul.j1, hold]
  by_cases h4 : b = -9223372036854775808 ∧ a = -1
  · obtain ⟨rfl, rfl⟩ := h4
    rw [if_neg (by decide), if_pos rfl]; simp [whole_Mul.j1, hold]
  have key : whole_Mul.j1 (k + 1) a b false = some (hold (a * b)) := by
    simp only [whole_Mul.j1]
    rw [if_neg (by simp), if_neg h2]
    have hdm := Int.mul_tdiv_add_tmod (wrap64 (a * b)) b
    have hlt := (tmod_bd (wrap64 (a * b)) b h2).2
    have hgt := (tmod_bd (wrap64 (a * b)) b h2).1
    have hsign : (0 < a ∧ 0 < b ∧ 0 < a * b) ∨ (0 < a ∧ b < 0 ∧ a * b < 0) ∨ (a < 0 ∧ 0 < b ∧ a * b < 0) ∨ (a < 0 ∧ b < 0 ∧ 0 < a * b) := by
      rcases Int.lt_or_gt_of_ne h1 with x | x <;> rcases Int.lt_or_gt_of_ne h2 with y | y
      · exact Or.inr (Or.inr (Or.inr ⟨x, y, Int.mul_pos_of_neg_of_neg x y⟩))
      · exact Or.inr (Or.inr (Or.inl ⟨x, y, Int.mul_neg_of_neg_of_pos x y⟩))
      · exact Or.inr (Or.inl ⟨x, y, Int.mul_neg_of_pos_of_neg x y⟩)
      · exact Or.inl ⟨x, y, Int.mul_pos x y⟩
    by_cases hin : -9223372036854775808 ≤ a * b ∧ a * b ≤ 9223372036854775807
    · have hw : wrap64 (a * b) = a * b := by unfold wrap64; omega
      rw [hw, Int.mul_tdiv_cancel a h2]
      rw [if_pos (by unfold wrap64; omega)]
      unfold hold
      rw [if_neg (by omega), if_neg (by omega)]
    · have hc0 : -9223372036854775808 ≤ wrap64 (a * b) := by unfold wrap64; omega
      have hc1 : wrap64 (a * b) ≤ 9223372036854775807 := by unfold wrap64; omega
      have hcm : (wrap64 (a * b) - a * b) % 18446744073709551616 = 0 := by unfold wrap64; omega
      have hne : wrap64 ((wrap64 (a * b)).tdiv b) ≠ a := by
        intro hq
        generalize hc : wrap64 (a * b) = c at *
        have hqq : c.tdiv b = a ∨ (c.tdiv b = 9223372036854775808 ∧ a = -9223372036854775808) := by
          have hqb : -9223372036854775808 ≤ c.tdiv b ∧ c.tdiv b ≤ 9223372036854775808 := by
            have h6 := Int.natAbs_tdiv_le_natAbs c b
            omega
          unfold wrap64 at hq
          omega
        rcases hqq with hqq | ⟨hqq, haa⟩
        · rw [hqq] at hdm
          rw [Int.mul_comm b a] at hdm
          generalize a * b = p at *
          generalize c.tmod b = r at *
          omega
        · have hb1' : b = -1 := by
            rw [hqq] at hdm
            rcases Int.lt_or_gt_of_ne h2 with y | y
            · omega
            · omega
          exact h3 ⟨haa, hb1'⟩
      rw [if_neg hne]
      unfold whole_end.f hold
      rcases hsign with ⟨x, y, z⟩ | ⟨x, y, z⟩ | ⟨x, y, z⟩ | ⟨x, y, z⟩
      · rw [if_neg (by simp; omega), if_pos (by omega)]; rfl
      · rw [if_pos (by simp; omega), if_neg (by omega), if_pos (by omega)]; rfl
      · rw [if_pos (by simp; omega), if_neg (by omega), if_pos (by omega)]; rfl
      · rw [if_neg (by simp; omega), if_pos (by omega)]; rfl
  by_cases h5 : a = -9223372036854775808
  · rw [if_pos h5, if_neg (by intro h; exact h3 ⟨h5, h⟩)]
    by_cases h6 : b = -9223372036854775808
    · rw [if_pos h6, show (a == -1) = false by simp; omega]; exact key
    · rw [if_neg h6]; exact key
  · rw [if_neg h5]
    by_cases h6 : b = -9223372036854775808
    · rw [if_pos h6, show (a == -1) = false by simp; intro h; exact h4 ⟨h6, h⟩]; exact key
    · rw [if_neg h6]; exact key
end

/-! ### The document's functions -/
theorem of_f (a : Int) (ha0 : -9223372036854775808 ≤ a) (ha1 : a ≤ 9223372036854775807) : prompterref01_of.f a = some (decide (a < 0), 0, (a.natAbs : Int)) := by
  unfold prompterref01_of.f wrap64
  simp only [u64w]
  by_cases h : a < 0
  · rw [if_pos h]; simp only [h, decide_true]; congr 3; omega
  · rw [if_neg h]; simp only [h, decide_false]; congr 3; omega

/-- A wide number, held. -/
theorem held_f (k : Nat) (s : Bool) (hi lo : Int) (h0 : 0 ≤ hi) (l0 : 0 ≤ lo) (l1 : lo < 18446744073709551616) :
    prompterref01_held.f (k + 1) s hi lo = some (hold (if s then -(hi * 18446744073709551616 + lo) else hi * 18446744073709551616 + lo)) := by
  unfold prompterref01_held.f hold wrap64
  simp only [prompterref01_held.j0, u64w]
  unfold wrap64
  cases s
  · simp only [Bool.false_eq_true, if_false]
    by_cases h : hi > 0
    · rw [if_pos h, if_pos (by omega)]
    · rw [if_neg h]
      by_cases h2 : lo ≥ 9223372036854775808
      · rw [if_pos h2, if_pos (by omega)]
      · rw [if_neg h2, if_neg (by omega), if_neg (by omega)]; congr 1; omega
  · simp only [if_true]
    by_cases h : hi > 0
    · rw [if_pos h, if_neg (by omega), if_pos (by omega)]
    · rw [if_neg h]
      by_cases h2 : lo > 9223372036854775808
      · rw [if_pos (by simpa using h2), if_neg (by omega), if_pos (by omega)]
      · rw [if_neg (by simpa using h2), if_neg (by omega), if_neg (by omega)]; congr 1; omega

/-- The sum of two that are wide, of sizes at most 2 to the power 63. -/
theorem sum_f (s t : Bool) (x y : Int) (x0 : 0 ≤ x) (x1 : x ≤ 9223372036854775808) (y0 : 0 ≤ y) (y1 : y ≤ 9223372036854775808) :
    ∃ (u : Bool) (hi lo : Int), prompterref01_sum.f s 0 x t 0 y = some (u, hi, lo) ∧ 0 ≤ hi ∧ 0 ≤ lo ∧ lo < 18446744073709551616 ∧
      (if u then -(hi * 18446744073709551616 + lo) else hi * 18446744073709551616 + lo) = (if s then -x else x) + (if t then -y else y) := by
  unfold prompterref01_sum.f
  simp only [u64w]
  by_cases h : s = t
  · subst h
    rw [if_pos (by simp)]
    by_cases h2 : (x + y) % 18446744073709551616 < x
    · rw [if_pos h2]
      refine ⟨_, _, _, rfl, by omega, by omega, by omega, ?_⟩
      cases s <;> simp <;> omega
    · rw [if_neg h2]
      refine ⟨_, _, _, rfl, by omega, by omega, by omega, ?_⟩
      cases s <;> simp <;> omega
  · rw [if_neg (by simpa using h)]
    by_cases h2 : x ≥ y
    · rw [if_pos h2]
      refine ⟨_, _, _, rfl, by omega, by omega, by omega, ?_⟩
      cases s <;> cases t <;> simp at h ⊢ <;> omega
    · rw [if_neg h2]
      refine ⟨_, _, _, rfl, by omega, by omega, by omega, ?_⟩
      cases s <;> cases t <;> simp at h ⊢ <;> omega

theorem sign_abs (a : Int) : (if decide (a < 0) then -(a.natAbs : Int) else (a.natAbs : Int)) = a := by
  by_cases h : a < 0
  · simp [h]; omega
  · simp [h]; omega

section
variable (a b : Int) (ha0 : -9223372036854775808 ≤ a) (ha1 : a ≤ 9223372036854775807) (hb0 : -9223372036854775808 ≤ b) (hb1 : b ≤ 9223372036854775807)
include ha0 ha1 hb0 hb1

theorem radd_f (k : Nat) : prompterref01_Add.f (k + 1) a b = some (hold (a + b)) := by
  unfold prompterref01_Add.f
  rw [of_f a ha0 ha1, of_f b hb0 hb1]
  simp only [Option.bind_some]
  obtain ⟨u, hi, lo, h, p0, p1, p2, p3⟩ := sum_f (decide (a < 0)) (decide (b < 0)) (a.natAbs : Int) (b.natAbs : Int) (by omega) (by omega) (by omega) (by omega)
  rw [h]
  simp only [Option.bind_some]
  rw [held_f k u hi lo p0 p1 p2, p3, sign_abs, sign_abs]
  rfl

theorem rsub_f (k : Nat) : prompterref01_Sub.f (k + 1) a b = some (hold (a - b)) := by
  unfold prompterref01_Sub.f
  rw [of_f a ha0 ha1, of_f b hb0 hb1]
  simp only [Option.bind_some]
  obtain ⟨u, hi, lo, h, p0, p1, p2, p3⟩ := sum_f (decide (a < 0)) (!decide (b < 0)) (a.natAbs : Int) (b.natAbs : Int) (by omega) (by omega) (by omega) (by omega)
  rw [h]
  simp only [Option.bind_some]
  have e : (if (!decide (b < 0)) then -(b.natAbs : Int) else (b.natAbs : Int)) = -b := by
    by_cases hb : b < 0
    · simp [hb]; omega
    · simp [hb]; omega
  rw [held_f k u hi lo p0 p1 p2, p3, sign_abs, e]
  rfl

omit hb0 hb1 in
theorem rneg_f (k : Nat) : prompterref01_Neg.f (k + 1) a = some (hold (-a)) := by
  unfold prompterref01_Neg.f
  rw [rsub_f 0 a (by omega) (by omega) ha0 ha1 k]
  simp
end

theorem bits_or1 (hi lo : Int) (h0 : 0 ≤ hi) (h1 : hi < 9223372036854775808) (l0 : 0 ≤ lo) (l1 : lo < 18446744073709551616) : Go.bits .or .u64 (hi * 2) (lo / 9223372036854775808) = hi * 2 + lo / 9223372036854775808 :=
  bits_join .u64 64 (by decide) (fun n a b => by rw [u64w]; omega) 1 _ _ (by omega) (by omega) (by omega) (by omega) (by omega) (by omega)

/-- Bit by bit of Y, the one of most worth first: behind the bits of worth 2^i and more the two halves hold X times Y over 2^i. -/
theorem mul_round (s t : Bool) (X Y : Nat) (hX : X ≤ 9223372036854775808) (hY : Y ≤ 9223372036854775808) : ∀ (i : Nat), i ≤ 64 → ∀ (n k : Nat) (j hi lo : Int), n = k + 2 + i → j = (i : Int) - 1 → 0 ≤ hi → 0 ≤ lo → lo < 18446744073709551616 →
    hi * 18446744073709551616 + lo = ((X * (Y / 2 ^ i) : Nat) : Int) →
    prompterref01_Mul.l0 n hi lo j s 0 X t 0 Y = some (hold (if (s != t) then -((X * Y : Nat) : Int) else ((X * Y : Nat) : Int)))
  | 0, _, n, k, j, hi, lo, hn, hj, h0, l0, l1, he => by
    obtain rfl : n = (k + 1) + 1 := by omega
    simp only [prompterref01_Mul.l0]
    rw [if_neg (by omega)]
    rw [held_f k _ hi lo h0 l0 l1, he]
    simp
  | i + 1, hi64, n, k, j, hi, lo, hn, hj, h0, l0, l1, he => by
    have hYd : Y / 2 ^ i = 2 * (Y / 2 ^ (i + 1)) + Y / 2 ^ i % 2 := by
      rw [Nat.pow_succ, ← Nat.div_div_eq_div_mul]; omega
    have hq : Y / 2 ^ (i + 1) ≤ 4611686018427387904 := by
      have h1 : Y / 2 ^ (i + 1) ≤ Y / 2 := by
        rw [Nat.pow_succ, Nat.mul_comm, ← Nat.div_div_eq_div_mul]; exact Nat.div_le_self _ _
      omega
    have hXq : X * (Y / 2 ^ (i + 1)) ≤ 9223372036854775808 * 4611686018427387904 := Nat.mul_le_mul hX hq
    have hmul : X * (Y / 2 ^ i) = 2 * (X * (Y / 2 ^ (i + 1))) + X * (Y / 2 ^ i % 2) := by
      conv => lhs; rw [hYd]
      rw [Nat.mul_add]
      congr 1
      rw [Nat.mul_left_comm]
    have hsh : shr .u64 (Y : Int) (IntKind.u64.wrap j) = ((Y / 2 ^ i : Nat) : Int) := by
      unfold shr
      rw [u64w, show j % 18446744073709551616 = (i : Int) by omega]
      simp only [Int.toNat_natCast]
      rw [Nat.min_eq_left (by simp [IntKind.bits]; omega)]
      norm_cast
    have hYi : Y / 2 ^ i ≤ 9223372036854775808 := Nat.le_trans (Nat.div_le_self _ _) hY
    have hand : Go.bits .and .u64 ((Y / 2 ^ i : Nat) : Int) 1 = ((Y / 2 ^ i % 2 : Nat) : Int) := by
      rw [and_one_u64 _ (by omega) (by omega)]; norm_cast
    obtain rfl : n = (k + 2 + i) + 1 := by omega
    have ih := mul_round s t X Y hX hY i (by omega) (k + 2 + i) k (wrap64 (j - 1))
    have hw1 : wrap64 (j - 1) = (i : Int) - 1 := by unfold wrap64; omega
    generalize X * (Y / 2 ^ (i + 1)) = P at he hXq hmul
    have hhi : hi < 9223372036854775808 := by omega
    simp only [prompterref01_Mul.l0]
    rw [hsh, hand]
    rw [if_pos (by omega), if_pos (by rw [u64w]; omega)]
    have e1 : IntKind.u64.wrap (hi * 2) = hi * 2 := by rw [u64w]; omega
    rw [e1, bits_or1 hi lo h0 hhi l0 l1]
    simp only [u64w]
    rcases Nat.mod_two_eq_zero_or_one (Y / 2 ^ i) with hbit | hbit
    · rw [hbit, Nat.mul_zero, Nat.add_zero] at hmul
      rw [hbit, if_neg (by decide)]
      refine ih _ _ rfl hw1 (by omega) (by omega) (by omega) ?_
      rw [hmul]; omega
    · rw [hbit, Nat.mul_one] at hmul
      rw [hbit, if_pos (by decide)]
      by_cases hcar : (lo * 2 % 18446744073709551616 + (X : Int)) % 18446744073709551616 < lo * 2 % 18446744073709551616
      · rw [if_pos hcar]
        refine ih _ _ rfl hw1 (by omega) (by omega) (by omega) ?_
        rw [hmul]; omega
      · rw [if_neg hcar]
        refine ih _ _ rfl hw1 (by omega) (by omega) (by omega) ?_
        rw [hmul]; omega

theorem sign_mul (a b : Int) : (if (decide (a < 0) != decide (b < 0)) then -((a.natAbs * b.natAbs : Nat) : Int) else ((a.natAbs * b.natAbs : Nat) : Int)) = a * b := by
  have e1 := sign_abs a
  have e2 := sign_abs b
  rw [Int.natCast_mul]
  generalize (a.natAbs : Int) = p at *
  generalize (b.natAbs : Int) = q at *
  by_cases x : a < 0 <;> by_cases y : b < 0
  · simp only [x, y, decide_true, if_true] at e1 e2 ⊢
    rw [if_neg (by simp), ← Int.neg_mul_neg, e1, e2]
  · simp only [x, y, decide_true, decide_false, if_true, Bool.false_eq_true, if_false] at e1 e2 ⊢
    rw [if_pos (by simp), ← Int.neg_mul, e1, e2]
  · simp only [x, y, decide_true, decide_false, if_true, Bool.false_eq_true, if_false] at e1 e2 ⊢
    rw [if_pos (by simp), ← Int.mul_neg, e1, e2]
  · simp only [x, y, decide_false, Bool.false_eq_true, if_false] at e1 e2 ⊢
    rw [if_neg (by simp), e1, e2]

theorem rmul_f (a b : Int) (ha0 : -9223372036854775808 ≤ a) (ha1 : a ≤ 9223372036854775807) (hb0 : -9223372036854775808 ≤ b) (hb1 : b ≤ 9223372036854775807) (n k : Nat) (hn : n = k + 2 + 64) :
    prompterref01_Mul.f n a b = some (hold (a * b)) := by
  unfold prompterref01_Mul.f
  rw [of_f a ha0 ha1, of_f b hb0 hb1]
  simp only [Option.bind_some]
  rw [mul_round (decide (a < 0)) (decide (b < 0)) a.natAbs b.natAbs (by omega) (by omega) 64 (by omega) n k 63 0 0 hn (by decide) (by omega) (by omega) (by omega) (by
    rw [Nat.div_eq_of_lt (by omega)]; rfl)]
  rw [sign_mul]

end Go.Proofs.YthblmmighjmgpaaDoor.Plain

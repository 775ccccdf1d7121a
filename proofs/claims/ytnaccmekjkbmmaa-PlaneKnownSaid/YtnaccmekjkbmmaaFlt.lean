/-
  Plain law of floats of 64 bits that hold whole numbers of a size below 2 to the power 53: sums, differences and products of such are exact. (No program, no memory.)
-/
import Derived.Laws.FloatArith
namespace Go.Proofs.Ytnaccmekjkbmmaa.Flt
open Ieee

/-- A datum of the whole number v with a sign, at a place e below the point. -/
def D (s : Bool) (v e : Nat) : Datum := .number s (v * 2 ^ e) (-(e : Int))
/-- A whole number out of sign and size. -/
def sg (s : Bool) (v : Nat) : Int := if s then -(v : Int) else v
/-- The rung of a whole number below 2^53. -/
def rungOf (v : Nat) : Nat := if v = 0 then 0 else (v.log2 + 1022) * 4503599627370496 + v * 2 ^ (52 - v.log2)
/-- The word of sign and size. -/
def wordOf (s : Bool) (v : Nat) : Nat := if s then 9223372036854775808 + rungOf v else rungOf v

theorem cut_exact (way : Toward) (s : Bool) (K d : Nat) : way.cut s (K * 2 ^ d) d = K := by
  unfold Toward.cut
  have hgap : (1 <<< min d ((K * 2 ^ d).log2 + 2)) ∣ K * 2 ^ d ∧ (K ≠ 0 → (1 <<< min d ((K * 2 ^ d).log2 + 2)) = 2 ^ d) := by
    rw [Nat.one_shiftLeft]
    refine ⟨Nat.dvd_trans (Nat.pow_dvd_pow 2 (Nat.min_le_left _ _)) (Nat.dvd_mul_left _ _), fun hK => ?_⟩
    have hle : d ≤ (K * 2 ^ d).log2 := by
      rw [Nat.le_log2 (by
        intro h
        rcases Nat.mul_eq_zero.1 h with h | h
        · exact hK h
        · exact absurd h (by have := Nat.two_pow_pos d; omega))]
      exact Nat.le_mul_of_pos_left _ (by omega)
    rw [Nat.min_eq_left (by omega)]
  have hpos : 0 < 1 <<< min d ((K * 2 ^ d).log2 + 2) := by rw [Nat.one_shiftLeft]; exact Nat.two_pow_pos _
  obtain ⟨hdv, hg⟩ := hgap
  generalize 1 <<< min d ((K * 2 ^ d).log2 + 2) = gap at *
  have hrest : K * 2 ^ d % gap = 0 := Nat.mod_eq_zero_of_dvd hdv
  have hlow : K * 2 ^ d / gap = K := by
    by_cases hK : K = 0
    · subst hK; simp
    · rw [hg hK]; exact Nat.mul_div_cancel _ (Nat.two_pow_pos d)
  simp only [hrest, hlow]
  cases way <;> simp <;> omega

theorem log2_shift (v e : Nat) (hv : v ≠ 0) : (v * 2 ^ e).log2 = v.log2 + e := by
  have hne : v * 2 ^ e ≠ 0 := by
    intro h
    rcases Nat.mul_eq_zero.1 h with h | h
    · exact hv h
    · exact absurd h (by have := Nat.two_pow_pos e; omega)
  rw [Nat.log2_eq_iff hne]
  have h1 := Nat.log2_self_le hv
  have h2 : v < 2 ^ (v.log2 + 1) := Nat.lt_log2_self
  constructor
  · rw [Nat.pow_add]; exact Nat.mul_le_mul_right _ h1
  · rw [show v.log2 + e + 1 = (v.log2 + 1) + e by omega, Nat.pow_add]
    exact Nat.mul_lt_mul_of_pos_right h2 (Nat.two_pow_pos e)

theorem log2_le (v : Nat) (h0 : v ≠ 0) (hv : v < 9007199254740992) : v.log2 ≤ 52 := by
  have h1 := Nat.log2_self_le h0
  rcases Nat.lt_or_ge v.log2 53 with h | h
  · omega
  · have : 2 ^ 53 ≤ 2 ^ v.log2 := Nat.pow_le_pow_right (by decide) h
    have e : (2 : Nat) ^ 53 = 9007199254740992 := by decide
    omega

/-- The significand: 2^52 up to 2^53. -/
theorem signif (v : Nat) (h0 : v ≠ 0) (hv : v < 9007199254740992) : 4503599627370496 ≤ v * 2 ^ (52 - v.log2) ∧ v * 2 ^ (52 - v.log2) < 9007199254740992 := by
  have hl := log2_le v h0 hv
  have h1 := Nat.log2_self_le h0
  have h2 : v < 2 ^ (v.log2 + 1) := Nat.lt_log2_self
  have e52 : (2 : Nat) ^ 52 = 4503599627370496 := by decide
  have e53 : (2 : Nat) ^ 53 = 9007199254740992 := by decide
  constructor
  · rw [← e52, show (52 : Nat) = v.log2 + (52 - v.log2) by omega, Nat.pow_add, show v.log2 + (52 - v.log2) - v.log2 = 52 - v.log2 by omega]
    exact Nat.mul_le_mul_right _ h1
  · rw [← e53, show (53 : Nat) = (v.log2 + 1) + (52 - v.log2) by omega, Nat.pow_add]
    exact Nat.mul_lt_mul_of_pos_right h2 (Nat.two_pow_pos _)

theorem rung_lt (v : Nat) (hv : v < 9007199254740992) : rungOf v < 9218868437227405312 := by
  unfold rungOf
  by_cases h : v = 0
  · rw [if_pos h]; decide
  · rw [if_neg h]
    have := signif v h hv
    have := log2_le v h hv
    omega

theorem dbl_least : double.leastPlace = -1074 := by decide
theorem dbl_binade : double.binade = 4503599627370496 := by decide
theorem dbl_inf : double.infRung = 9218868437227405312 := by decide
theorem dbl_sign : double.signWeight = 9223372036854775808 := by decide

theorem word_eq (s : Bool) (r : Nat) : double.word s r = if s then 9223372036854775808 + r else r := by
  unfold Format.word; rw [dbl_sign]

/-- What is written: the exact word. -/
theorem write_D (s : Bool) (v e : Nat) (hv : v < 9007199254740992) : double.write (D s v e) = wordOf s v := by
  show double.nearest s (v * 2 ^ e) (-(e : Int)) = wordOf s v
  unfold Format.nearest
  by_cases h : v = 0
  · subst h; rw [if_pos (by simp), word_eq]; rfl
  · have hne : v * 2 ^ e ≠ 0 := by
      intro h'
      rcases Nat.mul_eq_zero.1 h' with h' | h'
      · exact h h'
      · exact absurd h' (by have := Nat.two_pow_pos e; omega)
    rw [if_neg hne, log2_shift v e h, dbl_least]
    have hl := log2_le v h hv
    have hs := signif v h hv
    have hlast : max (-(e : Int) + ((v.log2 + e : Nat) : Int) - (double.fractionBits : Int)) (-1074) = (v.log2 : Int) - 52 := by
      have : (double.fractionBits : Int) = 52 := rfl
      omega
    dsimp only
    rw [hlast]
    have hkept : Toward.even.cut s ((v * 2 ^ e) <<< (-(e : Int) - ((v.log2 : Int) - 52)).toNat) ((v.log2 : Int) - 52 - -(e : Int)).toNat = v * 2 ^ (52 - v.log2) := by
      rw [Nat.shiftLeft_eq]
      by_cases hc : e ≤ 52 - v.log2
      · rw [show ((v.log2 : Int) - 52 - -(e : Int)).toNat = 0 by omega, show (-(e : Int) - ((v.log2 : Int) - 52)).toNat = 52 - v.log2 - e by omega, Nat.mul_assoc, ← Nat.pow_add, show e + (52 - v.log2 - e) = 52 - v.log2 by omega]
        have := cut_exact .even s (v * 2 ^ (52 - v.log2)) 0
        rwa [Nat.pow_zero, Nat.mul_one] at this
      · rw [show (-(e : Int) - ((v.log2 : Int) - 52)).toNat = 0 by omega, Nat.pow_zero, Nat.mul_one]
        obtain ⟨d, hd⟩ : ∃ d, e = (52 - v.log2) + d := ⟨e - (52 - v.log2), by omega⟩
        rw [show ((v.log2 : Int) - 52 - -(e : Int)).toNat = d by omega]
        conv => lhs; arg 3; rw [hd, Nat.pow_add, ← Nat.mul_assoc]
        exact cut_exact .even s _ d
    rw [hkept, dbl_inf, dbl_binade, show ((v.log2 : Int) - 52 - -1074).toNat = v.log2 + 1022 by omega, Nat.min_eq_left (by omega), word_eq]
    unfold wordOf rungOf
    rw [if_neg h]

theorem D_zero (s : Bool) (e : Nat) (p : Int) (h : -(e : Int) = p) : Datum.number s 0 p = D s 0 e := by unfold D; rw [Nat.zero_mul, h]

/-- What is read. -/
theorem read_word (s : Bool) (v : Nat) (hv : v < 9007199254740992) : ∃ e, double.read (wordOf s v) = D s v e := by
  have hr := rung_lt v hv
  have hneg : (wordOf s v / 9223372036854775808 % 2 == 1) = s := by
    unfold wordOf
    cases s
    · rw [if_neg (by simp), Nat.div_eq_of_lt (by omega)]; rfl
    · rw [if_pos rfl, show (9223372036854775808 + rungOf v) / 9223372036854775808 = 1 by omega]; rfl
  have hrung : wordOf s v % 9223372036854775808 = rungOf v := by
    unfold wordOf
    cases s
    · rw [if_neg (by simp)]; omega
    · rw [if_pos rfl]; omega
  unfold Format.read
  dsimp only
  rw [dbl_sign, hneg, hrung, dbl_binade, dbl_inf, dbl_least]
  by_cases h : v = 0
  · subst h
    refine ⟨1074, ?_⟩
    rw [show rungOf 0 = 0 from rfl, if_pos (by decide)]
    exact D_zero s 1074 (-1074) (by decide)
  · have hl := log2_le v h hv
    have hs := signif v h hv
    have hrv : rungOf v = (v.log2 + 1022) * 4503599627370496 + v * 2 ^ (52 - v.log2) := by unfold rungOf; rw [if_neg h]
    refine ⟨52 - v.log2, ?_⟩
    rw [hrv] at hr ⊢
    rw [if_neg (by omega), if_pos (by omega)]
    unfold D
    generalize v * 2 ^ (52 - v.log2) = K at *
    congr 1
    · omega
    · omega

theorem sg_zero (s : Bool) : sg s 0 = 0 := by cases s <;> rfl
theorem sg_natAbs (s : Bool) (v : Nat) : (sg s v).natAbs = v := by cases s <;> simp [sg]
theorem signed_eq (s : Bool) (v e u : Nat) : signed s (v * 2 ^ e) u = sg s v * ((2 ^ (e + u) : Nat) : Int) := by
  unfold signed sg
  rw [Nat.shiftLeft_eq, Nat.mul_assoc, ← Nat.pow_add]
  cases s
  · simp
  · simp [Int.neg_mul]

theorem pow_pos_int (n : Nat) : (0 : Int) < ((2 ^ n : Nat) : Int) := by
  have := Nat.two_pow_pos n; omega

/-- A sum of two such is such. -/
theorem sum_D (s t : Bool) (u v e f : Nat) : ∃ (x : Bool) (g : Nat), (D s u e).sum (D t v f) = some (D x (sg s u + sg t v).natAbs g) ∧ sg x (sg s u + sg t v).natAbs = sg s u + sg t v := by
  unfold D Datum.sum
  dsimp only
  have e1 : (-(e : Int) - min (-(e : Int)) (-(f : Int))).toNat = max e f - e := by omega
  have e2 : (-(f : Int) - min (-(e : Int)) (-(f : Int))).toNat = max e f - f := by omega
  have e3 : min (-(e : Int)) (-(f : Int)) = -((max e f : Nat) : Int) := by omega
  rw [e1, e2, e3, signed_eq, signed_eq, show e + (max e f - e) = max e f by omega, show f + (max e f - f) = max e f by omega, ← Int.add_mul]
  have hp := pow_pos_int (max e f)
  generalize sg s u + sg t v = S
  have hz : (S * ((2 ^ max e f : Nat) : Int) = 0) ↔ S = 0 := by
    constructor
    · intro h
      rcases Int.mul_eq_zero.1 h with h | h
      · exact h
      · omega
    · intro h; rw [h]; simp
  have hlt : (S * ((2 ^ max e f : Nat) : Int) < 0) ↔ S < 0 := by
    constructor
    · intro h
      rcases Int.lt_or_le S 0 with h' | h'
      · exact h'
      · have := Int.mul_nonneg h' (Int.le_of_lt hp); omega
    · intro h; exact Int.mul_neg_of_neg_of_pos h hp
  refine ⟨if S = 0 then s && t else decide (S < 0), max e f, ?_, ?_⟩
  · rw [Int.natAbs_mul, Int.natAbs_natCast]
    congr 2
    by_cases h : S = 0
    · rw [if_pos (hz.2 h), if_pos h]
    · rw [if_neg (fun h' => h (hz.1 h')), if_neg h]
      simp only [decide_eq_decide]
      exact hlt
  · by_cases h : S = 0
    · subst h; rw [Int.natAbs_zero, sg_zero]
    · rw [if_neg h]
      unfold sg
      by_cases h' : S < 0
      · simp [h']; omega
      · simp [h']; omega

theorem product_D (s t : Bool) (u v e f : Nat) : (D s u e).product (D t v f) = some (D (s ^^ t) (u * v) (e + f)) := by
  unfold D Datum.product
  dsimp only
  congr 2
  · rw [Nat.pow_add]; simp only [Nat.mul_assoc, Nat.mul_left_comm]
  · omega

theorem opposite_D (s : Bool) (v e : Nat) : (D s v e).opposite = D (!s) v e := rfl

theorem sg_not (s : Bool) (v : Nat) : sg (!s) v = -sg s v := by cases s <;> simp [sg]
theorem sg_xor (s t : Bool) (u v : Nat) : sg (s ^^ t) (u * v) = sg s u * sg t v := by
  cases s <;> cases t <;> simp [sg, Int.neg_mul, Int.mul_neg]

theorem compare_mul (a b p : Int) (hp : 0 < p) : compare (a * p) (b * p) = compare a b := by
  rcases Int.lt_trichotomy a b with h | h | h
  · have h2 : a * p < b * p := Int.mul_lt_mul_of_pos_right h hp
    rw [Int.compare_eq_lt.2 h, Int.compare_eq_lt.2 h2]
  · subst h; simp
  · have h2 : b * p < a * p := Int.mul_lt_mul_of_pos_right h hp
    rw [Int.compare_eq_gt.2 h, Int.compare_eq_gt.2 h2]

theorem order_D (s t : Bool) (u v e f : Nat) : (D s u e).order (D t v f) = some (compare (sg s u) (sg t v)) := by
  unfold D Datum.order
  dsimp only
  have e1 : (-(e : Int) - min (-(e : Int)) (-(f : Int))).toNat = max e f - e := by omega
  have e2 : (-(f : Int) - min (-(e : Int)) (-(f : Int))).toNat = max e f - f := by omega
  rw [e1, e2, signed_eq, signed_eq, show e + (max e f - e) = max e f by omega, show f + (max e f - f) = max e f by omega, compare_mul _ _ _ (pow_pos_int _)]

theorem toInt_D (s : Bool) (v e : Nat) : (D s v e).toInt .zero = some (sg s v) := by
  unfold D Datum.toInt Datum.integral
  dsimp only
  rw [show (-(e : Int)).toNat = 0 by omega, show (- -(e : Int)).toNat = e by omega, Nat.shiftLeft_zero, cut_exact]
  have := signed_eq s v 0 0
  simp at this
  rw [this]

/-! ### Words that hold a whole number -/
/-- A word that holds the whole number n (of 0: either nought). -/
def Is (n : Int) (b : Nat) : Prop := ∃ s v, b = wordOf s v ∧ v < 9007199254740992 ∧ sg s v = n
/-- The word of n, plain. -/
def P (n : Int) : Nat := wordOf (decide (n < 0)) n.natAbs

theorem is_P (n : Int) (h : n.natAbs < 9007199254740992) : Is n (P n) := by
  refine ⟨_, _, rfl, h, ?_⟩
  unfold sg
  by_cases h0 : n < 0
  · simp [h0]; omega
  · simp [h0]; omega

theorem P_zero : P 0 = 0 := by decide

/-- Of a number that is not 0 there is one word. -/
theorem is_ne {n : Int} {b : Nat} (h : Is n b) (h0 : n ≠ 0) : b = P n := by
  obtain ⟨s, v, rfl, hv, rfl⟩ := h
  unfold P
  rw [sg_natAbs]
  congr 1
  have hv0 : v ≠ 0 := fun h => h0 (by rw [h, sg_zero])
  unfold sg
  cases s
  · simp
  · simp; omega

theorem ofInt_P (n : Int) (h : n.natAbs < 9007199254740992) : floatOfInt .f64 n = P n := by
  show double.write (.number (decide (n < 0)) n.natAbs 0) = P n
  have := write_D (decide (n < 0)) n.natAbs 0 h
  unfold D at this
  rw [Nat.pow_zero, Nat.mul_one] at this
  exact this

theorem add_is {m n : Int} {a b : Nat} (ha : Is m a) (hb : Is n b) (h : (m + n).natAbs < 9007199254740992) : ∃ c, floatBits .add .f64 a b = some c ∧ Is (m + n) c := by
  obtain ⟨s, u, rfl, hu, rfl⟩ := ha
  obtain ⟨t, v, rfl, hv, rfl⟩ := hb
  obtain ⟨e, he⟩ := read_word s u hu
  obtain ⟨f, hf⟩ := read_word t v hv
  obtain ⟨x, g, hs, hx⟩ := sum_D s t u v e f
  refine ⟨wordOf x (sg s u + sg t v).natAbs, ?_, x, _, rfl, h, hx⟩
  show ((double.read (wordOf s u)).sum (double.read (wordOf t v))).map double.write = _
  rw [he, hf, hs, Option.map_some, write_D _ _ _ h]

theorem sub_is {m n : Int} {a b : Nat} (ha : Is m a) (hb : Is n b) (h : (m - n).natAbs < 9007199254740992) : ∃ c, floatBits .sub .f64 a b = some c ∧ Is (m - n) c := by
  obtain ⟨s, u, rfl, hu, rfl⟩ := ha
  obtain ⟨t, v, rfl, hv, rfl⟩ := hb
  obtain ⟨e, he⟩ := read_word s u hu
  obtain ⟨f, hf⟩ := read_word t v hv
  obtain ⟨x, g, hs, hx⟩ := sum_D s (!t) u v e f
  have hst : sg s u + sg (!t) v = sg s u - sg t v := by rw [sg_not]; omega
  rw [hst] at hs hx
  refine ⟨wordOf x (sg s u - sg t v).natAbs, ?_, x, _, rfl, h, hx⟩
  show ((double.read (wordOf s u)).sum (double.read (wordOf t v)).opposite).map double.write = _
  rw [he, hf, opposite_D, hs, Option.map_some, write_D _ _ _ h]

theorem mul_is {m n : Int} {a b : Nat} (ha : Is m a) (hb : Is n b) (h : (m * n).natAbs < 9007199254740992) : ∃ c, floatBits .mul .f64 a b = some c ∧ Is (m * n) c := by
  obtain ⟨s, u, rfl, hu, rfl⟩ := ha
  obtain ⟨t, v, rfl, hv, rfl⟩ := hb
  obtain ⟨e, he⟩ := read_word s u hu
  obtain ⟨f, hf⟩ := read_word t v hv
  have hn : u * v < 9007199254740992 := by rw [Int.natAbs_mul, sg_natAbs, sg_natAbs] at h; exact h
  refine ⟨wordOf (s ^^ t) (u * v), ?_, _, _, rfl, hn, sg_xor s t u v⟩
  show ((double.read (wordOf s u)).product (double.read (wordOf t v))).map double.write = _
  rw [he, hf, product_D, Option.map_some, write_D _ _ _ hn]

theorem order_is {m n : Int} {a b : Nat} (ha : Is m a) (hb : Is n b) : double.order a b = some (compare m n) := by
  obtain ⟨s, u, rfl, hu, rfl⟩ := ha
  obtain ⟨t, v, rfl, hv, rfl⟩ := hb
  obtain ⟨e, he⟩ := read_word s u hu
  obtain ⟨f, hf⟩ := read_word t v hv
  unfold Format.order
  rw [he, hf, order_D]

theorem toInt_is {n : Int} {b : Nat} (h : Is n b) (hn : n.natAbs < 9007199254740992) : floatToIntVal .f64 b .i64 = some n := by
  obtain ⟨s, v, rfl, hv, rfl⟩ := h
  obtain ⟨e, he⟩ := read_word s v hv
  unfold floatToIntVal
  rw [show FloatKind.f64.decode (wordOf s v) = D s v e from he, toInt_D]
  have h1 : IntKind.i64.min = -9223372036854775808 := rfl
  have h2 : IntKind.i64.max = 9223372036854775807 := rfl
  dsimp only
  rw [if_pos (by rw [h1, h2]; omega)]

theorem order_big (t : Bool) {n : Int} {b : Nat} (h : Is n b) : double.order b (if t then 14114281232179134464 else 4890909195324358656) = some (if t then .gt else .lt) := by
  obtain ⟨s, v, rfl, hv, rfl⟩ := h
  obtain ⟨e, he⟩ := read_word s v hv
  unfold Format.order
  have hb : double.read (if t then 14114281232179134464 else 4890909195324358656) = .number t 4503599627370496 11 := by cases t <;> decide +kernel
  rw [he, hb]
  unfold D Datum.order
  dsimp only
  rw [show (-(e : Int) - min (-(e : Int)) 11).toNat = 0 by omega, show ((11 : Int) - min (-(e : Int)) 11).toNat = e + 11 by omega, signed_eq, Nat.add_zero]
  have h2 : signed t 4503599627370496 (e + 11) = (if t then -9223372036854775808 else 9223372036854775808) * ((2 ^ e : Nat) : Int) := by
    unfold signed
    rw [Nat.shiftLeft_eq, Nat.pow_add, show (2 : Nat) ^ 11 = 2048 from rfl]
    generalize 2 ^ e = q
    cases t
    · simp only [Bool.false_eq_true, if_false]; omega
    · simp only [if_true]; omega
  rw [h2, compare_mul _ _ _ (pow_pos_int e)]
  have hs : -9007199254740992 < sg s v ∧ sg s v < 9007199254740992 := by
    have := sg_natAbs s v; omega
  cases t
  · simp only [Bool.false_eq_true, if_false]; rw [Int.compare_eq_lt.2 (by omega)]
  · simp only [if_true]; rw [Int.compare_eq_gt.2 (by omega)]

end Go.Proofs.Ytnaccmekjkbmmaa.Flt

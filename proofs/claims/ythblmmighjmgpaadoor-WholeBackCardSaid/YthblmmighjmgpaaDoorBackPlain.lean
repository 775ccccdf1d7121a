/-
  The plain law of WholeBack: what is told is read as it was; what is read is told as it stands.
-/
import Derived.Test.YthblmmighjmgpaaDoorReadPlain
import Derived.Test.YthblmmighjmgpaaDoorTxtPlain
namespace Go.Proofs.YthblmmighjmgpaaDoor.Plain
open Go.RowKit

theorem numF_snoc (n : Nat) (l : List UInt8) (c : UInt8) : numF n (l ++ [c]) = 10 * numF n l + (c.toNat - 48) := by
  unfold numF; rw [List.foldl_append]; rfl

theorem numF_pos (c : UInt8) (l : List UInt8) (h0 : dig c = true) (h1 : c ≠ 48) : 1 ≤ numF 0 (c :: l) := by
  have hb := dig_bd h0
  have hn : c.toNat ≠ 48 := fun h => h1 (UInt8.toNat_inj.1 h)
  rw [numF_cons]
  have := numF_ge l (10 * 0 + (c.toNat - 48))
  omega

/-- Digits of u: they say u, are digits, and begin with no nought but for 0 alone. -/
theorem decDigits_says : ∀ (f u : Nat), u < f → numF 0 (Lib.decDigits u) = u ∧ (Lib.decDigits u).all dig = true ∧ Lib.decDigits u ≠ [] ∧ ((Lib.decDigits u).head? = some 48 → (Lib.decDigits u).length = 1 ∧ u = 0)
  | 0, u, h => absurd h (by omega)
  | f + 1, u, h => by
    by_cases h9 : u < 10
    · have ht : (UInt8.ofNat (48 + u)).toNat = 48 + u := by simp; omega
      rw [decDigits_lo u h9]
      refine ⟨?_, ?_, by simp, ?_⟩
      · rw [numF_cons, numF_nil, ht]; omega
      · simp [dig]; omega
      · intro hh
        simp only [List.head?_cons, Option.some.injEq] at hh
        have := congrArg UInt8.toNat hh
        rw [ht] at this
        exact ⟨rfl, by simpa using this⟩
    · obtain ⟨h1, h2, h3, h4⟩ := decDigits_says f (u / 10) (by omega)
      have ht : (UInt8.ofNat (48 + u % 10)).toNat = 48 + u % 10 := by simp; omega
      rw [decDigits_hi u h9]
      refine ⟨?_, ?_, by simp, ?_⟩
      · rw [numF_snoc, h1, ht]; omega
      · rw [List.all_append, h2]; simp [dig]; omega
      · intro hh
        have hd : (Lib.decDigits (u / 10) ++ [UInt8.ofNat (48 + u % 10)]).head? = (Lib.decDigits (u / 10)).head? := by
          cases e : Lib.decDigits (u / 10) with
          | nil => exact absurd e h3
          | cons c r => rfl
        rw [hd] at hh
        have := (h4 hh).2
        omega

/-- What digits without a nought ahead say is told by just these digits. -/
theorem says_decDigits : ∀ (n : Nat) (l : List UInt8), l.length = n → l ≠ [] → l.all dig = true → (l.head? = some 48 → l.length = 1) → Lib.decDigits (numF 0 l) = l
  | 0, l, hn, hne, _, _ => absurd (List.length_eq_zero_iff.1 hn) hne
  | n + 1, l, hn, hne, ha, hz => by
    obtain ⟨m, c, rfl⟩ : ∃ m c, l = m ++ [c] := ⟨l.dropLast, l.getLast hne, (List.dropLast_concat_getLast hne).symm⟩
    rw [List.all_append, Bool.and_eq_true] at ha
    obtain ⟨ha, hc⟩ := ha
    have hb := dig_bd (by simpa using hc)
    rw [numF_snoc]
    have hl : m.length = n := by simpa using hn
    by_cases hm : m = []
    · subst hm
      rw [numF_nil, decDigits_lo _ (by omega)]
      rw [show 48 + (10 * 0 + (c.toNat - 48)) = c.toNat by omega]
      simp
    · obtain ⟨x, r, e⟩ : ∃ x r, m = x :: r := by
        cases m with
        | nil => exact absurd rfl hm
        | cons x r => exact ⟨x, r, rfl⟩
      have hx : x ≠ 48 := by
        intro h
        have h1 := hz (by rw [e, h]; rfl)
        simp at h1
        exact hm h1
      have hpos : 1 ≤ numF 0 m := by
        rw [e] at ha ⊢
        rw [List.all_cons, Bool.and_eq_true] at ha
        exact numF_pos x r ha.1 hx
      have ih := says_decDigits n m hl hm ha (fun h => by
        rw [e] at h
        simp only [List.head?_cons, Option.some.injEq] at h
        exact absurd h hx)
      rw [decDigits_hi _ (by omega), show (10 * numF 0 m + (c.toNat - 48)) / 10 = numF 0 m by omega, ih, show 48 + (10 * numF 0 m + (c.toNat - 48)) % 10 = c.toNat by omega]
      simp

theorem okB_parts {neg : Bool} {ds : List UInt8} (h : okB neg ds = true) : ds ≠ [] ∧ ds.all dig = true ∧ (ds.head? = some 48 → neg = false ∧ ds.length = 1) := by
  unfold okB at h
  simp only [Bool.and_eq_true, Bool.not_eq_true', Bool.and_eq_false_iff, Bool.or_eq_false_iff, beq_eq_false_iff_ne, decide_eq_false_iff_not, List.isEmpty_eq_false_iff] at h
  obtain ⟨⟨h1, h2⟩, h3⟩ := h
  refine ⟨h1, h2, fun hh => ?_⟩
  rcases h3 with h3 | ⟨h3, h4⟩
  · exact absurd hh h3
  · refine ⟨h3, ?_⟩
    have := List.length_pos_iff.2 h1
    omega

theorem okB_of {neg : Bool} {ds : List UInt8} (h1 : ds ≠ []) (h2 : ds.all dig = true) (h3 : ds.head? = some 48 → neg = false ∧ ds.length = 1) : okB neg ds = true := by
  unfold okB
  simp only [Bool.and_eq_true, Bool.not_eq_true', Bool.and_eq_false_iff, Bool.or_eq_false_iff, beq_eq_false_iff_ne, decide_eq_false_iff_not, List.isEmpty_eq_false_iff]
  refine ⟨⟨h1, h2⟩, ?_⟩
  by_cases hh : ds.head? = some 48
  · exact Or.inr ⟨(h3 hh).1, by have := (h3 hh).2; omega⟩
  · exact Or.inl hh

/-- A number that is told is read as it was. -/
theorem read_itoa (a : Int) (h0 : -9223372036854775808 ≤ a) (h1 : a ≤ 9223372036854775807) : readS (Lib.itoa a) = (a, 0) := by
  unfold readS Lib.itoa
  by_cases h : a < 0
  · rw [if_pos h]
    obtain ⟨d1, d2, d3, d4⟩ := decDigits_says (a.natAbs + 1) a.natAbs (by omega)
    have hn : negOf (45 :: Lib.decDigits a.natAbs) = true := rfl
    have hd : dsOf (45 :: Lib.decDigits a.natAbs) = Lib.decDigits a.natAbs := rfl
    rw [hn, hd, if_pos (okB_of d3 d2 (fun hh => by have := (d4 hh).2; omega))]
    unfold said
    rw [d1, if_pos (by omega), if_neg (by simp)]
    simp only [if_true, Prod.mk.injEq, and_true]
    omega
  · rw [if_neg h]
    obtain ⟨d1, d2, d3, d4⟩ := decDigits_says (a.toNat + 1) a.toNat (by omega)
    have hn : negOf (Lib.decDigits a.toNat) = false := by
      cases e : Lib.decDigits a.toNat with
      | nil => exact absurd e d3
      | cons c r =>
        rw [e, List.all_cons, Bool.and_eq_true] at d2
        have := dig_bd d2.1
        have hc : ¬ c = 45 := fun hc => by rw [hc] at this; exact absurd this.1 (by decide)
        simp [negOf, hc]
    have hd : dsOf (Lib.decDigits a.toNat) = Lib.decDigits a.toNat := by unfold dsOf; rw [hn]; rfl
    rw [hn, hd, if_pos (okB_of d3 d2 (fun hh => ⟨rfl, (d4 hh).1⟩))]
    unfold said
    rw [d1, if_pos (by omega), if_neg (by omega)]
    simp only [Bool.false_eq_true, if_false, Prod.mk.injEq, and_true]
    omega

theorem numF_lt (l : List UInt8) (h : l.all dig = true) : ∀ n k : Nat, n < 10 ^ k → numF n l < 10 ^ (k + l.length) := by
  induction l with
  | nil => intro n k hn; rw [numF_nil]; exact hn
  | cons c l ih =>
    intro n k hn
    rw [List.all_cons, Bool.and_eq_true] at h
    have hb := dig_bd h.1
    rw [numF_cons, show k + (c :: l).length = (k + 1) + l.length by simp; omega]
    exact ih h.2 _ _ (by rw [Nat.pow_succ]; omega)

/-- Of a text that is refused: 0 beside the error; a text too long has more than 18 bytes. -/
theorem read_refused (l : List UInt8) (h : (readS l).2 ≠ 0) : readS l = (0, 9) ∨ (readS l = (0, 2) ∧ 18 < l.length) := by
  unfold readS at *
  by_cases hok : okB (negOf l) (dsOf l) = true
  · rw [if_pos hok] at h ⊢
    right
    obtain ⟨p1, p2, p3⟩ := okB_parts hok
    have hlt := numF_lt (dsOf l) p2 0 0 (by decide)
    have hle : (dsOf l).length ≤ l.length := by
      unfold dsOf; split
      · rw [List.length_drop]; omega
      · exact Nat.le_refl _
    have hbig : 9223372036854775808 ≤ numF 0 (dsOf l) → 18 < l.length := by
      intro hb
      refine Nat.lt_of_lt_of_le ?_ hle
      rcases Nat.lt_or_ge 18 (dsOf l).length with hh | hh
      · exact hh
      · have : 10 ^ (0 + (dsOf l).length) ≤ 10 ^ 18 := Nat.pow_le_pow_right (by decide) (by omega)
        have e : (10 : Nat) ^ 18 = 1000000000000000000 := by decide
        omega
    unfold said at *
    by_cases hn : numF 0 (dsOf l) ≤ 9223372036854775808
    · rw [if_pos hn] at h ⊢
      by_cases hq : numF 0 (dsOf l) = 9223372036854775808 ∧ negOf l = false
      · rw [if_pos hq]; exact ⟨rfl, hbig (by omega)⟩
      · rw [if_neg hq] at h; exact absurd rfl h
    · rw [if_neg hn]; exact ⟨rfl, hbig (by omega)⟩
  · rw [if_neg hok]; exact Or.inl rfl

/-- A text that is read is told as it stands; what is read is an int64. -/
theorem itoa_read (l : List UInt8) (m : Int) (h : readS l = (m, 0)) : Lib.itoa m = l ∧ -9223372036854775808 ≤ m ∧ m ≤ 9223372036854775807 := by
  unfold readS at h
  by_cases hok : okB (negOf l) (dsOf l) = true
  · rw [if_pos hok] at h
    obtain ⟨p1, p2, p3⟩ := okB_parts hok
    have hdd := says_decDigits _ (dsOf l) rfl p1 p2 (fun hh => (p3 hh).2)
    unfold said at h
    by_cases hn : numF 0 (dsOf l) ≤ 9223372036854775808
    · rw [if_pos hn] at h
      by_cases hq : numF 0 (dsOf l) = 9223372036854775808 ∧ negOf l = false
      · rw [if_pos hq] at h; simp at h
      · rw [if_neg hq] at h
        cases hneg : negOf l with
        | true =>
          rw [hneg] at h p3
          simp only [if_true, Prod.mk.injEq, and_true] at h
          obtain ⟨c, r, e⟩ : ∃ c r, l = c :: r := by
            cases l with
            | nil => exact absurd hneg (by decide)
            | cons c r => exact ⟨c, r, rfl⟩
          have hc : c = 45 := by rw [e] at hneg; simpa [negOf] using hneg
          have hds : dsOf l = r := by unfold dsOf; rw [hneg, e]; rfl
          have hpos : 1 ≤ numF 0 (dsOf l) := by
            cases e2 : dsOf l with
            | nil => exact absurd e2 p1
            | cons x y =>
              rw [e2, List.all_cons, Bool.and_eq_true] at p2
              refine numF_pos x y p2.1 (fun hx => ?_)
              have := (p3 (by rw [e2, hx]; rfl)).1
              exact absurd this (by decide)
          refine ⟨?_, by omega, by omega⟩
          unfold Lib.itoa
          rw [if_pos (by omega), ← h, Int.natAbs_neg, Int.natAbs_natCast, hdd, hds, e, hc]
        | false =>
          rw [hneg] at h hq
          simp only [Bool.false_eq_true, if_false, Prod.mk.injEq, and_true] at h hq
          have hds : dsOf l = l := by unfold dsOf; rw [hneg]; rfl
          refine ⟨?_, by omega, by omega⟩
          unfold Lib.itoa
          rw [if_neg (by omega), ← h, Int.toNat_natCast, hdd, hds]
    · rw [if_neg hn] at h; simp at h
  · rw [if_neg hok] at h; simp at h

end Go.Proofs.YthblmmighjmgpaaDoor.Plain

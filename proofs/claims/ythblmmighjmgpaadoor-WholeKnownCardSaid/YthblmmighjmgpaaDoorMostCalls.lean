/-
  The contracts of the greatest of some, of both texts, and of what is cut to bytes.
-/
import Derived.Test.YthblmmighjmgpaaDoorRestsCalls
import Derived.Test.YthblmmighjmgpaaDoorFnMost
import Derived.Test.YthblmmighjmgpaaDoorFnSmall
namespace Go.Proofs.YthblmmighjmgpaaDoor
open Go.RowKit Go.Proofs.YthblmmighjmgpaaDoorW.PrintWords Go.Proofs.YthblmmighjmgpaaDoorW.PrintLast Go.Proofs.YthblmmighjmgpaaDoorW.PrintMore
open Plain (hold)
set_option linter.unusedVariables false

/-- The greatest of some, 0 of none. -/
def topOf : List Int → Int
  | [] => 0
  | x :: l => l.foldl (fun m y => if y > m then y else m) x

theorem topOf_snoc (l : List Int) (y : Int) (h : l ≠ []) : topOf (l ++ [y]) = if y > topOf l then y else topOf l := by
  cases l with
  | nil => exact absurd rfl h
  | cons x l => simp [topOf, List.foldl_append]

theorem topOf_one (y : Int) : topOf [y] = y := rfl

theorem take_rd (l : List Int) (i : Nat) (h : i < l.length) : l.take (i + 1) = l.take i ++ [rd l (i : Int)] := by
  rw [List.take_succ_eq_append_getElem h]
  congr 2
  unfold rd
  simp [h]

theorem topOf_bd (lo hi : Int) (h0 : lo ≤ 0) (h1 : 0 ≤ hi) (l : List Int) (hl : ∀ x ∈ l, lo ≤ x ∧ x ≤ hi) : lo ≤ topOf l ∧ topOf l ≤ hi := by
  cases l with
  | nil => exact ⟨h0, h1⟩
  | cons x l =>
    unfold topOf
    have h2 := hl x (by simp)
    have h3 : ∀ y ∈ l, lo ≤ y ∧ y ≤ hi := fun y hy => hl y (by simp [hy])
    clear hl
    induction l generalizing x with
    | nil => exact h2
    | cons y l ih =>
      simp only [List.foldl_cons]
      have hy := h3 y (by simp)
      exact ih _ (by split <;> assumption) (fun z hz => h3 z (by simp [hz]))

/-- The step of every loop. -/
theorem topOf_step (l : List Int) (i : Nat) (h : i < l.length) : topOf (l.take (i + 1)) = if (i : Int) = 0 then rd l (i : Int) else if rd l (i : Int) > topOf (l.take i) then rd l (i : Int) else topOf (l.take i) := by
  rw [take_rd l i h]
  by_cases h0 : i = 0
  · subst h0; simp [topOf_one]
  · rw [if_neg (by omega), topOf_snoc]
    intro e
    have := congrArg List.length e
    rw [List.length_take, List.length_nil] at this
    omega

theorem most64_l (l : List Int) (hl : l.length ≤ 9223372036854775807) : ∀ (d i k : Nat), d + i = l.length → d < k →
    Fn.whole_Most_int64.l0 k l (topOf (l.take i)) l (l.length : Int) (i : Int) = some (topOf l, decide ((l.length : Int) > 0))
  | 0, i, k, hd, hk => by
    obtain ⟨k, rfl⟩ : ∃ m, k = m + 1 := ⟨k - 1, by omega⟩
    simp only [Fn.whole_Most_int64.l0]
    rw [if_neg (by omega), List.take_of_length_le (by omega)]
  | d + 1, i, k, hd, hk => by
    obtain ⟨k, rfl⟩ : ∃ m, k = m + 1 := ⟨k - 1, by omega⟩
    have ih := most64_l l hl d (i + 1) k (by omega) (by omega)
    have hw : wrap64 ((i : Int) + 1) = ((i + 1 : Nat) : Int) := by unfold wrap64; omega
    simp only [Fn.whole_Most_int64.l0]
    rw [if_pos (by omega), if_pos (by omega), if_pos (by omega), hw]
    rw [topOf_step l i (by omega)] at ih
    split at ih
    · rename_i h; rw [if_pos h]; exact ih
    · rename_i h; rw [if_neg h]
      split at ih
      · rename_i h2; rw [if_pos h2]; exact ih
      · rename_i h2; rw [if_neg h2]; exact ih

theorem most8_l (l : List Int) (hl : l.length ≤ 9223372036854775807) : ∀ (d i k : Nat), d + i = l.length → d < k →
    Fn.whole_Most_int8.l0 k l (topOf (l.take i)) l (l.length : Int) (i : Int) = some (topOf l, decide ((l.length : Int) > 0))
  | 0, i, k, hd, hk => by
    obtain ⟨k, rfl⟩ : ∃ m, k = m + 1 := ⟨k - 1, by omega⟩
    simp only [Fn.whole_Most_int8.l0]
    rw [if_neg (by omega), List.take_of_length_le (by omega)]
  | d + 1, i, k, hd, hk => by
    obtain ⟨k, rfl⟩ : ∃ m, k = m + 1 := ⟨k - 1, by omega⟩
    have ih := most8_l l hl d (i + 1) k (by omega) (by omega)
    have hw : wrap64 ((i : Int) + 1) = ((i + 1 : Nat) : Int) := by unfold wrap64; omega
    simp only [Fn.whole_Most_int8.l0]
    rw [if_pos (by omega), if_pos (by omega), if_pos (by omega), hw]
    rw [topOf_step l i (by omega)] at ih
    split at ih
    · rename_i h; rw [if_pos h]; exact ih
    · rename_i h; rw [if_neg h]
      split at ih
      · rename_i h2; rw [if_pos h2]; exact ih
      · rename_i h2; rw [if_neg h2]; exact ih

theorem rmost_l (l : List Int) (hl : l.length ≤ 9223372036854775807) : ∀ (d i k : Nat), d + i = l.length → 1 ≤ i → d < k →
    Fn.prompterref01_Most.l0 k l (topOf (l.take i)) (i : Int) = some (topOf l, true)
  | 0, i, k, hd, hi, hk => by
    obtain ⟨k, rfl⟩ : ∃ m, k = m + 1 := ⟨k - 1, by omega⟩
    simp only [Fn.prompterref01_Most.l0]
    rw [if_neg (by omega), List.take_of_length_le (by omega)]
  | d + 1, i, k, hd, hi, hk => by
    obtain ⟨k, rfl⟩ : ∃ m, k = m + 1 := ⟨k - 1, by omega⟩
    have ih := rmost_l l hl d (i + 1) k (by omega) (by omega) (by omega)
    have hw : wrap64 ((i : Int) + 1) = ((i + 1 : Nat) : Int) := by unfold wrap64; omega
    simp only [Fn.prompterref01_Most.l0]
    rw [if_pos (by omega), if_pos (by omega), hw]
    rw [topOf_step l i (by omega), if_neg (by omega)] at ih
    exact ih

section
variable (A : Option Addr) (c : Nat) (l : List Int) (w : World) (hc : l.length ≤ c)
include hc
theorem most64_c (hr : Kd.C (Kd.int .i64) w A l.length l) : Calls Tryd.prog 12 #[.slice A l.length c] w (Gives (.tuple #[.int .i64 (topOf l), .bool (decide ((l.length : Int) > 0))]) w) :=
  (Fn.whole_Most_int64.calls (l.length + 1) A c l _ _ w hr hc (most64_l l (Kd.C_max hr) l.length 0 _ (by omega) (by omega))).mono fun _ _ h => ⟨h.1, h.2.below⟩
theorem most8_c (hr : Kd.C (Kd.int .i8) w A l.length l) : Calls Tryd.prog 15 #[.slice A l.length c] w (Gives (.tuple #[.int .i8 (topOf l), .bool (decide ((l.length : Int) > 0))]) w) :=
  (Fn.whole_Most_int8.calls (l.length + 1) A c l _ _ w hr hc (most8_l l (Kd.C_max hr) l.length 0 _ (by omega) (by omega))).mono fun _ _ h => ⟨h.1, h.2.below⟩
theorem rmost_c (hr : Kd.C (Kd.int .i64) w A l.length l) : Calls Tryd.prog 13 #[.slice A l.length c] w (Gives (.tuple #[.int .i64 (topOf l), .bool (decide ((l.length : Int) > 0))]) w) :=
  Fn.prompterref01_Most.calls (l.length + 1) A c l _ _ w hr hc (by
    unfold Fn.prompterref01_Most.f
    have hm := Kd.C_max hr
    by_cases h : l.length = 0
    · have : l = [] := List.length_eq_zero_iff.1 h
      subst this
      rfl
    · rw [if_neg (by omega), if_pos (by omega)]
      have h1 := rmost_l l hm (l.length - 1) 1 (l.length + 1) (by omega) (by omega) (by omega)
      rw [topOf_step l 0 (by omega), if_pos (by omega)] at h1
      rw [show decide ((l.length : Int) > 0) = true by simp; omega]
      exact h1)
end

/-- Numbers cut to a byte. -/
theorem small_l (l : List Int) (hl : l.length ≤ 200) : ∀ (d i k : Nat), d + i = l.length → d < k →
    Fn.prompterlaw01_small.l0 k l ((l.map IntKind.i8.wrap).take i) (i : Int) = some (l.map IntKind.i8.wrap)
  | 0, i, k, hd, hk => by
    obtain ⟨k, rfl⟩ : ∃ m, k = m + 1 := ⟨k - 1, by omega⟩
    simp only [Fn.prompterlaw01_small.l0]
    rw [if_neg (by omega), List.take_of_length_le (by simp; omega)]
  | d + 1, i, k, hd, hk => by
    obtain ⟨k, rfl⟩ : ∃ m, k = m + 1 := ⟨k - 1, by omega⟩
    have ih := small_l l hl d (i + 1) k (by omega) (by omega)
    have hw : wrap64 ((i : Int) + 1) = ((i + 1 : Nat) : Int) := by unfold wrap64; omega
    simp only [Fn.prompterlaw01_small.l0]
    have ht : (l.map IntKind.i8.wrap).take (i + 1) = (l.map IntKind.i8.wrap).take i ++ [IntKind.i8.wrap (rd l (i : Int))] := by
      rw [take_rd _ i (by simp; omega)]
      congr 2
      unfold rd
      simp [show i < l.length by omega]
    rw [if_pos (by omega), if_pos (by omega), if_pos (by simp; omega), hw, ← ht]
    exact ih

theorem clampI8_c (x lo hi : Int) (w : World) : Calls Tryd.prog 18 #[.int .i8 x, .int .i8 lo, .int .i8 hi] w (Gives (.int .i8 (clampI x lo hi)) w) :=
  (Fn.whole_Clamp_int8.calls x lo hi _ w (by unfold Fn.whole_Clamp_int8.f clampI; split <;> (try split) <;> rfl)).mono fun _ _ h => ⟨h.1, h.2.below⟩
theorem rclamp_c (x lo hi : Int) (w : World) : Calls Tryd.prog 17 #[.int .i64 x, .int .i64 lo, .int .i64 hi] w (Gives (.int .i64 (clampI x lo hi)) w) :=
  (Fn.prompterref01_Clamp.calls x lo hi _ w (by unfold Fn.prompterref01_Clamp.f clampI; split <;> (try split) <;> rfl)).mono fun _ _ h => ⟨h.1, h.2.below⟩

end Go.Proofs.YthblmmighjmgpaaDoor

/-
  The contracts of quotients, rests and clamps over int64: cut towards 0, held.
-/
import Derived.Test.YthblmmighjmgpaaDoorSumsCalls
namespace Go.Proofs.YthblmmighjmgpaaDoor
open Go.RowKit Go.Proofs.YthblmmighjmgpaaDoorW.PrintWords
open Plain (hold)

section
variable (a b : Int) (ha0 : -9223372036854775808 ≤ a) (ha1 : a ≤ 9223372036854775807) (w : World)

theorem div_zero_c : Calls Tryd.prog 27 #[.int .i64 a, .int .i64 0] w (Gives (.tuple #[.int .i64 0, .int .i64 10]) w) :=
  (Fn.whole_Div.calls 0 a 0 0 10 w (by unfold Fn.whole_Div.f; rw [if_pos rfl])).mono fun _ _ h => ⟨h.1, h.2.below⟩
theorem mod_zero_c : Calls Tryd.prog 28 #[.int .i64 a, .int .i64 0] w (Gives (.tuple #[.int .i64 0, .int .i64 10]) w) :=
  (Fn.whole_Mod.calls a 0 0 10 w (by unfold Fn.whole_Mod.f; rw [if_pos rfl])).mono fun _ _ h => ⟨h.1, h.2.below⟩

include ha0 ha1
theorem div_f (hb : b ≠ 0) : Fn.whole_Div.f 1 a b = some (hold (a.tdiv b), 0) := by
  unfold Fn.whole_Div.f
  rw [if_neg hb]
  by_cases h : b = -1
  · subst h
    rw [if_pos rfl, Plain.neg_f a ha0 ha1 0]
    simp [Int.tdiv_neg]
  · rw [if_neg h]
    have h6 := Int.natAbs_tdiv_le_natAbs a b
    have h7 : a.tdiv b ≠ 9223372036854775808 := by
      intro hq
      have hdm := Int.mul_tdiv_add_tmod a b
      have hbd := Plain.tmod_bd a b hb
      rw [hq] at hdm
      omega
    have e1 : wrap64 (a.tdiv b) = a.tdiv b := by unfold wrap64; omega
    have e2 : hold (a.tdiv b) = a.tdiv b := by unfold hold; rw [if_neg (by omega), if_neg (by omega)]
    rw [e1, e2]

omit ha0 ha1 in
theorem mod_f (hb : b ≠ 0) : Fn.whole_Mod.f a b = some (a.tmod b, 0) := by
  unfold Fn.whole_Mod.f
  rw [if_neg hb]
  by_cases h : b = -1
  · subst h; rw [if_pos rfl]; simp [Int.tmod_neg]
  · rw [if_neg h]

theorem div_c (hb : b ≠ 0) : Calls Tryd.prog 27 #[.int .i64 a, .int .i64 b] w (Gives (.tuple #[.int .i64 (hold (a.tdiv b)), .int .i64 0]) w) :=
  (Fn.whole_Div.calls 1 a b _ _ w (div_f a b ha0 ha1 hb)).mono fun _ _ h => ⟨h.1, h.2.below⟩
omit ha0 ha1 in
theorem mod_c (hb : b ≠ 0) : Calls Tryd.prog 28 #[.int .i64 a, .int .i64 b] w (Gives (.tuple #[.int .i64 (a.tmod b), .int .i64 0]) w) :=
  (Fn.whole_Mod.calls a b _ _ w (mod_f a b hb)).mono fun _ _ h => ⟨h.1, h.2.below⟩
end

/-- Clamp, of whatever three. -/
def clampI (x lo hi : Int) : Int := if x < lo then lo else if x > hi then hi else x
theorem clamp_c (x lo hi : Int) (w : World) : Calls Tryd.prog 16 #[.int .i64 x, .int .i64 lo, .int .i64 hi] w (Gives (.int .i64 (clampI x lo hi)) w) :=
  (Fn.whole_Clamp_int64.calls x lo hi _ w (by unfold Fn.whole_Clamp_int64.f clampI; split <;> (try split) <;> rfl)).mono fun _ _ h => ⟨h.1, h.2.below⟩

end Go.Proofs.YthblmmighjmgpaaDoor

/-
  PlaneKnown: the calls at the chapter's examples, but for the texts.
-/
import Derived.Test.YtnaccmekjkbmmaaExactWalk
namespace Go.Proofs.Ytnaccmekjkbmmaa
open Go.RowKit
open Flt (Is P)
set_option linter.unusedVariables false

theorem copysign_c (w : World) : Calls Try.prog 12 #[.float .f64 0, .float .f64 13830554455654793216] w (Gives (.float .f64 9223372036854775808) w) := by
  have hb := bits_run
  have hf : ∀ w, (callFunc 22 #[.int .u64 (bits .or .u64 (bits .andNot .u64 0 9223372036854775808) (bits .and .u64 13830554455654793216 9223372036854775808))]).run Try.prog w = .ok (.value (.float .f64 9223372036854775808)) w := fun w => by kernel_rfl
  go_enter Try.func12, Try.ntmps12
  go_wp2_with fail
  go_ret
  exact ⟨rfl, Below.refl _ _⟩

theorem nan_c (w : World) : Calls Try.prog 14 #[] w (Gives (.float .f64 9221120237041090561) w) := by
  have hf : ∀ w, (callFunc 22 #[.int .u64 9221120237041090561]).run Try.prog w = .ok (.value (.float .f64 9221120237041090561)) w := fun w => by kernel_rfl
  go_enter Try.func14, Try.ntmps14
  go_wp2_with fail
  go_ret
  exact ⟨rfl, Below.refl _ _⟩

theorem inf_c (w : World) : Calls Try.prog 15 #[.int .i64 1] w (Gives (.float .f64 9218868437227405312) w) := by
  have hf : ∀ w, (callFunc 22 #[.int .u64 9218868437227405312]).run Try.prog w = .ok (.value (.float .f64 9218868437227405312)) w := fun w => by kernel_rfl
  go_enter Try.func15, Try.ntmps15
  go_wp2_with fail
  go_ret
  exact ⟨rfl, Below.refl _ _⟩

theorem abs_two (w : World) : Calls Try.prog 24 #[.float .f64 4611686018427387904] w (Gives (.float .f64 4611686018427387904) w) := by
  have hb := bits_run
  have hf : ∀ w, (callFunc 22 #[.int .u64 (bits .andNot .u64 4611686018427387904 9223372036854775808)]).run Try.prog w = .ok (.value (.float .f64 4611686018427387904)) w := fun w => by kernel_rfl
  go_enter Try.func24, Try.ntmps24
  go_wp2_with fail
  go_ret
  exact ⟨rfl, Below.refl _ _⟩


/-! ### A float without an end: what is left of it, less itself, is a NaN of whatever bits -/
/-- A NaN's bits, whatever the tape answers. -/
theorem nan_order (s r : Nat) (hs : s < 2) (hr : r < 4503599627370495) (b : Nat) : Ieee.double.order (s * 9223372036854775808 + 9218868437227405312 + 1 + r) b = none := by
  have hread : ∃ n f, Ieee.double.read (s * 9223372036854775808 + 9218868437227405312 + 1 + r) = .nan n f := by
    unfold Ieee.Format.read
    dsimp only
    rw [Flt.dbl_sign, Flt.dbl_binade, Flt.dbl_inf]
    have e : (s * 9223372036854775808 + 9218868437227405312 + 1 + r) % 9223372036854775808 = 9218868437227405313 + r := by omega
    rw [e, if_neg (by omega), if_neg (by omega), if_neg (by omega)]
    exact ⟨_, _, rfl⟩
  obtain ⟨n, f, h⟩ := hread
  unfold Ieee.Format.order
  rw [h]
  cases Ieee.double.read b <;> rfl

theorem cut_nan (x y t : Nat) (b : Nat) : Ieee.double.order ((Question.nanBits .f64 x y).cut t) b = none := by
  have e : (Question.nanBits .f64 x y).cut t = (t % 2) * 9223372036854775808 + 9218868437227405312 + 1 + (t / 2) % 4503599627370495 := by
    simp only [Question.cut]
  rw [e]
  exact nan_order _ _ (Nat.mod_lt _ (by decide)) (Nat.mod_lt _ (by decide)) b

theorem run_sub_nan (t : TypeId) (x y : Nat) (h : floatBits .sub .f64 x y = none) (w : World) :
    (binOp .sub t (.float .f64 x) (.float .f64 y)).run Try.prog w = .ok (.float .f64 ((Question.nanBits .f64 x y).cut (w.tape w.drawn (.nanBits .f64 x y)))) w.drew := by
  have h' : FloatKind.f64.format.sub x y = none := h
  simp [binOp, Op.floatArith, h', Question.forced]

theorem finite_inf (a : Nat) (h : floatBits .sub .f64 a a = none) (w : World) : Calls Try.prog 27 #[.float .f64 a] w (Gives (.bool false) w) := by
  obtain ⟨nb, hop, hn⟩ : ∃ nb : World → Nat, (∀ t w, (binOp .sub t (.float .f64 a) (.float .f64 a)).run Try.prog w = .ok (.float .f64 (nb w)) w.drew) ∧ ∀ w, (FloatKind.f64.format.order (nb w) 0 == some .eq) = false :=
    ⟨fun w => (Question.nanBits .f64 a a).cut (w.tape w.drawn (.nanBits .f64 a a)), fun t w => run_sub_nan t a a h w, fun w => by
      rw [show FloatKind.f64.format.order ((Question.nanBits .f64 a a).cut (w.tape w.drawn (.nanBits .f64 a a))) 0 = none from cut_nan a a _ 0]; rfl⟩
  clear h
  go_enter Try.func27, Try.ntmps27
  go_wp2_with (simp only [hop])
  all_goals (go_ret; exact ⟨rfl, (Below.refl _ _).drew⟩)

end Go.Proofs.Ytnaccmekjkbmmaa

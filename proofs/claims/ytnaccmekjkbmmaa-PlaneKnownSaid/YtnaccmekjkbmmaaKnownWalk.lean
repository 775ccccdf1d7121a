/-
  PlaneKnown: Text, and the walk of the law.
-/
import Derived.Test.YtnaccmekjkbmmaaKnownC
namespace Go.Proofs.Ytnaccmekjkbmmaa
open Go.RowKit Go.Proofs.YtnaccmekjkbmmaaW.PrintWords Go.Proofs.YtnaccmekjkbmmaaW.PrintMore
open Flt (Is P)
set_option linter.unusedVariables false

set_option maxHeartbeats 1000000 in
theorem text_no (a b : Nat) (hf : ∀ w, Calls Try.prog 11 #[.complex .f64 a b] w (Gives (.bool false) w)) (w : World) : Calls Try.prog 16 #[.complex .f64 a b] w (Gives (.string ⟨#[]⟩) w) := by
  have HF := Lib.hid hf
  clear hf
  go_enter Try.func16, Try.ntmps16
  go_wp2_with fail
  refine (HF.out _).mono ?_
  rintro e w1 ⟨rfl, hb⟩
  have H1 := Lib.hid hb
  clear hb
  go_wp2_with fail
  go_ret
  exact ⟨rfl, H1.out⟩

set_option maxHeartbeats 1000000 in
theorem text_yes (a b : Nat) (ha : a < 18446744073709551616) (hb : b < 18446744073709551616) (hf : ∀ w, Calls Try.prog 11 #[.complex .f64 a b] w (Gives (.bool true) w)) (w : World) :
    Calls Try.prog 16 #[.complex .f64 a b] w (Gives (.string (strOfNums (digs a ++ digs b))) w) := by
  have HF := Lib.hid hf
  have HA := Lib.hid ha
  have HBB := Lib.hid hb
  clear hf ha hb
  go_enter Try.func16, Try.ntmps16
  go_wp2_with fail
  refine (HF.out w).mono ?_
  rintro e w1 ⟨rfl, hb⟩
  have H1 := Lib.hid hb
  clear hb
  go_wp2_with fail
  refine (digits_c (.slice none 0 0) [] a HA.out (by simp) w1 w1 (Below.refl _ _) (Kd.R_nil _ _ _ _ _)).mono ?_
  rintro e w2 ⟨v2, rfl, hR, hb⟩
  rw [List.nil_append] at hR
  have HR := Lib.hid hR
  have HB2 := Lib.hid hb
  clear hR hb
  go_wp2_with fail
  refine (digits_c v2 (digs a) b HBB.out (by rw [digs_len]; omega) w1 w2 HB2.out HR.out).mono ?_
  rintro e w3 ⟨v3, rfl, hR, hb⟩
  have H3 := onward H1 hb
  have hcv := own_string (P := Try.prog) Try.underlying46 Try.underlying5 Try.underlying9 (Kd.own_of_R hR)
  clear hR hb H1 HR HB2
  go_wp2_with fail
  go_ret
  exact ⟨rfl, H3.out⟩

theorem text_nought (w : World) : Calls Try.prog 16 #[.complex .f64 0 0] w (Gives (.string ⟨#[48, 48, 48, 48, 48, 48, 48, 48, 48, 48, 48, 48, 48, 48, 48, 48, 48, 48, 48, 48, 48, 48, 48, 48, 48, 48, 48, 48, 48, 48, 48, 48]⟩) w) := by
  have h := text_yes 0 0 (by decide) (by decide) (fine_zz fin_zero fin_zero) w
  have e : strOfNums (digs 0 ++ digs 0) = ⟨#[48, 48, 48, 48, 48, 48, 48, 48, 48, 48, 48, 48, 48, 48, 48, 48, 48, 48, 48, 48, 48, 48, 48, 48, 48, 48, 48, 48, 48, 48, 48, 48]⟩ := by decide +kernel
  rwa [e] at h
theorem text_minus (w : World) : Calls Try.prog 16 #[.complex .f64 9223372036854775808 4607182418800017408] w (Gives (.string ⟨#[]⟩) w) := text_no _ _ fine_minus w
theorem text_plain (w : World) : Calls Try.prog 16 #[.complex .f64 0 4607182418800017408] w (Gives (.string ⟨#[48, 48, 48, 48, 48, 48, 48, 48, 48, 48, 48, 48, 48, 48, 48, 48, 51, 102, 102, 48, 48, 48, 48, 48, 48, 48, 48, 48, 48, 48, 48, 48]⟩) w) := by
  have f := fun w => fine_is 0 1 (by decide) (by decide) w
  rw [Flt.P_zero, P1] at f
  have h := text_yes 0 4607182418800017408 (by decide) (by decide) f w
  have e : strOfNums (digs 0 ++ digs 4607182418800017408) = ⟨#[48, 48, 48, 48, 48, 48, 48, 48, 48, 48, 48, 48, 48, 48, 48, 48, 51, 102, 102, 48, 48, 48, 48, 48, 48, 48, 48, 48, 48, 48, 48, 48]⟩ := by decide +kernel
  rwa [e] at h

theorem div_minus (w : World) : Calls Try.prog 13 #[.complex .f64 4607182418800017408 0, .complex .f64 0 9223372036854775808] w (Gives (.tuple #[.complex .f64 0 0, .int .i64 10]) w) := div_nought _ _ _ _ order_zero (by decide +kernel) w
theorem div_nan (w : World) : Calls Try.prog 13 #[.complex .f64 9221120237041090561 0, .complex .f64 0 0] w (Gives (.tuple #[.complex .f64 0 0, .int .i64 10]) w) := div_nought _ _ _ _ order_zero order_zero w

set_option maxHeartbeats 8000000 in
set_option maxRecDepth 100000 in
theorem planeKnown_walk (w : World) : Calls Try.prog 4 #[] w fun e w' => e = .returned (.bool true) ∧ Below w.heap.size w w' := by
  have o0 : (FloatKind.f64.format.order 4617315517961601024 4617315517961601024 == some .eq) = true := by decide +kernel
  have o1 : (FloatKind.f64.format.order 4607182418800017408 4607182418800017408 == some .eq) = true := by decide +kernel
  have o2 : (FloatKind.f64.format.order 4613937818241073152 4613937818241073152 == some .eq) = true := by decide +kernel
  go_enter Try.func4, Try.ntmps4
  go_wp2_with fail
  refine (copysign_c _).mono ?_
  rintro e w1 ⟨rfl, hb⟩
  have H1 := Lib.hid hb
  clear hb
  go_wp2_with fail
  refine (mul_one_c _).mono ?_
  rintro e w2 ⟨rfl, hb⟩
  have H2 := onward H1 hb
  clear hb H1
  go_wp2_with fail
  refine (div_one_c _).mono ?_
  rintro e w3 ⟨rfl, hb⟩
  have H3 := onward H2 hb
  clear hb H2
  go_wp2_with fail
  refine (mul_nought_c _).mono ?_
  rintro e w4 ⟨rfl, hb⟩
  have H4 := onward H3 hb
  clear hb H3
  go_wp2_with fail
  refine (most_c _).mono ?_
  rintro e w5 ⟨rfl, hb⟩
  have H5 := onward H4 hb
  clear hb H4
  go_wp2_with fail
  refine (copysign_c _).mono ?_
  rintro e w6 ⟨rfl, hb⟩
  have H6 := onward H5 hb
  clear hb H5
  go_wp2_with fail
  refine (div_minus _).mono ?_
  rintro e w7 ⟨rfl, hb⟩
  have H7 := onward H6 hb
  clear hb H6
  go_wp2_with fail
  refine (nan_c _).mono ?_
  rintro e w8 ⟨rfl, hb⟩
  have H8 := onward H7 hb
  clear hb H7
  go_wp2_with fail
  refine (div_nan _).mono ?_
  rintro e w9 ⟨rfl, hb⟩
  have H9 := onward H8 hb
  clear hb H8
  go_wp2_with fail
  refine (inf_c _).mono ?_
  rintro e w10 ⟨rfl, hb⟩
  have H10 := onward H9 hb
  clear hb H9
  go_wp2_with fail
  refine (infsum_c _).mono ?_
  rintro e w11 ⟨rfl, hb⟩
  have H11 := onward H10 hb
  clear hb H10
  go_wp2_with fail
  refine (parts_known _).mono ?_
  rintro e w12 ⟨rfl, hb⟩
  have H12 := onward H11 hb
  clear hb H11
  go_wp2_with fail
  refine (awake_c _).mono ?_
  rintro e w13 ⟨rfl, hb⟩
  have H13 := onward H12 hb
  clear hb H12
  go_wp2_with fail
  refine (text_nought _).mono ?_
  rintro e w14 ⟨rfl, hb⟩
  have H14 := onward H13 hb
  clear hb H13
  go_wp2_with fail
  refine (fine_minus _).mono ?_
  rintro e w15 ⟨rfl, hb⟩
  have H15 := onward H14 hb
  clear hb H14
  go_wp2_with fail
  refine (text_minus _).mono ?_
  rintro e w16 ⟨rfl, hb⟩
  have H16 := onward H15 hb
  clear hb H15
  go_wp2_with fail
  refine (plain_minus _).mono ?_
  rintro e w17 ⟨rfl, hb⟩
  have H17 := onward H16 hb
  clear hb H16
  go_wp2_with fail
  refine (text_plain _).mono ?_
  rintro e w18 ⟨rfl, hb⟩
  have H18 := onward H17 hb
  clear hb H17
  go_wp2_with fail
  go_ret
  exact ⟨rfl, H18.out⟩

end Go.Proofs.Ytnaccmekjkbmmaa

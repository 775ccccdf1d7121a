/-
  PlaneKnown: sums that have no end, quotients, parts, and a number that is not fine.
-/
import Derived.Test.YtnaccmekjkbmmaaKnownA
namespace Go.Proofs.Ytnaccmekjkbmmaa
open Go.RowKit
open Flt (Is P)
set_option linter.unusedVariables false

/-- A float that has no end. -/
def Fin0 (a : Nat) : Prop := ∀ w, Calls Try.prog 27 #[.float .f64 a] w (Gives (.bool false) w)
theorem fin0_of (a : Nat) (h : floatBits .sub .f64 a a = none) : Fin0 a := finite_inf a h
theorem fin1_of (a c : Nat) (h : floatBits .sub .f64 a a = some c) (hr : (FloatKind.f64.format.order c 0 == some .eq) = true) : Fin1 a := finite_any a c h true hr

set_option maxHeartbeats 1000000 in
theorem ends_no {a b : Nat} (ha : Fin0 a) (w : World) : Calls Try.prog 20 #[.complex .f64 a b] w (Gives (.bool false) w) := by
  have HA := Lib.hid ha
  clear ha
  go_enter Try.func20, Try.ntmps20
  go_wp2_with fail
  refine (HA.out _).mono ?_
  rintro e w1 ⟨rfl, hb⟩
  have H1 := Lib.hid hb
  clear hb
  go_wp2_with fail
  go_ret
  exact ⟨rfl, H1.out⟩

set_option maxHeartbeats 1000000 in
theorem told_no_a {a b c d x y : Nat} (ha : Fin0 a) (w : World) : Calls Try.prog 18 #[.complex .f64 a b, .complex .f64 c d, .float .f64 x, .float .f64 y] w (Gives (.tuple #[.complex .f64 0 0, .int .i64 20]) w) := by
  have HA := Lib.hid (ends_no (b := b) ha)
  clear ha
  go_enter Try.func18, Try.ntmps18
  go_wp2_with fail
  refine (HA.out _).mono ?_
  rintro e w1 ⟨rfl, hb⟩
  have H1 := Lib.hid hb
  clear hb
  go_wp2_with fail
  go_ret2
  exact ⟨rfl, H1.out⟩

set_option maxHeartbeats 1000000 in
theorem told_no_z {a b c d x y : Nat} (ha : Fin1 a) (hb : Fin1 b) (hc : Fin1 c) (hd : Fin1 d) (hx : Fin0 x) (w : World) : Calls Try.prog 18 #[.complex .f64 a b, .complex .f64 c d, .float .f64 x, .float .f64 y] w (Gives (.tuple #[.complex .f64 0 0, .int .i64 20]) w) := by
  have HA := Lib.hid (ends_c ha hb)
  have HC := Lib.hid (ends_c hc hd)
  have HX := Lib.hid (ends_no (b := y) hx)
  clear ha hb hc hd hx
  go_enter Try.func18, Try.ntmps18
  go_wp2_with fail
  refine (HA.out _).mono ?_
  rintro e w1 ⟨rfl, hb⟩
  have H1 := Lib.hid hb
  clear hb
  go_wp2_with fail
  refine (HC.out _).mono ?_
  rintro e w2 ⟨rfl, hb⟩
  have H2 := onward H1 hb
  clear hb H1
  go_wp2_with fail
  refine (HX.out _).mono ?_
  rintro e w3 ⟨rfl, hb⟩
  have H3 := onward H2 hb
  clear hb H2
  go_wp2_with fail
  go_ret2
  exact ⟨rfl, H3.out⟩

theorem fin_zero : Fin1 0 := finite_is is_zero
theorem fin_most : Fin1 9218868437227405311 := fin1_of _ 0 (by decide +kernel) order_zero
theorem fin_inf : Fin0 9218868437227405312 := fin0_of _ (by decide +kernel)
theorem most_c (w : World) : Calls Try.prog 8 #[.complex .f64 9218868437227405311 0, .complex .f64 9218868437227405311 0] w (Gives (.tuple #[.complex .f64 0 0, .int .i64 20]) w) :=
  Add_c (x := 9218868437227405312) (y := 0) (by decide +kernel) (by decide +kernel) (told_no_z fin_most fin_zero fin_most fin_zero fin_inf) w
theorem infsum_c (w : World) : Calls Try.prog 8 #[.complex .f64 9218868437227405312 0, .complex .f64 0 0] w (Gives (.tuple #[.complex .f64 0 0, .int .i64 20]) w) :=
  Add_c (x := 9218868437227405312) (y := 0) (by decide +kernel) (by decide +kernel) (told_no_a fin_inf) w

theorem Pm1 : P (-1) = 13830554455654793216 := by decide +kernel
theorem Pm4 : P (-4) = 13839561654909534208 := by decide +kernel
theorem Pm5 : P (-5) = 13840687554816376832 := by decide +kernel
theorem P5 : P 5 = 4617315517961601024 := by decide +kernel
theorem P8 : P 8 = 4620693217682128896 := by decide +kernel
theorem mul_one_c (w : World) : Calls Try.prog 9 #[.complex .f64 4607182418800017408 4611686018427387904, .complex .f64 4613937818241073152 13830554455654793216] w (Gives (.tuple #[.complex .f64 4617315517961601024 4617315517961601024, .int .i64 0]) w) := by
  have h := mul_is_c (Flt.is_P 1 (by decide)) (Flt.is_P 2 (by decide)) (Flt.is_P 3 (by decide)) (Flt.is_P (-1) (by decide)) (by decide) (by decide) (by decide) (by decide) (by decide) (by decide) w
  rw [show (1 : Int) * 3 - 2 * -1 = 5 by decide, show (1 : Int) * -1 + 2 * 3 = 5 by decide, P1, P2, P3, Pm1, P5] at h
  exact h
theorem mul_nought_c (w : World) : Calls Try.prog 9 #[.complex .f64 0 0, .complex .f64 13840687554816376832 0] w (Gives (.tuple #[.complex .f64 0 0, .int .i64 0]) w) := by
  have h := mul_is_c (Flt.is_P 0 (by decide)) (Flt.is_P 0 (by decide)) (Flt.is_P (-5) (by decide)) (Flt.is_P 0 (by decide)) (by decide) (by decide) (by decide) (by decide) (by decide) (by decide) w
  rw [show (0 : Int) * -5 - 0 * 0 = 0 by decide, show (0 : Int) * 0 + 0 * -5 = 0 by decide, Pm5, Flt.P_zero] at h
  exact h

set_option maxHeartbeats 1000000 in
theorem div_nought (a b c d : Nat) (hc : (FloatKind.f64.format.order c 0 == some .eq) = true) (hd : (FloatKind.f64.format.order d 0 == some .eq) = true) (w : World) : Calls Try.prog 13 #[.complex .f64 a b, .complex .f64 c d] w (Gives (.tuple #[.complex .f64 0 0, .int .i64 10]) w) := by
  go_enter Try.func13, Try.ntmps13
  go_wp2_with fail
  go_ret2
  exact ⟨rfl, Below.refl _ _⟩

theorem fin_P (n : Int) (h : n.natAbs < 9007199254740992) : Fin1 (P n) := finite_is (Flt.is_P n h)
theorem div_told (w : World) : Calls Try.prog 18 #[.complex .f64 13839561654909534208 4620693217682128896, .complex .f64 4611686018427387904 4611686018427387904, .float .f64 4607182418800017408, .float .f64 4613937818241073152] w (Gives (.tuple #[.complex .f64 4607182418800017408 4613937818241073152, .int .i64 0]) w) := by
  have h := told_is (Flt.is_P (-4) (by decide)) (Flt.is_P 8 (by decide)) (Flt.is_P 2 (by decide)) (Flt.is_P 2 (by decide)) (Flt.is_P 1 (by decide)) (Flt.is_P 3 (by decide)) w
  rw [Pm4, P8, P2, P1, P3] at h
  exact h
theorem div_ends_a (w : World) : Calls Try.prog 20 #[.complex .f64 13839561654909534208 4620693217682128896] w (Gives (.bool true) w) := by
  have h := ends_c (fin_P (-4) (by decide)) (fin_P 8 (by decide)) w
  rwa [Pm4, P8] at h
theorem div_ends_b (w : World) : Calls Try.prog 20 #[.complex .f64 4611686018427387904 4611686018427387904] w (Gives (.bool true) w) := by
  have h := ends_c (fin_P 2 (by decide)) (fin_P 2 (by decide)) w
  rwa [P2] at h

set_option maxHeartbeats 2000000 in
theorem div_one_c  (w : World) : Calls Try.prog 13 #[.complex .f64 13839561654909534208 4620693217682128896, .complex .f64 4611686018427387904 4611686018427387904] w (Gives (.tuple #[.complex .f64 4607182418800017408 4613937818241073152, .int .i64 0]) w) := by
  have hop0 : ∀ t w, (binOp .quo t (.float .f64 4611686018427387904) (.float .f64 4611686018427387904)).run Try.prog w = .ok (.float .f64 4607182418800017408) w := fun t w => run_float_arith w .quo t .f64 4611686018427387904 4611686018427387904 4607182418800017408 (by decide +kernel)
  have hop1 : ∀ t w, (binOp .mul t (.float .f64 4611686018427387904) (.float .f64 4607182418800017408)).run Try.prog w = .ok (.float .f64 4611686018427387904) w := fun t w => run_float_arith w .mul t .f64 4611686018427387904 4607182418800017408 4611686018427387904 (by decide +kernel)
  have hop2 : ∀ t w, (binOp .add t (.float .f64 4611686018427387904) (.float .f64 4611686018427387904)).run Try.prog w = .ok (.float .f64 4616189618054758400) w := fun t w => run_float_arith w .add t .f64 4611686018427387904 4611686018427387904 4616189618054758400 (by decide +kernel)
  have hop3 : ∀ t w, (binOp .mul t (.float .f64 4620693217682128896) (.float .f64 4607182418800017408)).run Try.prog w = .ok (.float .f64 4620693217682128896) w := fun t w => run_float_arith w .mul t .f64 4620693217682128896 4607182418800017408 4620693217682128896 (by decide +kernel)
  have hop4 : ∀ t w, (binOp .add t (.float .f64 13839561654909534208) (.float .f64 4620693217682128896)).run Try.prog w = .ok (.float .f64 4616189618054758400) w := fun t w => run_float_arith w .add t .f64 13839561654909534208 4620693217682128896 4616189618054758400 (by decide +kernel)
  have hop5 : ∀ t w, (binOp .quo t (.float .f64 4616189618054758400) (.float .f64 4616189618054758400)).run Try.prog w = .ok (.float .f64 4607182418800017408) w := fun t w => run_float_arith w .quo t .f64 4616189618054758400 4616189618054758400 4607182418800017408 (by decide +kernel)
  have hop6 : ∀ t w, (binOp .mul t (.float .f64 13839561654909534208) (.float .f64 4607182418800017408)).run Try.prog w = .ok (.float .f64 13839561654909534208) w := fun t w => run_float_arith w .mul t .f64 13839561654909534208 4607182418800017408 13839561654909534208 (by decide +kernel)
  have hop7 : ∀ t w, (binOp .sub t (.float .f64 4620693217682128896) (.float .f64 13839561654909534208)).run Try.prog w = .ok (.float .f64 4622945017495814144) w := fun t w => run_float_arith w .sub t .f64 4620693217682128896 13839561654909534208 4622945017495814144 (by decide +kernel)
  have hop8 : ∀ t w, (binOp .quo t (.float .f64 4622945017495814144) (.float .f64 4616189618054758400)).run Try.prog w = .ok (.float .f64 4613937818241073152) w := fun t w => run_float_arith w .quo t .f64 4622945017495814144 4616189618054758400 4613937818241073152 (by decide +kernel)
  have o1 : (FloatKind.f64.format.order 4611686018427387904 0 == some .eq) = false := by decide +kernel
  have o2 : (FloatKind.f64.format.order 4611686018427387904 4611686018427387904 == some .lt) = false := by decide +kernel
  go_enter Try.func13, Try.ntmps13
  go_wp2_with fail
  refine (div_ends_a _).mono ?_
  rintro e w1 ⟨rfl, hb⟩
  have H1 := Lib.hid hb
  clear hb
  go_wp2_with fail
  refine (div_ends_b _).mono ?_
  rintro e w2 ⟨rfl, hb⟩
  have H2 := onward H1 hb
  clear hb H1
  go_wp2_with fail
  refine (abs_two _).mono ?_
  rintro e w3 ⟨rfl, hb⟩
  have H3 := onward H2 hb
  clear hb H2
  go_wp2_with fail
  refine (abs_two _).mono ?_
  rintro e w4 ⟨rfl, hb⟩
  have H4 := onward H3 hb
  clear hb H3
  go_wp2_with fail
  refine (div_told _).mono ?_
  rintro e w5 ⟨rfl, hb⟩
  have H5 := onward H4 hb
  clear hb H4
  go_wp2_with fail
  go_ret2
  exact ⟨rfl, H5.out⟩

set_option maxHeartbeats 1000000 in
theorem part_great (a : Nat) (h1 : (FloatKind.f64.format.order a a != some .eq) = false) (h2 : (FloatKind.f64.format.order a 4890909195324358656 == some .gt || FloatKind.f64.format.order a 4890909195324358656 == some .eq) = true) (w : World) : Calls Try.prog 19 #[.float .f64 a] w (Gives (.int .i64 9223372036854775807) w) := by
  go_enter Try.func19, Try.ntmps19
  go_wp2_with fail
  go_ret
  exact ⟨rfl, Below.refl _ _⟩

theorem part_small_c (w : World) : Calls Try.prog 19 #[.float .f64 13837084675114480435] w (Gives (.int .i64 (-2)) w) :=
  part_c _ _ (by decide +kernel) (by decide +kernel) (by decide +kernel) (by decide +kernel) w
theorem part_great_c (w : World) : Calls Try.prog 19 #[.float .f64 5055640609639927018] w (Gives (.int .i64 9223372036854775807) w) :=
  part_great _ (by decide +kernel) (by decide +kernel) w

set_option maxHeartbeats 1000000 in
theorem parts_known  (w : World) : Calls Try.prog 10 #[.complex .f64 13837084675114480435 5055640609639927018] w (Gives (.tuple #[.int .i64 (-2), .int .i64 9223372036854775807]) w) := by
  go_enter Try.func10, Try.ntmps10
  go_wp2_with fail
  refine (part_small_c _).mono ?_
  rintro e w1 ⟨rfl, hb⟩
  have H1 := Lib.hid hb
  clear hb
  go_wp2_with fail
  refine (part_great_c _).mono ?_
  rintro e w2 ⟨rfl, hb⟩
  have H2 := onward H1 hb
  clear hb H1
  go_wp2_with fail
  go_ret2
  exact ⟨rfl, H2.out⟩

theorem signbit_minus (w : World) : Calls Try.prog 21 #[.float .f64 9223372036854775808] w (Gives (.bool true) w) := by
  have hb := bits_run
  have hs : decide (wrap64 9223372036854775808 < 0) = true := by rw [decide_eq_true_eq]; unfold wrap64; omega
  go_enter Try.func21, Try.ntmps21
  go_wp2_with fail
  go_ret
  exact ⟨rfl, Below.refl _ _⟩
theorem ends_minus (w : World) : Calls Try.prog 20 #[.complex .f64 9223372036854775808 4607182418800017408] w (Gives (.bool true) w) := by
  have h1 : Fin1 (P 1) := fin_P 1 (by decide)
  rw [P1] at h1
  exact ends_c (fin1_of 9223372036854775808 0 (by decide +kernel) order_zero) h1 w

set_option maxHeartbeats 1000000 in
theorem fine_minus  (w : World) : Calls Try.prog 11 #[.complex .f64 9223372036854775808 4607182418800017408] w (Gives (.bool false) w) := by
  have o1 : (FloatKind.f64.format.order 9223372036854775808 0 == some .eq) = true := by decide +kernel
  go_enter Try.func11, Try.ntmps11
  go_wp2_with fail
  refine (ends_minus _).mono ?_
  rintro e w1 ⟨rfl, hb⟩
  have H1 := Lib.hid hb
  clear hb
  go_wp2_with fail
  refine (signbit_minus _).mono ?_
  rintro e w2 ⟨rfl, hb⟩
  have H2 := onward H1 hb
  clear hb H1
  go_wp2_with fail
  go_ret
  exact ⟨rfl, H2.out⟩

theorem plain_minus (w : World) : Calls Try.prog 17 #[.complex .f64 9223372036854775808 4607182418800017408] w (Gives (.complex .f64 0 4607182418800017408) w) :=
  Plain_c (fun w => plain_zero _ (by decide +kernel) w) (fun w => plain_self _ (by decide +kernel) w) w

end Go.Proofs.Ytnaccmekjkbmmaa

/-
  The walk of WholeRises: for every three numbers it returns true.
-/
import Derived.Test.YthblmmighjmgpaaDoorSumsCalls
namespace Go.Proofs.YthblmmighjmgpaaDoor
open Go.RowKit Go.Proofs.YthblmmighjmgpaaDoorW.PrintWords
open Plain (hold)
set_option linter.unusedVariables false

theorem hold_mono {m n : Int} (h : m ≤ n) : hold m ≤ hold n := by unfold hold; split <;> split <;> (try split) <;> (try split) <;> omega

theorem add_c' (a b : Int) (ha0 : -9223372036854775808 ≤ a) (ha1 : a ≤ 9223372036854775807) (hb0 : -9223372036854775808 ≤ b) (hb1 : b ≤ 9223372036854775807) (w : World) : Calls Tryd.prog 19 #[.int .i64 b, .int .i64 a] w (Gives (.int .i64 (hold (a + b))) w) := by
  have h := add_c b a hb0 hb1 ha0 ha1 w
  rwa [Int.add_comm b a] at h
theorem mul_c' (a b : Int) (ha0 : -9223372036854775808 ≤ a) (ha1 : a ≤ 9223372036854775807) (hb0 : -9223372036854775808 ≤ b) (hb1 : b ≤ 9223372036854775807) (w : World) : Calls Tryd.prog 20 #[.int .i64 b, .int .i64 a] w (Gives (.int .i64 (hold (a * b))) w) := by
  have h := mul_c b a hb0 hb1 ha0 ha1 w
  rwa [Int.mul_comm b a] at h

/-- What is taken away is given back, where no end is met. -/
theorem back_b (a b : Int) (ha0 : -9223372036854775808 ≤ a) (ha1 : a ≤ 9223372036854775807) (hb0 : -9223372036854775808 ≤ b) (hb1 : b ≤ 9223372036854775807) (w : World) (h0 : hold (a + b) ≠ 9223372036854775807) (h1 : hold (a + b) ≠ -9223372036854775808) :
    Calls Tryd.prog 21 #[.int .i64 (hold (a + b)), .int .i64 b] w (Gives (.int .i64 a) w) := by
  have h := sub_c (hold (a + b)) b (Plain.hold_lo _) (Plain.hold_hi _) hb0 hb1 w
  have e : hold (hold (a + b) - b) = a := by unfold hold at *; split at h0 <;> (try split at h0) <;> split <;> (try split) <;> (try split) <;> omega
  rwa [e] at h
theorem back_a (a b : Int) (ha0 : -9223372036854775808 ≤ a) (ha1 : a ≤ 9223372036854775807) (hb0 : -9223372036854775808 ≤ b) (hb1 : b ≤ 9223372036854775807) (w : World) (h0 : hold (a + b) ≠ 9223372036854775807) (h1 : hold (a + b) ≠ -9223372036854775808) :
    Calls Tryd.prog 21 #[.int .i64 (hold (a + b)), .int .i64 a] w (Gives (.int .i64 b) w) := by
  have h := sub_c (hold (a + b)) a (Plain.hold_lo _) (Plain.hold_hi _) ha0 ha1 w
  have e : hold (hold (a + b) - a) = b := by unfold hold at *; split at h0 <;> (try split at h0) <;> split <;> (try split) <;> (try split) <;> omega
  rwa [e] at h

set_option maxHeartbeats 2000000 in
theorem wholeRises_le_pos_max (a b c : Int) (ha0 : -9223372036854775808 ≤ a) (ha1 : a ≤ 9223372036854775807) (hb0 : -9223372036854775808 ≤ b) (hb1 : b ≤ 9223372036854775807) (hc0 : -9223372036854775808 ≤ c) (hc1 : c ≤ 9223372036854775807) (w : World)
    (htab : Lib.TabIs Tryd.prog w "internal/strconv.uint64pow10" .u64 Lib.pow10Tab) (h1 : a ≤ b) (h2 : 0 ≤ c) (x1 : hold (a + b) = 9223372036854775807) :
    Calls Tryd.prog 4 #[.int .i64 a, .int .i64 b, .int .i64 c] w fun e w' => e = .returned (.bool true) ∧ Below w.heap.size w w' := by
  have HT := Lib.hid htab
  clear htab
  have HL := Plain.hold_lo (a + b)
  have HH := Plain.hold_hi (a + b)
  have m1 := hold_mono (show a + c ≤ b + c by omega)
  have m2 := hold_mono (show a - c ≤ b - c by omega)
  have m3 := hold_mono (Int.mul_le_mul_of_nonneg_right h1 h2)
  have xa : (hold (a + b) == 9223372036854775807) = true := by simpa using x1
  clear x1
  go_enter Tryd.func4, Tryd.ntmps4
  go_wp2_with fail
  refine (awake_any w HT.out).mono ?_
  rintro e w1 ⟨rfl, hb⟩
  have H1 := Lib.hid hb
  clear hb
  go_wp2_with fail
  refine (add_c a b ha0 ha1 hb0 hb1 _).mono ?_
  rintro e w2 ⟨rfl, hb⟩
  have H2 := onward H1 hb
  clear hb H1
  go_wp2_with fail
  refine (add_c' a b ha0 ha1 hb0 hb1 _).mono ?_
  rintro e w3 ⟨rfl, hb⟩
  have H3 := onward H2 hb
  clear hb H2
  go_wp2_with fail
  refine (mul_c a b ha0 ha1 hb0 hb1 _).mono ?_
  rintro e w4 ⟨rfl, hb⟩
  have H4 := onward H3 hb
  clear hb H3
  go_wp2_with fail
  refine (mul_c' a b ha0 ha1 hb0 hb1 _).mono ?_
  rintro e w5 ⟨rfl, hb⟩
  have H5 := onward H4 hb
  clear hb H4
  go_wp2_with fail
  refine (add_c a c ha0 ha1 hc0 hc1 _).mono ?_
  rintro e w6 ⟨rfl, hb⟩
  have H6 := onward H5 hb
  clear hb H5
  go_wp2_with fail
  refine (add_c b c hb0 hb1 hc0 hc1 _).mono ?_
  rintro e w7 ⟨rfl, hb⟩
  have H7 := onward H6 hb
  clear hb H6
  go_wp2_with fail
  refine (sub_c a c ha0 ha1 hc0 hc1 _).mono ?_
  rintro e w8 ⟨rfl, hb⟩
  have H8 := onward H7 hb
  clear hb H7
  go_wp2_with fail
  refine (sub_c b c hb0 hb1 hc0 hc1 _).mono ?_
  rintro e w9 ⟨rfl, hb⟩
  have H9 := onward H8 hb
  clear hb H8
  go_wp2_with fail
  refine (mul_c a c ha0 ha1 hc0 hc1 _).mono ?_
  rintro e w10 ⟨rfl, hb⟩
  have H10 := onward H9 hb
  clear hb H9
  go_wp2_with fail
  refine (mul_c b c hb0 hb1 hc0 hc1 _).mono ?_
  rintro e w11 ⟨rfl, hb⟩
  have H11 := onward H10 hb
  clear hb H10
  go_wp2_with fail
  refine (add_c a b ha0 ha1 hb0 hb1 _).mono ?_
  rintro e w12 ⟨rfl, hb⟩
  have H12 := onward H11 hb
  clear hb H11
  go_wp2_with fail
  go_ret
  exact ⟨rfl, H12.out⟩

set_option maxHeartbeats 2000000 in
theorem wholeRises_le_pos_min (a b c : Int) (ha0 : -9223372036854775808 ≤ a) (ha1 : a ≤ 9223372036854775807) (hb0 : -9223372036854775808 ≤ b) (hb1 : b ≤ 9223372036854775807) (hc0 : -9223372036854775808 ≤ c) (hc1 : c ≤ 9223372036854775807) (w : World)
    (htab : Lib.TabIs Tryd.prog w "internal/strconv.uint64pow10" .u64 Lib.pow10Tab) (h1 : a ≤ b) (h2 : 0 ≤ c) (x1 : hold (a + b) = -9223372036854775808) :
    Calls Tryd.prog 4 #[.int .i64 a, .int .i64 b, .int .i64 c] w fun e w' => e = .returned (.bool true) ∧ Below w.heap.size w w' := by
  have HT := Lib.hid htab
  clear htab
  have HL := Plain.hold_lo (a + b)
  have HH := Plain.hold_hi (a + b)
  have m1 := hold_mono (show a + c ≤ b + c by omega)
  have m2 := hold_mono (show a - c ≤ b - c by omega)
  have m3 := hold_mono (Int.mul_le_mul_of_nonneg_right h1 h2)
  have xa : (hold (a + b) == 9223372036854775807) = false := by simp only [beq_eq_false_iff_ne]; omega
  have xb : (hold (a + b) == -9223372036854775808) = true := by simpa using x1
  clear x1
  go_enter Tryd.func4, Tryd.ntmps4
  go_wp2_with fail
  refine (awake_any w HT.out).mono ?_
  rintro e w1 ⟨rfl, hb⟩
  have H1 := Lib.hid hb
  clear hb
  go_wp2_with fail
  refine (add_c a b ha0 ha1 hb0 hb1 _).mono ?_
  rintro e w2 ⟨rfl, hb⟩
  have H2 := onward H1 hb
  clear hb H1
  go_wp2_with fail
  refine (add_c' a b ha0 ha1 hb0 hb1 _).mono ?_
  rintro e w3 ⟨rfl, hb⟩
  have H3 := onward H2 hb
  clear hb H2
  go_wp2_with fail
  refine (mul_c a b ha0 ha1 hb0 hb1 _).mono ?_
  rintro e w4 ⟨rfl, hb⟩
  have H4 := onward H3 hb
  clear hb H3
  go_wp2_with fail
  refine (mul_c' a b ha0 ha1 hb0 hb1 _).mono ?_
  rintro e w5 ⟨rfl, hb⟩
  have H5 := onward H4 hb
  clear hb H4
  go_wp2_with fail
  refine (add_c a c ha0 ha1 hc0 hc1 _).mono ?_
  rintro e w6 ⟨rfl, hb⟩
  have H6 := onward H5 hb
  clear hb H5
  go_wp2_with fail
  refine (add_c b c hb0 hb1 hc0 hc1 _).mono ?_
  rintro e w7 ⟨rfl, hb⟩
  have H7 := onward H6 hb
  clear hb H6
  go_wp2_with fail
  refine (sub_c a c ha0 ha1 hc0 hc1 _).mono ?_
  rintro e w8 ⟨rfl, hb⟩
  have H8 := onward H7 hb
  clear hb H7
  go_wp2_with fail
  refine (sub_c b c hb0 hb1 hc0 hc1 _).mono ?_
  rintro e w9 ⟨rfl, hb⟩
  have H9 := onward H8 hb
  clear hb H8
  go_wp2_with fail
  refine (mul_c a c ha0 ha1 hc0 hc1 _).mono ?_
  rintro e w10 ⟨rfl, hb⟩
  have H10 := onward H9 hb
  clear hb H9
  go_wp2_with fail
  refine (mul_c b c hb0 hb1 hc0 hc1 _).mono ?_
  rintro e w11 ⟨rfl, hb⟩
  have H11 := onward H10 hb
  clear hb H10
  go_wp2_with fail
  refine (add_c a b ha0 ha1 hb0 hb1 _).mono ?_
  rintro e w12 ⟨rfl, hb⟩
  have H12 := onward H11 hb
  clear hb H11
  go_wp2_with fail
  go_ret
  exact ⟨rfl, H12.out⟩

set_option maxHeartbeats 2000000 in
theorem wholeRises_le_pos_in (a b c : Int) (ha0 : -9223372036854775808 ≤ a) (ha1 : a ≤ 9223372036854775807) (hb0 : -9223372036854775808 ≤ b) (hb1 : b ≤ 9223372036854775807) (hc0 : -9223372036854775808 ≤ c) (hc1 : c ≤ 9223372036854775807) (w : World)
    (htab : Lib.TabIs Tryd.prog w "internal/strconv.uint64pow10" .u64 Lib.pow10Tab) (h1 : a ≤ b) (h2 : 0 ≤ c) (x1 : hold (a + b) ≠ 9223372036854775807) (x2 : hold (a + b) ≠ -9223372036854775808) :
    Calls Tryd.prog 4 #[.int .i64 a, .int .i64 b, .int .i64 c] w fun e w' => e = .returned (.bool true) ∧ Below w.heap.size w w' := by
  have HT := Lib.hid htab
  clear htab
  have HL := Plain.hold_lo (a + b)
  have HH := Plain.hold_hi (a + b)
  have m1 := hold_mono (show a + c ≤ b + c by omega)
  have m2 := hold_mono (show a - c ≤ b - c by omega)
  have m3 := hold_mono (Int.mul_le_mul_of_nonneg_right h1 h2)
  have xa : (hold (a + b) == 9223372036854775807) = false := by simpa using x1
  have xb : (hold (a + b) == -9223372036854775808) = false := by simpa using x2
  have X1 := Lib.hid x1
  have X2 := Lib.hid x2
  clear x1 x2
  go_enter Tryd.func4, Tryd.ntmps4
  go_wp2_with fail
  refine (awake_any w HT.out).mono ?_
  rintro e w1 ⟨rfl, hb⟩
  have H1 := Lib.hid hb
  clear hb
  go_wp2_with fail
  refine (add_c a b ha0 ha1 hb0 hb1 _).mono ?_
  rintro e w2 ⟨rfl, hb⟩
  have H2 := onward H1 hb
  clear hb H1
  go_wp2_with fail
  refine (add_c' a b ha0 ha1 hb0 hb1 _).mono ?_
  rintro e w3 ⟨rfl, hb⟩
  have H3 := onward H2 hb
  clear hb H2
  go_wp2_with fail
  refine (mul_c a b ha0 ha1 hb0 hb1 _).mono ?_
  rintro e w4 ⟨rfl, hb⟩
  have H4 := onward H3 hb
  clear hb H3
  go_wp2_with fail
  refine (mul_c' a b ha0 ha1 hb0 hb1 _).mono ?_
  rintro e w5 ⟨rfl, hb⟩
  have H5 := onward H4 hb
  clear hb H4
  go_wp2_with fail
  refine (add_c a c ha0 ha1 hc0 hc1 _).mono ?_
  rintro e w6 ⟨rfl, hb⟩
  have H6 := onward H5 hb
  clear hb H5
  go_wp2_with fail
  refine (add_c b c hb0 hb1 hc0 hc1 _).mono ?_
  rintro e w7 ⟨rfl, hb⟩
  have H7 := onward H6 hb
  clear hb H6
  go_wp2_with fail
  refine (sub_c a c ha0 ha1 hc0 hc1 _).mono ?_
  rintro e w8 ⟨rfl, hb⟩
  have H8 := onward H7 hb
  clear hb H7
  go_wp2_with fail
  refine (sub_c b c hb0 hb1 hc0 hc1 _).mono ?_
  rintro e w9 ⟨rfl, hb⟩
  have H9 := onward H8 hb
  clear hb H8
  go_wp2_with fail
  refine (mul_c a c ha0 ha1 hc0 hc1 _).mono ?_
  rintro e w10 ⟨rfl, hb⟩
  have H10 := onward H9 hb
  clear hb H9
  go_wp2_with fail
  refine (mul_c b c hb0 hb1 hc0 hc1 _).mono ?_
  rintro e w11 ⟨rfl, hb⟩
  have H11 := onward H10 hb
  clear hb H10
  go_wp2_with fail
  refine (add_c a b ha0 ha1 hb0 hb1 _).mono ?_
  rintro e w12 ⟨rfl, hb⟩
  have H12 := onward H11 hb
  clear hb H11
  go_wp2_with fail
  refine (back_b a b ha0 ha1 hb0 hb1 _ X1.out X2.out).mono ?_
  rintro e w13 ⟨rfl, hb⟩
  have H13 := onward H12 hb
  clear hb H12
  go_wp2_with fail
  refine (back_a a b ha0 ha1 hb0 hb1 _ X1.out X2.out).mono ?_
  rintro e w14 ⟨rfl, hb⟩
  have H14 := onward H13 hb
  clear hb H13
  go_wp2_with fail
  go_ret
  exact ⟨rfl, H14.out⟩

set_option maxHeartbeats 2000000 in
theorem wholeRises_le_neg_max (a b c : Int) (ha0 : -9223372036854775808 ≤ a) (ha1 : a ≤ 9223372036854775807) (hb0 : -9223372036854775808 ≤ b) (hb1 : b ≤ 9223372036854775807) (hc0 : -9223372036854775808 ≤ c) (hc1 : c ≤ 9223372036854775807) (w : World)
    (htab : Lib.TabIs Tryd.prog w "internal/strconv.uint64pow10" .u64 Lib.pow10Tab) (h1 : a ≤ b) (h2 : c < 0) (x1 : hold (a + b) = 9223372036854775807) :
    Calls Tryd.prog 4 #[.int .i64 a, .int .i64 b, .int .i64 c] w fun e w' => e = .returned (.bool true) ∧ Below w.heap.size w w' := by
  have HT := Lib.hid htab
  clear htab
  have HL := Plain.hold_lo (a + b)
  have HH := Plain.hold_hi (a + b)
  have m1 := hold_mono (show a + c ≤ b + c by omega)
  have m2 := hold_mono (show a - c ≤ b - c by omega)
  have xa : (hold (a + b) == 9223372036854775807) = true := by simpa using x1
  clear x1
  go_enter Tryd.func4, Tryd.ntmps4
  go_wp2_with fail
  refine (awake_any w HT.out).mono ?_
  rintro e w1 ⟨rfl, hb⟩
  have H1 := Lib.hid hb
  clear hb
  go_wp2_with fail
  refine (add_c a b ha0 ha1 hb0 hb1 _).mono ?_
  rintro e w2 ⟨rfl, hb⟩
  have H2 := onward H1 hb
  clear hb H1
  go_wp2_with fail
  refine (add_c' a b ha0 ha1 hb0 hb1 _).mono ?_
  rintro e w3 ⟨rfl, hb⟩
  have H3 := onward H2 hb
  clear hb H2
  go_wp2_with fail
  refine (mul_c a b ha0 ha1 hb0 hb1 _).mono ?_
  rintro e w4 ⟨rfl, hb⟩
  have H4 := onward H3 hb
  clear hb H3
  go_wp2_with fail
  refine (mul_c' a b ha0 ha1 hb0 hb1 _).mono ?_
  rintro e w5 ⟨rfl, hb⟩
  have H5 := onward H4 hb
  clear hb H4
  go_wp2_with fail
  refine (add_c a c ha0 ha1 hc0 hc1 _).mono ?_
  rintro e w6 ⟨rfl, hb⟩
  have H6 := onward H5 hb
  clear hb H5
  go_wp2_with fail
  refine (add_c b c hb0 hb1 hc0 hc1 _).mono ?_
  rintro e w7 ⟨rfl, hb⟩
  have H7 := onward H6 hb
  clear hb H6
  go_wp2_with fail
  refine (sub_c a c ha0 ha1 hc0 hc1 _).mono ?_
  rintro e w8 ⟨rfl, hb⟩
  have H8 := onward H7 hb
  clear hb H7
  go_wp2_with fail
  refine (sub_c b c hb0 hb1 hc0 hc1 _).mono ?_
  rintro e w9 ⟨rfl, hb⟩
  have H9 := onward H8 hb
  clear hb H8
  go_wp2_with fail
  refine (add_c a b ha0 ha1 hb0 hb1 _).mono ?_
  rintro e w10 ⟨rfl, hb⟩
  have H10 := onward H9 hb
  clear hb H9
  go_wp2_with fail
  go_ret
  exact ⟨rfl, H10.out⟩

set_option maxHeartbeats 2000000 in
theorem wholeRises_le_neg_min (a b c : Int) (ha0 : -9223372036854775808 ≤ a) (ha1 : a ≤ 9223372036854775807) (hb0 : -9223372036854775808 ≤ b) (hb1 : b ≤ 9223372036854775807) (hc0 : -9223372036854775808 ≤ c) (hc1 : c ≤ 9223372036854775807) (w : World)
    (htab : Lib.TabIs Tryd.prog w "internal/strconv.uint64pow10" .u64 Lib.pow10Tab) (h1 : a ≤ b) (h2 : c < 0) (x1 : hold (a + b) = -9223372036854775808) :
    Calls Tryd.prog 4 #[.int .i64 a, .int .i64 b, .int .i64 c] w fun e w' => e = .returned (.bool true) ∧ Below w.heap.size w w' := by
  have HT := Lib.hid htab
  clear htab
  have HL := Plain.hold_lo (a + b)
  have HH := Plain.hold_hi (a + b)
  have m1 := hold_mono (show a + c ≤ b + c by omega)
  have m2 := hold_mono (show a - c ≤ b - c by omega)
  have xa : (hold (a + b) == 9223372036854775807) = false := by simp only [beq_eq_false_iff_ne]; omega
  have xb : (hold (a + b) == -9223372036854775808) = true := by simpa using x1
  clear x1
  go_enter Tryd.func4, Tryd.ntmps4
  go_wp2_with fail
  refine (awake_any w HT.out).mono ?_
  rintro e w1 ⟨rfl, hb⟩
  have H1 := Lib.hid hb
  clear hb
  go_wp2_with fail
  refine (add_c a b ha0 ha1 hb0 hb1 _).mono ?_
  rintro e w2 ⟨rfl, hb⟩
  have H2 := onward H1 hb
  clear hb H1
  go_wp2_with fail
  refine (add_c' a b ha0 ha1 hb0 hb1 _).mono ?_
  rintro e w3 ⟨rfl, hb⟩
  have H3 := onward H2 hb
  clear hb H2
  go_wp2_with fail
  refine (mul_c a b ha0 ha1 hb0 hb1 _).mono ?_
  rintro e w4 ⟨rfl, hb⟩
  have H4 := onward H3 hb
  clear hb H3
  go_wp2_with fail
  refine (mul_c' a b ha0 ha1 hb0 hb1 _).mono ?_
  rintro e w5 ⟨rfl, hb⟩
  have H5 := onward H4 hb
  clear hb H4
  go_wp2_with fail
  refine (add_c a c ha0 ha1 hc0 hc1 _).mono ?_
  rintro e w6 ⟨rfl, hb⟩
  have H6 := onward H5 hb
  clear hb H5
  go_wp2_with fail
  refine (add_c b c hb0 hb1 hc0 hc1 _).mono ?_
  rintro e w7 ⟨rfl, hb⟩
  have H7 := onward H6 hb
  clear hb H6
  go_wp2_with fail
  refine (sub_c a c ha0 ha1 hc0 hc1 _).mono ?_
  rintro e w8 ⟨rfl, hb⟩
  have H8 := onward H7 hb
  clear hb H7
  go_wp2_with fail
  refine (sub_c b c hb0 hb1 hc0 hc1 _).mono ?_
  rintro e w9 ⟨rfl, hb⟩
  have H9 := onward H8 hb
  clear hb H8
  go_wp2_with fail
  refine (add_c a b ha0 ha1 hb0 hb1 _).mono ?_
  rintro e w10 ⟨rfl, hb⟩
  have H10 := onward H9 hb
  clear hb H9
  go_wp2_with fail
  go_ret
  exact ⟨rfl, H10.out⟩

set_option maxHeartbeats 2000000 in
theorem wholeRises_le_neg_in (a b c : Int) (ha0 : -9223372036854775808 ≤ a) (ha1 : a ≤ 9223372036854775807) (hb0 : -9223372036854775808 ≤ b) (hb1 : b ≤ 9223372036854775807) (hc0 : -9223372036854775808 ≤ c) (hc1 : c ≤ 9223372036854775807) (w : World)
    (htab : Lib.TabIs Tryd.prog w "internal/strconv.uint64pow10" .u64 Lib.pow10Tab) (h1 : a ≤ b) (h2 : c < 0) (x1 : hold (a + b) ≠ 9223372036854775807) (x2 : hold (a + b) ≠ -9223372036854775808) :
    Calls Tryd.prog 4 #[.int .i64 a, .int .i64 b, .int .i64 c] w fun e w' => e = .returned (.bool true) ∧ Below w.heap.size w w' := by
  have HT := Lib.hid htab
  clear htab
  have HL := Plain.hold_lo (a + b)
  have HH := Plain.hold_hi (a + b)
  have m1 := hold_mono (show a + c ≤ b + c by omega)
  have m2 := hold_mono (show a - c ≤ b - c by omega)
  have xa : (hold (a + b) == 9223372036854775807) = false := by simpa using x1
  have xb : (hold (a + b) == -9223372036854775808) = false := by simpa using x2
  have X1 := Lib.hid x1
  have X2 := Lib.hid x2
  clear x1 x2
  go_enter Tryd.func4, Tryd.ntmps4
  go_wp2_with fail
  refine (awake_any w HT.out).mono ?_
  rintro e w1 ⟨rfl, hb⟩
  have H1 := Lib.hid hb
  clear hb
  go_wp2_with fail
  refine (add_c a b ha0 ha1 hb0 hb1 _).mono ?_
  rintro e w2 ⟨rfl, hb⟩
  have H2 := onward H1 hb
  clear hb H1
  go_wp2_with fail
  refine (add_c' a b ha0 ha1 hb0 hb1 _).mono ?_
  rintro e w3 ⟨rfl, hb⟩
  have H3 := onward H2 hb
  clear hb H2
  go_wp2_with fail
  refine (mul_c a b ha0 ha1 hb0 hb1 _).mono ?_
  rintro e w4 ⟨rfl, hb⟩
  have H4 := onward H3 hb
  clear hb H3
  go_wp2_with fail
  refine (mul_c' a b ha0 ha1 hb0 hb1 _).mono ?_
  rintro e w5 ⟨rfl, hb⟩
  have H5 := onward H4 hb
  clear hb H4
  go_wp2_with fail
  refine (add_c a c ha0 ha1 hc0 hc1 _).mono ?_
  rintro e w6 ⟨rfl, hb⟩
  have H6 := onward H5 hb
  clear hb H5
  go_wp2_with fail
  refine (add_c b c hb0 hb1 hc0 hc1 _).mono ?_
  rintro e w7 ⟨rfl, hb⟩
  have H7 := onward H6 hb
  clear hb H6
  go_wp2_with fail
  refine (sub_c a c ha0 ha1 hc0 hc1 _).mono ?_
  rintro e w8 ⟨rfl, hb⟩
  have H8 := onward H7 hb
  clear hb H7
  go_wp2_with fail
  refine (sub_c b c hb0 hb1 hc0 hc1 _).mono ?_
  rintro e w9 ⟨rfl, hb⟩
  have H9 := onward H8 hb
  clear hb H8
  go_wp2_with fail
  refine (add_c a b ha0 ha1 hb0 hb1 _).mono ?_
  rintro e w10 ⟨rfl, hb⟩
  have H10 := onward H9 hb
  clear hb H9
  go_wp2_with fail
  refine (back_b a b ha0 ha1 hb0 hb1 _ X1.out X2.out).mono ?_
  rintro e w11 ⟨rfl, hb⟩
  have H11 := onward H10 hb
  clear hb H10
  go_wp2_with fail
  refine (back_a a b ha0 ha1 hb0 hb1 _ X1.out X2.out).mono ?_
  rintro e w12 ⟨rfl, hb⟩
  have H12 := onward H11 hb
  clear hb H11
  go_wp2_with fail
  go_ret
  exact ⟨rfl, H12.out⟩

set_option maxHeartbeats 2000000 in
theorem wholeRises_gt_max (a b c : Int) (ha0 : -9223372036854775808 ≤ a) (ha1 : a ≤ 9223372036854775807) (hb0 : -9223372036854775808 ≤ b) (hb1 : b ≤ 9223372036854775807) (hc0 : -9223372036854775808 ≤ c) (hc1 : c ≤ 9223372036854775807) (w : World)
    (htab : Lib.TabIs Tryd.prog w "internal/strconv.uint64pow10" .u64 Lib.pow10Tab) (h1 : b < a) (x1 : hold (a + b) = 9223372036854775807) :
    Calls Tryd.prog 4 #[.int .i64 a, .int .i64 b, .int .i64 c] w fun e w' => e = .returned (.bool true) ∧ Below w.heap.size w w' := by
  have HT := Lib.hid htab
  clear htab
  have HL := Plain.hold_lo (a + b)
  have HH := Plain.hold_hi (a + b)
  have xa : (hold (a + b) == 9223372036854775807) = true := by simpa using x1
  clear x1
  go_enter Tryd.func4, Tryd.ntmps4
  go_wp2_with fail
  refine (awake_any w HT.out).mono ?_
  rintro e w1 ⟨rfl, hb⟩
  have H1 := Lib.hid hb
  clear hb
  go_wp2_with fail
  refine (add_c a b ha0 ha1 hb0 hb1 _).mono ?_
  rintro e w2 ⟨rfl, hb⟩
  have H2 := onward H1 hb
  clear hb H1
  go_wp2_with fail
  refine (add_c' a b ha0 ha1 hb0 hb1 _).mono ?_
  rintro e w3 ⟨rfl, hb⟩
  have H3 := onward H2 hb
  clear hb H2
  go_wp2_with fail
  refine (mul_c a b ha0 ha1 hb0 hb1 _).mono ?_
  rintro e w4 ⟨rfl, hb⟩
  have H4 := onward H3 hb
  clear hb H3
  go_wp2_with fail
  refine (mul_c' a b ha0 ha1 hb0 hb1 _).mono ?_
  rintro e w5 ⟨rfl, hb⟩
  have H5 := onward H4 hb
  clear hb H4
  go_wp2_with fail
  refine (add_c a b ha0 ha1 hb0 hb1 _).mono ?_
  rintro e w6 ⟨rfl, hb⟩
  have H6 := onward H5 hb
  clear hb H5
  go_wp2_with fail
  go_ret
  exact ⟨rfl, H6.out⟩

set_option maxHeartbeats 2000000 in
theorem wholeRises_gt_min (a b c : Int) (ha0 : -9223372036854775808 ≤ a) (ha1 : a ≤ 9223372036854775807) (hb0 : -9223372036854775808 ≤ b) (hb1 : b ≤ 9223372036854775807) (hc0 : -9223372036854775808 ≤ c) (hc1 : c ≤ 9223372036854775807) (w : World)
    (htab : Lib.TabIs Tryd.prog w "internal/strconv.uint64pow10" .u64 Lib.pow10Tab) (h1 : b < a) (x1 : hold (a + b) = -9223372036854775808) :
    Calls Tryd.prog 4 #[.int .i64 a, .int .i64 b, .int .i64 c] w fun e w' => e = .returned (.bool true) ∧ Below w.heap.size w w' := by
  have HT := Lib.hid htab
  clear htab
  have HL := Plain.hold_lo (a + b)
  have HH := Plain.hold_hi (a + b)
  have xa : (hold (a + b) == 9223372036854775807) = false := by simp only [beq_eq_false_iff_ne]; omega
  have xb : (hold (a + b) == -9223372036854775808) = true := by simpa using x1
  clear x1
  go_enter Tryd.func4, Tryd.ntmps4
  go_wp2_with fail
  refine (awake_any w HT.out).mono ?_
  rintro e w1 ⟨rfl, hb⟩
  have H1 := Lib.hid hb
  clear hb
  go_wp2_with fail
  refine (add_c a b ha0 ha1 hb0 hb1 _).mono ?_
  rintro e w2 ⟨rfl, hb⟩
  have H2 := onward H1 hb
  clear hb H1
  go_wp2_with fail
  refine (add_c' a b ha0 ha1 hb0 hb1 _).mono ?_
  rintro e w3 ⟨rfl, hb⟩
  have H3 := onward H2 hb
  clear hb H2
  go_wp2_with fail
  refine (mul_c a b ha0 ha1 hb0 hb1 _).mono ?_
  rintro e w4 ⟨rfl, hb⟩
  have H4 := onward H3 hb
  clear hb H3
  go_wp2_with fail
  refine (mul_c' a b ha0 ha1 hb0 hb1 _).mono ?_
  rintro e w5 ⟨rfl, hb⟩
  have H5 := onward H4 hb
  clear hb H4
  go_wp2_with fail
  refine (add_c a b ha0 ha1 hb0 hb1 _).mono ?_
  rintro e w6 ⟨rfl, hb⟩
  have H6 := onward H5 hb
  clear hb H5
  go_wp2_with fail
  go_ret
  exact ⟨rfl, H6.out⟩

set_option maxHeartbeats 2000000 in
theorem wholeRises_gt_in (a b c : Int) (ha0 : -9223372036854775808 ≤ a) (ha1 : a ≤ 9223372036854775807) (hb0 : -9223372036854775808 ≤ b) (hb1 : b ≤ 9223372036854775807) (hc0 : -9223372036854775808 ≤ c) (hc1 : c ≤ 9223372036854775807) (w : World)
    (htab : Lib.TabIs Tryd.prog w "internal/strconv.uint64pow10" .u64 Lib.pow10Tab) (h1 : b < a) (x1 : hold (a + b) ≠ 9223372036854775807) (x2 : hold (a + b) ≠ -9223372036854775808) :
    Calls Tryd.prog 4 #[.int .i64 a, .int .i64 b, .int .i64 c] w fun e w' => e = .returned (.bool true) ∧ Below w.heap.size w w' := by
  have HT := Lib.hid htab
  clear htab
  have HL := Plain.hold_lo (a + b)
  have HH := Plain.hold_hi (a + b)
  have xa : (hold (a + b) == 9223372036854775807) = false := by simpa using x1
  have xb : (hold (a + b) == -9223372036854775808) = false := by simpa using x2
  have X1 := Lib.hid x1
  have X2 := Lib.hid x2
  clear x1 x2
  go_enter Tryd.func4, Tryd.ntmps4
  go_wp2_with fail
  refine (awake_any w HT.out).mono ?_
  rintro e w1 ⟨rfl, hb⟩
  have H1 := Lib.hid hb
  clear hb
  go_wp2_with fail
  refine (add_c a b ha0 ha1 hb0 hb1 _).mono ?_
  rintro e w2 ⟨rfl, hb⟩
  have H2 := onward H1 hb
  clear hb H1
  go_wp2_with fail
  refine (add_c' a b ha0 ha1 hb0 hb1 _).mono ?_
  rintro e w3 ⟨rfl, hb⟩
  have H3 := onward H2 hb
  clear hb H2
  go_wp2_with fail
  refine (mul_c a b ha0 ha1 hb0 hb1 _).mono ?_
  rintro e w4 ⟨rfl, hb⟩
  have H4 := onward H3 hb
  clear hb H3
  go_wp2_with fail
  refine (mul_c' a b ha0 ha1 hb0 hb1 _).mono ?_
  rintro e w5 ⟨rfl, hb⟩
  have H5 := onward H4 hb
  clear hb H4
  go_wp2_with fail
  refine (add_c a b ha0 ha1 hb0 hb1 _).mono ?_
  rintro e w6 ⟨rfl, hb⟩
  have H6 := onward H5 hb
  clear hb H5
  go_wp2_with fail
  refine (back_b a b ha0 ha1 hb0 hb1 _ X1.out X2.out).mono ?_
  rintro e w7 ⟨rfl, hb⟩
  have H7 := onward H6 hb
  clear hb H6
  go_wp2_with fail
  refine (back_a a b ha0 ha1 hb0 hb1 _ X1.out X2.out).mono ?_
  rintro e w8 ⟨rfl, hb⟩
  have H8 := onward H7 hb
  clear hb H7
  go_wp2_with fail
  go_ret
  exact ⟨rfl, H8.out⟩

theorem wholeRises_walk (a b c : Int) (ha0 : -9223372036854775808 ≤ a) (ha1 : a ≤ 9223372036854775807) (hb0 : -9223372036854775808 ≤ b) (hb1 : b ≤ 9223372036854775807) (hc0 : -9223372036854775808 ≤ c) (hc1 : c ≤ 9223372036854775807) (w : World)
    (htab : Lib.TabIs Tryd.prog w "internal/strconv.uint64pow10" .u64 Lib.pow10Tab) :
    Calls Tryd.prog 4 #[.int .i64 a, .int .i64 b, .int .i64 c] w fun e w' => e = .returned (.bool true) ∧ Below w.heap.size w w' := by
  by_cases x1 : hold (a + b) = 9223372036854775807
  · by_cases h1 : a ≤ b
    · by_cases h2 : 0 ≤ c
      · exact wholeRises_le_pos_max a b c ha0 ha1 hb0 hb1 hc0 hc1 w htab h1 h2 x1
      · exact wholeRises_le_neg_max a b c ha0 ha1 hb0 hb1 hc0 hc1 w htab h1 (by omega) x1
    · exact wholeRises_gt_max a b c ha0 ha1 hb0 hb1 hc0 hc1 w htab (by omega) x1
  by_cases x2 : hold (a + b) = -9223372036854775808
  · by_cases h1 : a ≤ b
    · by_cases h2 : 0 ≤ c
      · exact wholeRises_le_pos_min a b c ha0 ha1 hb0 hb1 hc0 hc1 w htab h1 h2 x2
      · exact wholeRises_le_neg_min a b c ha0 ha1 hb0 hb1 hc0 hc1 w htab h1 (by omega) x2
    · exact wholeRises_gt_min a b c ha0 ha1 hb0 hb1 hc0 hc1 w htab (by omega) x2
  by_cases h1 : a ≤ b
  · by_cases h2 : 0 ≤ c
    · exact wholeRises_le_pos_in a b c ha0 ha1 hb0 hb1 hc0 hc1 w htab h1 h2 x1 x2
    · exact wholeRises_le_neg_in a b c ha0 ha1 hb0 hb1 hc0 hc1 w htab h1 (by omega) x1 x2
  · exact wholeRises_gt_in a b c ha0 ha1 hb0 hb1 hc0 hc1 w htab (by omega) x1 x2

end Go.Proofs.YthblmmighjmgpaaDoor

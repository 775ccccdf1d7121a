/-
  The walk of WholeRests: for every two numbers it returns true.
-/
import Derived.Test.YthblmmighjmgpaaDoorRestsCalls
namespace Go.Proofs.YthblmmighjmgpaaDoor
open Go.RowKit Go.Proofs.YthblmmighjmgpaaDoorW.PrintWords
open Plain (hold)
set_option linter.unusedVariables false

/-- What the walk meets, of a and b with their quotient q, rest r, the size s of b: each call's answer by its name. -/
structure Met (a b q r s p m n : Int) : Prop where
  div : ∀ w, Calls Tryd.prog 27 #[.int .i64 a, .int .i64 b] w (Gives (.tuple #[.int .i64 q, .int .i64 0]) w)
  mod : ∀ w, Calls Tryd.prog 28 #[.int .i64 a, .int .i64 b] w (Gives (.tuple #[.int .i64 r, .int .i64 0]) w)
  neg : ∀ w, Calls Tryd.prog 25 #[.int .i64 b] w (Gives (.int .i64 n) w)
  clamp : ∀ w, Calls Tryd.prog 16 #[.int .i64 n, .int .i64 b, .int .i64 9223372036854775807] w (Gives (.int .i64 s) w)
  mul : ∀ w, Calls Tryd.prog 20 #[.int .i64 q, .int .i64 b] w (Gives (.int .i64 p) w)
  add : ∀ w, Calls Tryd.prog 19 #[.int .i64 p, .int .i64 r] w (Gives (.int .i64 a) w)
  negr : ∀ w, Calls Tryd.prog 25 #[.int .i64 r] w (Gives (.int .i64 m) w)

set_option maxHeartbeats 2000000 in
theorem rests_pos_other_top (a b q r s p m n : Int) (w : World) (htab : Lib.TabIs Tryd.prog w "internal/strconv.uint64pow10" .u64 Lib.pow10Tab) (hM : Hid (Met a b q r s p m n)) (hb0 : (b == 0) = false) (r1 : 0 < r) (a1 : 0 < a) (b1 : (b == -1) = false) (s1 : (s == 9223372036854775807) = true) :
    Calls Tryd.prog 7 #[.int .i64 a, .int .i64 b] w fun e w' => e = .returned (.bool true) ∧ Below w.heap.size w w' := by
  have HT := Lib.hid htab
  clear htab
  go_enter Tryd.func7, Tryd.ntmps7
  go_wp2_with fail
  refine (awake_any w HT.out).mono ?_
  rintro e w1 ⟨rfl, hb⟩
  have H1 := Lib.hid hb
  clear hb
  go_wp2_with fail
  refine (hM.out.div _).mono ?_
  rintro e w2 ⟨rfl, hb⟩
  have H2 := onward H1 hb
  clear hb H1
  go_wp2_with fail
  refine (hM.out.mod _).mono ?_
  rintro e w3 ⟨rfl, hb⟩
  have H3 := onward H2 hb
  clear hb H2
  go_wp2_with fail
  refine (hM.out.neg _).mono ?_
  rintro e w4 ⟨rfl, hb⟩
  have H4 := onward H3 hb
  clear hb H3
  go_wp2_with fail
  refine (hM.out.clamp _).mono ?_
  rintro e w5 ⟨rfl, hb⟩
  have H5 := onward H4 hb
  clear hb H4
  go_wp2_with fail
  refine (hM.out.mul _).mono ?_
  rintro e w6 ⟨rfl, hb⟩
  have H6 := onward H5 hb
  clear hb H5
  go_wp2_with fail
  refine (hM.out.add _).mono ?_
  rintro e w7 ⟨rfl, hb⟩
  have H7 := onward H6 hb
  clear hb H6
  go_wp2_with fail
  go_ret
  exact ⟨rfl, H7.out⟩

set_option maxHeartbeats 2000000 in
theorem rests_pos_other_low (a b q r s p m n : Int) (w : World) (htab : Lib.TabIs Tryd.prog w "internal/strconv.uint64pow10" .u64 Lib.pow10Tab) (hM : Hid (Met a b q r s p m n)) (hb0 : (b == 0) = false) (r1 : 0 < r) (a1 : 0 < a) (b1 : (b == -1) = false) (s1 : (s == 9223372036854775807) = false) (s2 : r < s) (s3 : m < s) :
    Calls Tryd.prog 7 #[.int .i64 a, .int .i64 b] w fun e w' => e = .returned (.bool true) ∧ Below w.heap.size w w' := by
  have HT := Lib.hid htab
  clear htab
  go_enter Tryd.func7, Tryd.ntmps7
  go_wp2_with fail
  refine (awake_any w HT.out).mono ?_
  rintro e w1 ⟨rfl, hb⟩
  have H1 := Lib.hid hb
  clear hb
  go_wp2_with fail
  refine (hM.out.div _).mono ?_
  rintro e w2 ⟨rfl, hb⟩
  have H2 := onward H1 hb
  clear hb H1
  go_wp2_with fail
  refine (hM.out.mod _).mono ?_
  rintro e w3 ⟨rfl, hb⟩
  have H3 := onward H2 hb
  clear hb H2
  go_wp2_with fail
  refine (hM.out.neg _).mono ?_
  rintro e w4 ⟨rfl, hb⟩
  have H4 := onward H3 hb
  clear hb H3
  go_wp2_with fail
  refine (hM.out.clamp _).mono ?_
  rintro e w5 ⟨rfl, hb⟩
  have H5 := onward H4 hb
  clear hb H4
  go_wp2_with fail
  refine (hM.out.mul _).mono ?_
  rintro e w6 ⟨rfl, hb⟩
  have H6 := onward H5 hb
  clear hb H5
  go_wp2_with fail
  refine (hM.out.add _).mono ?_
  rintro e w7 ⟨rfl, hb⟩
  have H7 := onward H6 hb
  clear hb H6
  go_wp2_with fail
  refine (hM.out.negr _).mono ?_
  rintro e w8 ⟨rfl, hb⟩
  have H8 := onward H7 hb
  clear hb H7
  go_wp2_with fail
  go_ret
  exact ⟨rfl, H8.out⟩

set_option maxHeartbeats 2000000 in
theorem rests_neg_other_top (a b q r s p m n : Int) (w : World) (htab : Lib.TabIs Tryd.prog w "internal/strconv.uint64pow10" .u64 Lib.pow10Tab) (hM : Hid (Met a b q r s p m n)) (hb0 : (b == 0) = false) (r1 : r < 0) (a1 : a < 0) (b1 : (b == -1) = false) (s1 : (s == 9223372036854775807) = true) :
    Calls Tryd.prog 7 #[.int .i64 a, .int .i64 b] w fun e w' => e = .returned (.bool true) ∧ Below w.heap.size w w' := by
  have HT := Lib.hid htab
  clear htab
  go_enter Tryd.func7, Tryd.ntmps7
  go_wp2_with fail
  refine (awake_any w HT.out).mono ?_
  rintro e w1 ⟨rfl, hb⟩
  have H1 := Lib.hid hb
  clear hb
  go_wp2_with fail
  refine (hM.out.div _).mono ?_
  rintro e w2 ⟨rfl, hb⟩
  have H2 := onward H1 hb
  clear hb H1
  go_wp2_with fail
  refine (hM.out.mod _).mono ?_
  rintro e w3 ⟨rfl, hb⟩
  have H3 := onward H2 hb
  clear hb H2
  go_wp2_with fail
  refine (hM.out.neg _).mono ?_
  rintro e w4 ⟨rfl, hb⟩
  have H4 := onward H3 hb
  clear hb H3
  go_wp2_with fail
  refine (hM.out.clamp _).mono ?_
  rintro e w5 ⟨rfl, hb⟩
  have H5 := onward H4 hb
  clear hb H4
  go_wp2_with fail
  refine (hM.out.mul _).mono ?_
  rintro e w6 ⟨rfl, hb⟩
  have H6 := onward H5 hb
  clear hb H5
  go_wp2_with fail
  refine (hM.out.add _).mono ?_
  rintro e w7 ⟨rfl, hb⟩
  have H7 := onward H6 hb
  clear hb H6
  go_wp2_with fail
  go_ret
  exact ⟨rfl, H7.out⟩

set_option maxHeartbeats 2000000 in
theorem rests_neg_other_low (a b q r s p m n : Int) (w : World) (htab : Lib.TabIs Tryd.prog w "internal/strconv.uint64pow10" .u64 Lib.pow10Tab) (hM : Hid (Met a b q r s p m n)) (hb0 : (b == 0) = false) (r1 : r < 0) (a1 : a < 0) (b1 : (b == -1) = false) (s1 : (s == 9223372036854775807) = false) (s2 : r < s) (s3 : m < s) :
    Calls Tryd.prog 7 #[.int .i64 a, .int .i64 b] w fun e w' => e = .returned (.bool true) ∧ Below w.heap.size w w' := by
  have HT := Lib.hid htab
  clear htab
  go_enter Tryd.func7, Tryd.ntmps7
  go_wp2_with fail
  refine (awake_any w HT.out).mono ?_
  rintro e w1 ⟨rfl, hb⟩
  have H1 := Lib.hid hb
  clear hb
  go_wp2_with fail
  refine (hM.out.div _).mono ?_
  rintro e w2 ⟨rfl, hb⟩
  have H2 := onward H1 hb
  clear hb H1
  go_wp2_with fail
  refine (hM.out.mod _).mono ?_
  rintro e w3 ⟨rfl, hb⟩
  have H3 := onward H2 hb
  clear hb H2
  go_wp2_with fail
  refine (hM.out.neg _).mono ?_
  rintro e w4 ⟨rfl, hb⟩
  have H4 := onward H3 hb
  clear hb H3
  go_wp2_with fail
  refine (hM.out.clamp _).mono ?_
  rintro e w5 ⟨rfl, hb⟩
  have H5 := onward H4 hb
  clear hb H4
  go_wp2_with fail
  refine (hM.out.mul _).mono ?_
  rintro e w6 ⟨rfl, hb⟩
  have H6 := onward H5 hb
  clear hb H5
  go_wp2_with fail
  refine (hM.out.add _).mono ?_
  rintro e w7 ⟨rfl, hb⟩
  have H7 := onward H6 hb
  clear hb H6
  go_wp2_with fail
  refine (hM.out.negr _).mono ?_
  rintro e w8 ⟨rfl, hb⟩
  have H8 := onward H7 hb
  clear hb H7
  go_wp2_with fail
  go_ret
  exact ⟨rfl, H8.out⟩

set_option maxHeartbeats 2000000 in
theorem rests_nil_one_low (a b q r s p m n : Int) (w : World) (htab : Lib.TabIs Tryd.prog w "internal/strconv.uint64pow10" .u64 Lib.pow10Tab) (hM : Hid (Met a b q r s p m n)) (hb0 : (b == 0) = false) (r1 : 0 ≤ r) (r2 : r ≤ 0) (b1 : (b == -1) = true) (a2 : (a == -9223372036854775808) = false) (s1 : (s == 9223372036854775807) = false) (s2 : r < s) (s3 : m < s) :
    Calls Tryd.prog 7 #[.int .i64 a, .int .i64 b] w fun e w' => e = .returned (.bool true) ∧ Below w.heap.size w w' := by
  have HT := Lib.hid htab
  clear htab
  go_enter Tryd.func7, Tryd.ntmps7
  go_wp2_with fail
  refine (awake_any w HT.out).mono ?_
  rintro e w1 ⟨rfl, hb⟩
  have H1 := Lib.hid hb
  clear hb
  go_wp2_with fail
  refine (hM.out.div _).mono ?_
  rintro e w2 ⟨rfl, hb⟩
  have H2 := onward H1 hb
  clear hb H1
  go_wp2_with fail
  refine (hM.out.mod _).mono ?_
  rintro e w3 ⟨rfl, hb⟩
  have H3 := onward H2 hb
  clear hb H2
  go_wp2_with fail
  refine (hM.out.neg _).mono ?_
  rintro e w4 ⟨rfl, hb⟩
  have H4 := onward H3 hb
  clear hb H3
  go_wp2_with fail
  refine (hM.out.clamp _).mono ?_
  rintro e w5 ⟨rfl, hb⟩
  have H5 := onward H4 hb
  clear hb H4
  go_wp2_with fail
  refine (hM.out.mul _).mono ?_
  rintro e w6 ⟨rfl, hb⟩
  have H6 := onward H5 hb
  clear hb H5
  go_wp2_with fail
  refine (hM.out.add _).mono ?_
  rintro e w7 ⟨rfl, hb⟩
  have H7 := onward H6 hb
  clear hb H6
  go_wp2_with fail
  refine (hM.out.negr _).mono ?_
  rintro e w8 ⟨rfl, hb⟩
  have H8 := onward H7 hb
  clear hb H7
  go_wp2_with fail
  go_ret
  exact ⟨rfl, H8.out⟩

set_option maxHeartbeats 2000000 in
theorem rests_nil_other_top (a b q r s p m n : Int) (w : World) (htab : Lib.TabIs Tryd.prog w "internal/strconv.uint64pow10" .u64 Lib.pow10Tab) (hM : Hid (Met a b q r s p m n)) (hb0 : (b == 0) = false) (r1 : 0 ≤ r) (r2 : r ≤ 0) (b1 : (b == -1) = false) (s1 : (s == 9223372036854775807) = true) :
    Calls Tryd.prog 7 #[.int .i64 a, .int .i64 b] w fun e w' => e = .returned (.bool true) ∧ Below w.heap.size w w' := by
  have HT := Lib.hid htab
  clear htab
  go_enter Tryd.func7, Tryd.ntmps7
  go_wp2_with fail
  refine (awake_any w HT.out).mono ?_
  rintro e w1 ⟨rfl, hb⟩
  have H1 := Lib.hid hb
  clear hb
  go_wp2_with fail
  refine (hM.out.div _).mono ?_
  rintro e w2 ⟨rfl, hb⟩
  have H2 := onward H1 hb
  clear hb H1
  go_wp2_with fail
  refine (hM.out.mod _).mono ?_
  rintro e w3 ⟨rfl, hb⟩
  have H3 := onward H2 hb
  clear hb H2
  go_wp2_with fail
  refine (hM.out.neg _).mono ?_
  rintro e w4 ⟨rfl, hb⟩
  have H4 := onward H3 hb
  clear hb H3
  go_wp2_with fail
  refine (hM.out.clamp _).mono ?_
  rintro e w5 ⟨rfl, hb⟩
  have H5 := onward H4 hb
  clear hb H4
  go_wp2_with fail
  refine (hM.out.mul _).mono ?_
  rintro e w6 ⟨rfl, hb⟩
  have H6 := onward H5 hb
  clear hb H5
  go_wp2_with fail
  refine (hM.out.add _).mono ?_
  rintro e w7 ⟨rfl, hb⟩
  have H7 := onward H6 hb
  clear hb H6
  go_wp2_with fail
  go_ret
  exact ⟨rfl, H7.out⟩

set_option maxHeartbeats 2000000 in
theorem rests_nil_other_low (a b q r s p m n : Int) (w : World) (htab : Lib.TabIs Tryd.prog w "internal/strconv.uint64pow10" .u64 Lib.pow10Tab) (hM : Hid (Met a b q r s p m n)) (hb0 : (b == 0) = false) (r1 : 0 ≤ r) (r2 : r ≤ 0) (b1 : (b == -1) = false) (s1 : (s == 9223372036854775807) = false) (s2 : r < s) (s3 : m < s) :
    Calls Tryd.prog 7 #[.int .i64 a, .int .i64 b] w fun e w' => e = .returned (.bool true) ∧ Below w.heap.size w w' := by
  have HT := Lib.hid htab
  clear htab
  go_enter Tryd.func7, Tryd.ntmps7
  go_wp2_with fail
  refine (awake_any w HT.out).mono ?_
  rintro e w1 ⟨rfl, hb⟩
  have H1 := Lib.hid hb
  clear hb
  go_wp2_with fail
  refine (hM.out.div _).mono ?_
  rintro e w2 ⟨rfl, hb⟩
  have H2 := onward H1 hb
  clear hb H1
  go_wp2_with fail
  refine (hM.out.mod _).mono ?_
  rintro e w3 ⟨rfl, hb⟩
  have H3 := onward H2 hb
  clear hb H2
  go_wp2_with fail
  refine (hM.out.neg _).mono ?_
  rintro e w4 ⟨rfl, hb⟩
  have H4 := onward H3 hb
  clear hb H3
  go_wp2_with fail
  refine (hM.out.clamp _).mono ?_
  rintro e w5 ⟨rfl, hb⟩
  have H5 := onward H4 hb
  clear hb H4
  go_wp2_with fail
  refine (hM.out.mul _).mono ?_
  rintro e w6 ⟨rfl, hb⟩
  have H6 := onward H5 hb
  clear hb H5
  go_wp2_with fail
  refine (hM.out.add _).mono ?_
  rintro e w7 ⟨rfl, hb⟩
  have H7 := onward H6 hb
  clear hb H6
  go_wp2_with fail
  refine (hM.out.negr _).mono ?_
  rintro e w8 ⟨rfl, hb⟩
  have H8 := onward H7 hb
  clear hb H7
  go_wp2_with fail
  go_ret
  exact ⟨rfl, H8.out⟩

set_option maxHeartbeats 2000000 in
theorem rests_zero (a : Int) (w : World) (htab : Lib.TabIs Tryd.prog w "internal/strconv.uint64pow10" .u64 Lib.pow10Tab) :
    Calls Tryd.prog 7 #[.int .i64 a, .int .i64 0] w fun e w' => e = .returned (.bool true) ∧ Below w.heap.size w w' := by
  have HT := Lib.hid htab
  clear htab
  go_enter Tryd.func7, Tryd.ntmps7
  go_wp2_with fail
  refine (awake_any w HT.out).mono ?_
  rintro e w1 ⟨rfl, hb⟩
  have H1 := Lib.hid hb
  clear hb
  go_wp2_with fail
  refine (div_zero_c a _).mono ?_
  rintro e w2 ⟨rfl, hb⟩
  have H2 := onward H1 hb
  clear hb H1
  go_wp2_with fail
  refine (mod_zero_c a _).mono ?_
  rintro e w3 ⟨rfl, hb⟩
  have H3 := onward H2 hb
  clear hb H2
  go_wp2_with fail
  go_ret
  exact ⟨rfl, H3.out⟩

theorem div_least (w : World) : Calls Tryd.prog 27 #[.int .i64 (-9223372036854775808), .int .i64 (-1)] w (Gives (.tuple #[.int .i64 9223372036854775807, .int .i64 0]) w) := by
  have h := div_c (-9223372036854775808) (-1) (by omega) (by omega) w (by omega)
  have e : hold ((-9223372036854775808 : Int).tdiv (-1)) = 9223372036854775807 := by decide
  rwa [e] at h
theorem mod_least (w : World) : Calls Tryd.prog 28 #[.int .i64 (-9223372036854775808), .int .i64 (-1)] w (Gives (.tuple #[.int .i64 0, .int .i64 0]) w) := by
  have h := mod_c (-9223372036854775808) (-1) w (by omega)
  have e : (-9223372036854775808 : Int).tmod (-1) = 0 := by decide
  rwa [e] at h

set_option maxHeartbeats 2000000 in
theorem rests_least (w : World) (htab : Lib.TabIs Tryd.prog w "internal/strconv.uint64pow10" .u64 Lib.pow10Tab) :
    Calls Tryd.prog 7 #[.int .i64 (-9223372036854775808), .int .i64 (-1)] w fun e w' => e = .returned (.bool true) ∧ Below w.heap.size w w' := by
  have HT := Lib.hid htab
  clear htab
  go_enter Tryd.func7, Tryd.ntmps7
  go_wp2_with fail
  refine (awake_any w HT.out).mono ?_
  rintro e w1 ⟨rfl, hb⟩
  have H1 := Lib.hid hb
  clear hb
  go_wp2_with fail
  refine (div_least _).mono ?_
  rintro e w2 ⟨rfl, hb⟩
  have H2 := onward H1 hb
  clear hb H1
  go_wp2_with fail
  refine (mod_least _).mono ?_
  rintro e w3 ⟨rfl, hb⟩
  have H3 := onward H2 hb
  clear hb H2
  go_wp2_with fail
  go_ret
  exact ⟨rfl, H3.out⟩

theorem rests_all (a b : Int) (ha0 : -9223372036854775808 ≤ a) (ha1 : a ≤ 9223372036854775807) (hb0 : -9223372036854775808 ≤ b) (hb1 : b ≤ 9223372036854775807) (w : World)
    (htab : Lib.TabIs Tryd.prog w "internal/strconv.uint64pow10" .u64 Lib.pow10Tab) (hne : b ≠ 0) (hsp : ¬ (b = -1 ∧ a = -9223372036854775808)) :
    Calls Tryd.prog 7 #[.int .i64 a, .int .i64 b] w fun e w' => e = .returned (.bool true) ∧ Below w.heap.size w w' := by
  have hdm := Int.mul_tdiv_add_tmod a b
  have hbd := Plain.tmod_bd a b hne
  have h6 := Int.natAbs_tdiv_le_natAbs a b
  have hqr : -9223372036854775808 ≤ a.tdiv b ∧ a.tdiv b ≤ 9223372036854775807 := by
    refine ⟨by omega, ?_⟩
    have h7 : a.tdiv b ≠ 9223372036854775808 := by
      intro hq
      rw [hq] at hdm
      omega
    omega
  have hsg : (0 ≤ a → 0 ≤ a.tmod b) ∧ (a ≤ 0 → a.tmod b ≤ 0) := by
    refine ⟨fun h => Int.tmod_nonneg b h, fun h => ?_⟩
    have := Int.tmod_nonneg b (show 0 ≤ -a by omega)
    rw [Int.neg_tmod] at this
    omega
  have hq : hold (a.tdiv b) = a.tdiv b := by unfold hold; rw [if_neg (by omega), if_neg (by omega)]
  have hp : hold (a.tdiv b * b) = a.tdiv b * b := by
    rw [Int.mul_comm] at hdm
    have hz : -9223372036854775808 ≤ a.tdiv b * b ∧ a.tdiv b * b ≤ 9223372036854775807 := by
      rcases Int.le_total 0 a with h | h
      · have := hsg.1 h
        have e : (a.tdiv b * b).natAbs ≤ a.natAbs := by
          rw [Int.natAbs_mul, Int.natAbs_tdiv]; exact Nat.div_mul_le_self _ _
        omega
      · have := hsg.2 h
        have e : (a.tdiv b * b).natAbs ≤ a.natAbs := by
          rw [Int.natAbs_mul, Int.natAbs_tdiv]; exact Nat.div_mul_le_self _ _
        omega
    unfold hold; rw [if_neg (by omega), if_neg (by omega)]
  have hpr : -9223372036854775808 ≤ a.tdiv b * b ∧ a.tdiv b * b ≤ 9223372036854775807 := by rw [← hp]; exact ⟨Plain.hold_lo _, Plain.hold_hi _⟩
  have hM : Met a b (a.tdiv b) (a.tmod b) (clampI (hold (-b)) b 9223372036854775807) (a.tdiv b * b) (hold (-(a.tmod b))) (hold (-b)) := by
    refine ⟨fun w => ?_, fun w => mod_c a b w hne, fun w => neg_c b hb0 hb1 w, fun w => clamp_c _ _ _ w, fun w => ?_, fun w => ?_, fun w => neg_c _ (by omega) (by omega) w⟩
    · have h := div_c a b ha0 ha1 w hne; rwa [hq] at h
    · have h := mul_c (a.tdiv b) b hqr.1 hqr.2 hb0 hb1 w; rwa [hp] at h
    · have h := add_c (a.tdiv b * b) (a.tmod b) hpr.1 hpr.2 (by omega) (by omega) w
      have e : hold (a.tdiv b * b + a.tmod b) = a := by
        rw [Int.mul_comm] at hdm; rw [hdm]; unfold hold; rw [if_neg (by omega), if_neg (by omega)]
      rwa [e] at h
  have hs : clampI (hold (-b)) b 9223372036854775807 = if b = -9223372036854775808 then 9223372036854775807 else (b.natAbs : Int) := by
    unfold clampI hold; split <;> (try split) <;> (try split) <;> (try split) <;> omega
  generalize clampI (hold (-b)) b 9223372036854775807 = s at hM hs
  have hmr : hold (-(a.tmod b)) = -(a.tmod b) := by unfold hold; rw [if_neg (by omega), if_neg (by omega)]
  rw [hmr] at hM
  generalize hrr : a.tmod b = r at *
  generalize hqq : a.tdiv b = q at *
  have HM := Lib.hid hM
  have hbz : (b == 0) = false := by simpa using hne
  by_cases h1 : b = -1
  · have hr0 : r = 0 := by omega
    exact rests_nil_one_low a b _ _ _ _ _ _ w htab HM hbz (by omega) (by omega) (by simpa using h1) (by simp; intro h; exact hsp ⟨h1, h⟩) (by simp; omega) (by omega) (by omega)
  · have hb1' : (b == -1) = false := by simpa using h1
    by_cases hS : s = 9223372036854775807
    · have hS' : (s == 9223372036854775807) = true := by simpa using hS
      rcases Int.lt_trichotomy r 0 with h | h | h
      · exact rests_neg_other_top a b _ _ _ _ _ _ w htab HM hbz h (by omega) hb1' hS'
      · exact rests_nil_other_top a b _ _ _ _ _ _ w htab HM hbz (by omega) (by omega) hb1' hS'
      · exact rests_pos_other_top a b _ _ _ _ _ _ w htab HM hbz h (by omega) hb1' hS'
    · have hS' : (s == 9223372036854775807) = false := by simpa using hS
      have e1 : r < s := by split at hs <;> omega
      have e2 : -r < s := by split at hs <;> omega
      rcases Int.lt_trichotomy r 0 with h | h | h
      · exact rests_neg_other_low a b _ _ _ _ _ _ w htab HM hbz h (by omega) hb1' hS' e1 e2
      · exact rests_nil_other_low a b _ _ _ _ _ _ w htab HM hbz (by omega) (by omega) hb1' hS' e1 e2
      · exact rests_pos_other_low a b _ _ _ _ _ _ w htab HM hbz h (by omega) hb1' hS' e1 e2

theorem wholeRests_walk (a b : Int) (ha0 : -9223372036854775808 ≤ a) (ha1 : a ≤ 9223372036854775807) (hb0 : -9223372036854775808 ≤ b) (hb1 : b ≤ 9223372036854775807) (w : World)
    (htab : Lib.TabIs Tryd.prog w "internal/strconv.uint64pow10" .u64 Lib.pow10Tab) :
    Calls Tryd.prog 7 #[.int .i64 a, .int .i64 b] w fun e w' => e = .returned (.bool true) ∧ Below w.heap.size w w' := by
  by_cases h0 : b = 0
  · subst h0; exact rests_zero a w htab
  by_cases h1 : b = -1 ∧ a = -9223372036854775808
  · obtain ⟨rfl, rfl⟩ := h1; exact rests_least w htab
  exact rests_all a b ha0 ha1 hb0 hb1 w htab h0 h1

end Go.Proofs.YthblmmighjmgpaaDoor

/-
  The walk of WholeQuotients: for every two numbers and any places it returns true.
-/
import Derived.Test.YthblmmighjmgpaaDoorQuoCalls
namespace Go.Proofs.YthblmmighjmgpaaDoor
open Go.RowKit Go.Proofs.YthblmmighjmgpaaDoorW.PrintWords
open Plain (hold)
set_option linter.unusedVariables false

set_option maxHeartbeats 2000000 in
theorem quotients_some (a b n : Int) (ha0 : -9223372036854775808 ≤ a) (ha1 : a ≤ 9223372036854775807) (hb0 : -9223372036854775808 ≤ b) (hb1 : b ≤ 9223372036854775807) (hn0 : -9223372036854775808 ≤ n) (hn1 : n ≤ 9223372036854775807) (w : World) (htab : Lib.TabIs Tryd.prog w "internal/strconv.uint64pow10" .u64 Lib.pow10Tab) (hne : b ≠ 0) :
    Calls Tryd.prog 6 #[.int .i64 a, .int .i64 b, .int .i64 n] w fun e w' => e = .returned (.bool true) ∧ Below w.heap.size w w' := by
  have HT := Lib.hid htab
  clear htab
  have HB := Lib.hid hne
  clear hne
  go_enter Tryd.func6, Tryd.ntmps6
  go_wp2_with fail
  refine (div_c a b ha0 ha1 _ HB.out).mono ?_
  rintro e w1 ⟨rfl, hb⟩
  have H1 := Lib.hid hb
  clear hb
  go_wp2_with fail
  refine (mod_c a b _ HB.out).mono ?_
  rintro e w2 ⟨rfl, hb⟩
  have H2 := onward H1 hb
  clear hb H1
  go_wp2_with fail
  refine (rdiv_c a b ha0 ha1 hb0 hb1 _ HB.out).mono ?_
  rintro e w3 ⟨rfl, hb⟩
  have H3 := onward H2 hb
  clear hb H2
  go_wp2_with fail
  refine (rmod_c a b ha0 ha1 hb0 hb1 _ HB.out).mono ?_
  rintro e w4 ⟨rfl, hb⟩
  have H4 := onward H3 hb
  clear hb H3
  go_wp2_with fail
  refine (awake_any _ (tab_below HT.out H4.out)).mono ?_
  rintro e w5 ⟨rfl, hb⟩
  have H5 := onward H4 hb
  clear hb H4
  go_wp2_with fail
  refine (shift_c a n ha0 ha1 _).mono ?_
  rintro e w6 ⟨rfl, hb⟩
  have H6 := onward H5 hb
  clear hb H5
  go_wp2_with fail
  refine (rshift_c a n ha0 ha1 hn1 _).mono ?_
  rintro e w7 ⟨rfl, hb⟩
  have H7 := onward H6 hb
  clear hb H6
  go_wp2_with fail
  go_ret
  exact ⟨rfl, H7.out⟩

set_option maxHeartbeats 2000000 in
theorem quotients_zero (a n : Int) (ha0 : -9223372036854775808 ≤ a) (ha1 : a ≤ 9223372036854775807) (hn0 : -9223372036854775808 ≤ n) (hn1 : n ≤ 9223372036854775807) (w : World) (htab : Lib.TabIs Tryd.prog w "internal/strconv.uint64pow10" .u64 Lib.pow10Tab) :
    Calls Tryd.prog 6 #[.int .i64 a, .int .i64 0, .int .i64 n] w fun e w' => e = .returned (.bool true) ∧ Below w.heap.size w w' := by
  have HT := Lib.hid htab
  clear htab
  go_enter Tryd.func6, Tryd.ntmps6
  go_wp2_with fail
  refine (div_zero_c a _).mono ?_
  rintro e w1 ⟨rfl, hb⟩
  have H1 := Lib.hid hb
  clear hb
  go_wp2_with fail
  refine (mod_zero_c a _).mono ?_
  rintro e w2 ⟨rfl, hb⟩
  have H2 := onward H1 hb
  clear hb H1
  go_wp2_with fail
  refine (rdiv_zero_c a _).mono ?_
  rintro e w3 ⟨rfl, hb⟩
  have H3 := onward H2 hb
  clear hb H2
  go_wp2_with fail
  refine (rmod_zero_c a _).mono ?_
  rintro e w4 ⟨rfl, hb⟩
  have H4 := onward H3 hb
  clear hb H3
  go_wp2_with fail
  refine (awake_any _ (tab_below HT.out H4.out)).mono ?_
  rintro e w5 ⟨rfl, hb⟩
  have H5 := onward H4 hb
  clear hb H4
  go_wp2_with fail
  refine (shift_c a n ha0 ha1 _).mono ?_
  rintro e w6 ⟨rfl, hb⟩
  have H6 := onward H5 hb
  clear hb H5
  go_wp2_with fail
  refine (rshift_c a n ha0 ha1 hn1 _).mono ?_
  rintro e w7 ⟨rfl, hb⟩
  have H7 := onward H6 hb
  clear hb H6
  go_wp2_with fail
  go_ret
  exact ⟨rfl, H7.out⟩

theorem wholeQuotients_walk (a b n : Int) (ha0 : -9223372036854775808 ≤ a) (ha1 : a ≤ 9223372036854775807) (hb0 : -9223372036854775808 ≤ b) (hb1 : b ≤ 9223372036854775807) (hn0 : -9223372036854775808 ≤ n) (hn1 : n ≤ 9223372036854775807) (w : World) (htab : Lib.TabIs Tryd.prog w "internal/strconv.uint64pow10" .u64 Lib.pow10Tab) :
    Calls Tryd.prog 6 #[.int .i64 a, .int .i64 b, .int .i64 n] w fun e w' => e = .returned (.bool true) ∧ Below w.heap.size w w' := by
  by_cases h0 : b = 0
  · subst h0; exact quotients_zero a n ha0 ha1 hn0 hn1 w htab
  exact quotients_some a b n ha0 ha1 hb0 hb1 hn0 hn1 w htab h0

end Go.Proofs.YthblmmighjmgpaaDoor

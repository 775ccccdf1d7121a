/-
  The walk of WholeSums: for every two numbers it returns true, where the table uint64pow10 holds the powers of ten.
-/
import Derived.Test.YthblmmighjmgpaaDoorSumsCalls
namespace Go.Proofs.YthblmmighjmgpaaDoor
open Go.RowKit Go.Proofs.YthblmmighjmgpaaDoorW.PrintWords
open Plain (hold)

set_option maxHeartbeats 1000000 in
theorem wholeSums_walk (a b : Int) (ha0 : -9223372036854775808 ≤ a) (ha1 : a ≤ 9223372036854775807) (hb0 : -9223372036854775808 ≤ b) (hb1 : b ≤ 9223372036854775807) (w : World)
    (htab : Lib.TabIs Tryd.prog w "internal/strconv.uint64pow10" .u64 Lib.pow10Tab) :
    Calls Tryd.prog 5 #[.int .i64 a, .int .i64 b] w fun e w' => e = .returned (.bool true) ∧ Below w.heap.size w w' := by
  have HT := Lib.hid htab
  clear htab
  go_enter Tryd.func5, Tryd.ntmps5
  go_wp2_with fail
  refine (awake_any w HT.out).mono ?_
  rintro e w1 ⟨rfl, hb⟩
  have H1 := Lib.hid hb
  clear hb
  go_wp2_with fail
  refine (add_c a b ha0 ha1 hb0 hb1 _).mono ?_
  rintro e w2 ⟨rfl, hb⟩
  have H2 := onward H1 hb
  clear hb H1
  go_wp2_with fail
  refine (radd_c a b ha0 ha1 hb0 hb1 _).mono ?_
  rintro e w3 ⟨rfl, hb⟩
  have H3 := onward H2 hb
  clear hb H2
  go_wp2_with fail
  refine (sub_c a b ha0 ha1 hb0 hb1 _).mono ?_
  rintro e w4 ⟨rfl, hb⟩
  have H4 := onward H3 hb
  clear hb H3
  go_wp2_with fail
  refine (rsub_c a b ha0 ha1 hb0 hb1 _).mono ?_
  rintro e w5 ⟨rfl, hb⟩
  have H5 := onward H4 hb
  clear hb H4
  go_wp2_with fail
  refine (mul_c a b ha0 ha1 hb0 hb1 _).mono ?_
  rintro e w6 ⟨rfl, hb⟩
  have H6 := onward H5 hb
  clear hb H5
  go_wp2_with fail
  refine (rmul_c a b ha0 ha1 hb0 hb1 _).mono ?_
  rintro e w7 ⟨rfl, hb⟩
  have H7 := onward H6 hb
  clear hb H6
  go_wp2_with fail
  refine (neg_c a ha0 ha1 _).mono ?_
  rintro e w8 ⟨rfl, hb⟩
  have H8 := onward H7 hb
  clear hb H7
  go_wp2_with fail
  refine (rneg_c a ha0 ha1 _).mono ?_
  rintro e w9 ⟨rfl, hb⟩
  have H9 := onward H8 hb
  clear hb H8
  go_wp2_with fail
  go_ret
  exact ⟨rfl, H9.out⟩

end Go.Proofs.YthblmmighjmgpaaDoor

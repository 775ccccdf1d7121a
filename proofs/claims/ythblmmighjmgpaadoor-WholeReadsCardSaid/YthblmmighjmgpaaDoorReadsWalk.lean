/-
  The walk of WholeReads: for every text and every number it returns true.
-/
import Derived.Test.YthblmmighjmgpaaDoorReadCalls
namespace Go.Proofs.YthblmmighjmgpaaDoor
open Go.RowKit Go.Proofs.YthblmmighjmgpaaDoorW.PrintWords
open Plain (hold readS)
set_option linter.unusedVariables false

set_option maxHeartbeats 1000000 in
theorem reads_long (s : ByteArray) (a : Int) (hs : 2000 < s.size) (hm : s.size ≤ 140737488351232) (w : World) (htab : Lib.TabIs Tryd.prog w "internal/strconv.uint64pow10" .u64 Lib.pow10Tab) :
    Calls Tryd.prog 8 #[.string s, .int .i64 a] w fun e w' => e = .returned (.bool true) ∧ Below w.heap.size w w' := by
  have HT := Lib.hid htab
  clear htab
  go_enter Tryd.func8, Tryd.ntmps8
  go_wp2_with fail
  refine (awake_any w HT.out).mono ?_
  rintro e w1 ⟨rfl, hb⟩
  have H1 := Lib.hid hb
  clear hb
  go_wp2_with fail
  go_ret
  exact ⟨rfl, H1.out⟩

set_option maxHeartbeats 1000000 in
theorem reads_short (s : ByteArray) (a : Int) (hs : s.size ≤ 2000) (h0 : -9223372036854775808 ≤ a) (h1 : a ≤ 9223372036854775807) (w : World) (htab : Lib.TabIs Tryd.prog w "internal/strconv.uint64pow10" .u64 Lib.pow10Tab) (he : ErrsAre w) :
    Calls Tryd.prog 8 #[.string s, .int .i64 a] w fun e w' => e = .returned (.bool true) ∧ Below w.heap.size w w' := by
  have HT := Lib.hid htab
  have HE := Lib.hid he
  clear htab he
  go_enter Tryd.func8, Tryd.ntmps8
  go_wp2_with fail
  refine (awake_any w HT.out).mono ?_
  rintro e w1 ⟨rfl, hb⟩
  have H1 := Lib.hid hb
  clear hb
  go_wp2_with fail
  refine (read_c s (by omega) _ (HE.out.on H1.out)).mono ?_
  rintro e w2 ⟨rfl, hb⟩
  have H2 := onward H1 hb
  clear hb H1
  go_wp2_with fail
  refine (rread_c s (by omega) _).mono ?_
  rintro e w3 ⟨rfl, hb⟩
  have H3 := onward H2 hb
  clear hb H2
  go_wp2_with fail
  refine (text_c a h0 h1 _ (tab_below HT.out H3.out)).mono ?_
  rintro e w4 ⟨rfl, hb⟩
  have H4 := onward H3 hb
  clear hb H3
  go_wp2_with fail
  refine (rtext_c a h0 h1 _).mono ?_
  rintro e w5 ⟨rfl, hb⟩
  have H5 := onward H4 hb
  clear hb H4
  go_wp2_with fail
  go_ret
  exact ⟨rfl, H5.out⟩

theorem wholeReads_walk (s : ByteArray) (a : Int) (hm : s.size ≤ 140737488351232) (h0 : -9223372036854775808 ≤ a) (h1 : a ≤ 9223372036854775807) (w : World) (htab : Lib.TabIs Tryd.prog w "internal/strconv.uint64pow10" .u64 Lib.pow10Tab)
    (hS : ∃ p, w.var? Tryd.prog "strconv.ErrSyntax" = some #[.iface 99 p]) (hR : ∃ p, w.var? Tryd.prog "strconv.ErrRange" = some #[.iface 99 p]) :
    Calls Tryd.prog 8 #[.string s, .int .i64 a] w fun e w' => e = .returned (.bool true) ∧ Below w.heap.size w w' := by
  by_cases hs : s.size ≤ 2000
  · exact reads_short s a hs h0 h1 w htab ⟨hS, hR⟩
  · exact reads_long s a (by omega) hm w htab

end Go.Proofs.YthblmmighjmgpaaDoor

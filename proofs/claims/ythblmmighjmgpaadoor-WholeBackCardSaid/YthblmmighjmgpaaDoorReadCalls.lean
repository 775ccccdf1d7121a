/-
  The contracts of Read and Text, of the program and of the document.
-/
import Derived.Test.YthblmmighjmgpaaDoorSumsCalls
import Derived.Test.YthblmmighjmgpaaDoorReadPlain
import Derived.Test.YthblmmighjmgpaaDoorTxtPlain
import Derived.Test.YthblmmighjmgpaaDoorShelfParse
import Derived.Lib.AtoiErrMem
import Derived.WideLaws
namespace Go.Proofs.YthblmmighjmgpaaDoor
open Go.RowKit Go.Proofs.YthblmmighjmgpaaDoorW.PrintWords
open Plain (hold readS okB negOf dsOf said)
set_option linter.unusedVariables false

theorem text_c (n : Int) (h0 : -9223372036854775808 ≤ n) (h1 : n ≤ 9223372036854775807) (w : World) (htab : Lib.TabIs Tryd.prog w "internal/strconv.uint64pow10" .u64 Lib.pow10Tab) :
    Calls Tryd.prog 35 #[.int .i64 n] w (Gives (.string ⟨(Lib.itoa n).toArray⟩) w) := text_any n h0 h1 w htab
theorem rtext_c (n : Int) (h0 : -9223372036854775808 ≤ n) (h1 : n ≤ 9223372036854775807) (w : World) :
    Calls Tryd.prog 36 #[.int .i64 n] w (Gives (.string ⟨(Lib.itoa n).toArray⟩) w) := Fn.prompterref01_Text.calls 21 n _ w (Plain.text_f n h0 h1)
theorem rread_c (s : ByteArray) (hm : s.size ≤ 9223372036854775806) (w : World) :
    Calls Tryd.prog 34 #[.string s] w (Gives (.tuple #[.int .i64 (readS s.data.toList).1, .int .i64 (readS s.data.toList).2]) w) :=
  Fn.prompterref01_Read.calls _ s _ _ w (Plain.read_f s hm)
theorem right_c (s : ByteArray) (hm : s.size ≤ 9223372036854775806) (w : World) :
    Calls Tryd.prog 44 #[.string s] w (Gives (.bool (okB (negOf s.data.toList) (dsOf s.data.toList))) w) :=
  (Fn.whole_right.calls _ s _ w (Plain.right_f s hm)).mono fun _ _ h => ⟨h.1, h.2.below⟩

/-- What a world lays for the library's errors. -/
def ErrsAre (w : World) : Prop := (∃ p, w.var? Tryd.prog "strconv.ErrSyntax" = some #[.iface 99 p]) ∧ (∃ p, w.var? Tryd.prog "strconv.ErrRange" = some #[.iface 99 p])
theorem ErrsAre.on {w w' : World} (h : ErrsAre w) (hb : Below w.heap.size w w') : ErrsAre w' := by
  obtain ⟨⟨p, hp⟩, ⟨q, hq⟩⟩ := h
  exact ⟨⟨p, var_below hp hb⟩, ⟨q, var_below hq hb⟩⟩

theorem parse_ok_c (s : ByteArray) (hm : s.size ≤ 281474976710656) (v : Int) (hv : Lib.parseIntB 64 s.data.toList = .ok v) (w : World) (he : ErrsAre w) :
    Calls Tryd.prog 45 #[.string s, .int .i64 10, .int .i64 64] w (Gives (.tuple #[.int .i64 v, .nilIface]) w) := by
  obtain ⟨⟨p, hp⟩, ⟨q, hq⟩⟩ := he
  refine ((Tryd.strconv_ParseInt_any s hm w 99 p hp 99 q hq).1 v hv).mono fun e w' h => ⟨h.1, ?_⟩
  rcases h.2 with rfl | ⟨t, rfl⟩
  · exact Below.refl _ _
  · exact Lib.bytesWorld_below _ _ _

set_option maxHeartbeats 1000000 in
theorem read_wrong (s : ByteArray) (hm : s.size ≤ 281474976710656) (hno : okB (negOf s.data.toList) (dsOf s.data.toList) = false) (w : World) :
    Calls Tryd.prog 33 #[.string s] w fun e w' => e = .returned (.tuple #[.int .i64 0, .int .i64 9]) ∧ Below w.heap.size w w' := by
  have H := right_c s (by omega) w
  rw [hno] at H
  have HH := Lib.hid H
  clear H hno
  go_enter Tryd.func33, Tryd.ntmps33
  go_wp2_with fail
  refine HH.out.mono ?_
  rintro e w1 ⟨rfl, hb⟩
  have H1 := Lib.hid hb
  clear hb
  go_wp2_with fail
  go_ret2
  exact ⟨rfl, H1.out⟩

set_option maxHeartbeats 1000000 in
theorem read_fine (s : ByteArray) (hm : s.size ≤ 281474976710656) (hok : okB (negOf s.data.toList) (dsOf s.data.toList) = true) (v : Int) (hv : Lib.parseIntB 64 s.data.toList = .ok v) (w : World) (he : ErrsAre w) :
    Calls Tryd.prog 33 #[.string s] w fun e w' => e = .returned (.tuple #[.int .i64 v, .int .i64 0]) ∧ Below w.heap.size w w' := by
  have H := right_c s (by omega) w
  rw [hok] at H
  have HH := Lib.hid H
  have HE := Lib.hid he
  have HV := Lib.hid hv
  clear H hok he hv
  go_enter Tryd.func33, Tryd.ntmps33
  go_wp2_with fail
  refine HH.out.mono ?_
  rintro e w1 ⟨rfl, hb⟩
  have H1 := Lib.hid hb
  clear hb
  go_wp2_with fail
  refine (parse_ok_c s hm v HV.out w1 (HE.out.on H1.out)).mono ?_
  rintro e w2 ⟨rfl, hb⟩
  have H2 := onward H1 hb
  clear hb H1
  go_wp2_with fail
  go_ret2
  exact ⟨rfl, H2.out⟩

set_option maxHeartbeats 1000000 in
theorem read_far (s : ByteArray) (hm : s.size ≤ 281474976710656) (hok : okB (negOf s.data.toList) (dsOf s.data.toList) = true) (hv : ∀ v, Lib.parseIntB 64 s.data.toList ≠ .ok v) (w : World) (he : ErrsAre w) :
    Calls Tryd.prog 33 #[.string s] w fun e w' => e = .returned (.tuple #[.int .i64 0, .int .i64 2]) ∧ Below w.heap.size w w' := by
  have H := right_c s (by omega) w
  rw [hok] at H
  have HH := Lib.hid H
  have HE := Lib.hid he
  have HV := Lib.hid hv
  clear H hok he hv
  go_enter Tryd.func33, Tryd.ntmps33
  go_wp2_with fail
  refine HH.out.mono ?_
  rintro e w1 ⟨rfl, hb⟩
  have H1 := Lib.hid hb
  clear hb
  go_wp2_with fail
  obtain ⟨⟨p, hp⟩, ⟨q, hq⟩⟩ := HE.out.on H1.out
  have HP := Lib.hid ((Tryd.strconv_ParseInt_any s hm w1 99 p hp 99 q hq).2 HV.out)
  clear hp hq
  refine HP.out.mono ?_
  rintro e w2 ⟨n, N, rfl, hb⟩
  have H2 := onward H1 hb
  clear hb H1 HP
  go_wp2_with fail
  go_ret2
  exact ⟨rfl, H2.out⟩

/-- The program's Read: the document's answer. -/
theorem read_c (s : ByteArray) (hm : s.size ≤ 281474976710656) (w : World) (he : ErrsAre w) :
    Calls Tryd.prog 33 #[.string s] w (Gives (.tuple #[.int .i64 (readS s.data.toList).1, .int .i64 (readS s.data.toList).2]) w) := by
  unfold readS
  by_cases hok : okB (negOf s.data.toList) (dsOf s.data.toList) = true
  · rw [if_pos hok]
    rcases Plain.parse_said s.data.toList hok with ⟨h2, hv⟩ | ⟨h2, hv⟩
    · rw [h2]; exact read_fine s hm hok _ hv w he
    · rw [h2]; exact read_far s hm hok hv w he
  · rw [if_neg hok]
    exact read_wrong s hm (by simpa using hok) w

end Go.Proofs.YthblmmighjmgpaaDoor

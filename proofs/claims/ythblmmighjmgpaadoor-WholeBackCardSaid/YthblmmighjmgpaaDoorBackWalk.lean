/-
  The walk of WholeBack: for every number and every text it returns true.
-/
import Derived.Test.YthblmmighjmgpaaDoorReadCalls
import Derived.Test.YthblmmighjmgpaaDoorBackPlain
namespace Go.Proofs.YthblmmighjmgpaaDoor
open Go.RowKit Go.Proofs.YthblmmighjmgpaaDoorW.PrintWords
open Plain (hold readS)
set_option linter.unusedVariables false

theorem decDigits_len : ∀ (d u : Nat), u < 10 ^ (d + 1) → (Lib.decDigits u).length ≤ d + 1
  | 0, u, h => by rw [Plain.decDigits_lo u (by simpa using h)]; simp
  | d + 1, u, h => by
    by_cases h9 : u < 10
    · rw [Plain.decDigits_lo u h9]; simp
    · rw [Plain.decDigits_hi u h9]
      have := decDigits_len d (u / 10) (by rw [Nat.pow_succ] at h; omega)
      simp; omega

theorem itoa_len (a : Int) (h0 : -9223372036854775808 ≤ a) (h1 : a ≤ 9223372036854775807) : (Lib.itoa a).length ≤ 21 := by
  unfold Lib.itoa
  split
  · have := decDigits_len 19 a.natAbs (by have : (10 : Nat) ^ (19 + 1) = 100000000000000000000 := by decide
                                          omega)
    simp; omega
  · have := decDigits_len 19 a.toNat (by have : (10 : Nat) ^ (19 + 1) = 100000000000000000000 := by decide
                                         omega)
    omega

theorem read_told_c (a : Int) (h0 : -9223372036854775808 ≤ a) (h1 : a ≤ 9223372036854775807) (w : World) (he : ErrsAre w) :
    Calls Tryd.prog 33 #[.string ⟨(Lib.itoa a).toArray⟩] w (Gives (.tuple #[.int .i64 a, .int .i64 0]) w) := by
  have hl := itoa_len a h0 h1
  have h := read_c ⟨(Lib.itoa a).toArray⟩ (by rw [Lib.size_eq]; simp; omega) w he
  have e : (ByteArray.mk (Lib.itoa a).toArray).data.toList = Lib.itoa a := by simp
  rwa [e, Plain.read_itoa a h0 h1] at h

theorem read_as_c (s : ByteArray) (m e : Int) (hs : readS s.data.toList = (m, e)) (hm : s.size ≤ 2000) (w : World) (he : ErrsAre w) :
    Calls Tryd.prog 33 #[.string s] w (Gives (.tuple #[.int .i64 m, .int .i64 e]) w) := by
  have h := read_c s (by omega) w he
  rwa [hs] at h

theorem text_as_c (s : ByteArray) (m : Int) (hs : readS s.data.toList = (m, 0)) (w : World) (htab : Lib.TabIs Tryd.prog w "internal/strconv.uint64pow10" .u64 Lib.pow10Tab) :
    Calls Tryd.prog 35 #[.int .i64 m] w (Gives (.string s) w) := by
  obtain ⟨h1, h2, h3⟩ := Plain.itoa_read _ _ hs
  have h := text_c m h2 h3 w htab
  have e : (ByteArray.mk (Lib.itoa m).toArray) = s := Plain.bytes_ext (by rw [h1])
  rwa [e] at h

section
variable (a : Int) (s : ByteArray) (h0 : -9223372036854775808 ≤ a) (h1 : a ≤ 9223372036854775807) (w : World) (htab : Lib.TabIs Tryd.prog w "internal/strconv.uint64pow10" .u64 Lib.pow10Tab) (he : ErrsAre w)
include h0 h1 htab he

set_option maxHeartbeats 1000000 in
theorem back_long (hs : 2000 < s.size) (hm : s.size ≤ 140737488351232) :
    Calls Tryd.prog 9 #[.int .i64 a, .string s] w fun e w' => e = .returned (.bool true) ∧ Below w.heap.size w w' := by
  have HT := Lib.hid htab
  have HE := Lib.hid he
  clear htab he
  go_enter Tryd.func9, Tryd.ntmps9
  go_wp2_with fail
  refine (awake_any w HT.out).mono ?_
  rintro e w1 ⟨rfl, hb⟩
  have H1 := Lib.hid hb
  clear hb
  go_wp2_with fail
  refine (text_c a h0 h1 _ (tab_below HT.out H1.out)).mono ?_
  rintro e w2 ⟨rfl, hb⟩
  have H2 := onward H1 hb
  clear hb H1
  go_wp2_with fail
  refine (read_told_c a h0 h1 _ (HE.out.on H2.out)).mono ?_
  rintro e w3 ⟨rfl, hb⟩
  have H3 := onward H2 hb
  clear hb H2
  go_wp2_with fail
  go_ret
  exact ⟨rfl, H3.out⟩

set_option maxHeartbeats 1000000 in
theorem back_refused (m e : Int) (hr : readS s.data.toList = (m, e)) (hme : m = 0 ∧ (e = 9 ∨ e = 2 ∧ decide (18 < (s.size : Int)) = true)) (hs : s.size ≤ 2000) :
    Calls Tryd.prog 9 #[.int .i64 a, .string s] w fun e w' => e = .returned (.bool true) ∧ Below w.heap.size w w' := by
  have HT := Lib.hid htab
  have HE := Lib.hid he
  have HR := Lib.hid hr
  clear htab he hr
  obtain ⟨rfl, rfl | ⟨rfl, hlen⟩⟩ := hme
  all_goals
    go_enter Tryd.func9, Tryd.ntmps9
    go_wp2_with fail
    refine (awake_any w HT.out).mono ?_
    rintro e w1 ⟨rfl, hb⟩
    have H1 := Lib.hid hb
    clear hb
    go_wp2_with fail
    refine (text_c a h0 h1 _ (tab_below HT.out H1.out)).mono ?_
    rintro e w2 ⟨rfl, hb⟩
    have H2 := onward H1 hb
    clear hb H1
    go_wp2_with fail
    refine (read_told_c a h0 h1 _ (HE.out.on H2.out)).mono ?_
    rintro e w3 ⟨rfl, hb⟩
    have H3 := onward H2 hb
    clear hb H2
    go_wp2_with fail
    refine (read_as_c s _ _ HR.out hs _ (HE.out.on H3.out)).mono ?_
    rintro e w4 ⟨rfl, hb⟩
    have H4 := onward H3 hb
    clear hb H3
    go_wp2_with fail
    go_ret
    exact ⟨rfl, H4.out⟩

set_option maxHeartbeats 1000000 in
theorem back_read (m : Int) (hr : readS s.data.toList = (m, 0)) (hs : s.size ≤ 2000) :
    Calls Tryd.prog 9 #[.int .i64 a, .string s] w fun e w' => e = .returned (.bool true) ∧ Below w.heap.size w w' := by
  have HT := Lib.hid htab
  have HE := Lib.hid he
  have HR := Lib.hid hr
  clear htab he hr
  go_enter Tryd.func9, Tryd.ntmps9
  go_wp2_with fail
  refine (awake_any w HT.out).mono ?_
  rintro e w1 ⟨rfl, hb⟩
  have H1 := Lib.hid hb
  clear hb
  go_wp2_with fail
  refine (text_c a h0 h1 _ (tab_below HT.out H1.out)).mono ?_
  rintro e w2 ⟨rfl, hb⟩
  have H2 := onward H1 hb
  clear hb H1
  go_wp2_with fail
  refine (read_told_c a h0 h1 _ (HE.out.on H2.out)).mono ?_
  rintro e w3 ⟨rfl, hb⟩
  have H3 := onward H2 hb
  clear hb H2
  go_wp2_with fail
  refine (read_as_c s m 0 HR.out hs _ (HE.out.on H3.out)).mono ?_
  rintro e w4 ⟨rfl, hb⟩
  have H4 := onward H3 hb
  clear hb H3
  go_wp2_with fail
  refine (text_as_c s m HR.out _ (tab_below HT.out H4.out)).mono ?_
  rintro e w5 ⟨rfl, hb⟩
  have H5 := onward H4 hb
  clear hb H4
  go_wp2_with fail
  go_ret
  exact ⟨rfl, H5.out⟩
end

theorem wholeBack_walk (a : Int) (s : ByteArray) (h0 : -9223372036854775808 ≤ a) (h1 : a ≤ 9223372036854775807) (hm : s.size ≤ 140737488351232) (w : World) (htab : Lib.TabIs Tryd.prog w "internal/strconv.uint64pow10" .u64 Lib.pow10Tab)
    (hS : ∃ p, w.var? Tryd.prog "strconv.ErrSyntax" = some #[.iface 99 p]) (hR : ∃ p, w.var? Tryd.prog "strconv.ErrRange" = some #[.iface 99 p]) :
    Calls Tryd.prog 9 #[.int .i64 a, .string s] w fun e w' => e = .returned (.bool true) ∧ Below w.heap.size w w' := by
  by_cases hs : s.size ≤ 2000
  · by_cases hz : (readS s.data.toList).2 = 0
    · exact back_read a s h0 h1 w htab ⟨hS, hR⟩ (readS s.data.toList).1 (by rw [← hz]) hs
    · have hl := Lib.size_eq s
      rcases Plain.read_refused _ hz with h | ⟨h, hlen⟩
      · exact back_refused a s h0 h1 w htab ⟨hS, hR⟩ 0 9 h ⟨rfl, Or.inl rfl⟩ hs
      · exact back_refused a s h0 h1 w htab ⟨hS, hR⟩ 0 2 h ⟨rfl, Or.inr ⟨rfl, by rw [decide_eq_true_eq]; omega⟩⟩ hs
  · exact back_long a s h0 h1 w htab ⟨hS, hR⟩ (by omega) hm

end Go.Proofs.YthblmmighjmgpaaDoor

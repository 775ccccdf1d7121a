/-
  The walk of WholeKnown: the chapter's examples: it returns true.
-/
import Derived.Test.YthblmmighjmgpaaDoorReadCalls
import Derived.Test.YthblmmighjmgpaaDoorQuoCalls
import Derived.Test.YthblmmighjmgpaaDoorMostCalls
namespace Go.Proofs.YthblmmighjmgpaaDoor
open Go.RowKit Go.Proofs.YthblmmighjmgpaaDoorW.PrintWords Go.Proofs.YthblmmighjmgpaaDoorW.PrintLast Go.Proofs.YthblmmighjmgpaaDoorW.PrintMore
open Plain (hold readS)
set_option linter.unusedVariables false

theorem known_div (w : World) : Calls Tryd.prog 27 #[.int .i64 (-9223372036854775808), .int .i64 (-1)] w (Gives (.tuple #[.int .i64 9223372036854775807, .int .i64 0]) w) := by
  have h := div_c (-9223372036854775808) (-1) (by omega) (by omega) w (by omega)
  have e : hold ((-9223372036854775808 : Int).tdiv (-1)) = 9223372036854775807 := by decide
  rwa [e] at h
theorem known_mod (w : World) : Calls Tryd.prog 28 #[.int .i64 (-9223372036854775808), .int .i64 (-1)] w (Gives (.tuple #[.int .i64 0, .int .i64 0]) w) := by
  have h := mod_c (-9223372036854775808) (-1) w (by omega)
  have e : (-9223372036854775808 : Int).tmod (-1) = 0 := by decide
  rwa [e] at h
theorem known_read (s : ByteArray) (m e : Int) (hs : readS s.data.toList = (m, e)) (hm : s.size ≤ 281474976710656) (w : World) (he : ErrsAre w) : Calls Tryd.prog 33 #[.string s] w (Gives (.tuple #[.int .i64 m, .int .i64 e]) w) := by
  have h := read_c s hm w he
  rwa [hs] at h
theorem known_shift (a n r : Int) (ha0 : -9223372036854775808 ≤ a) (ha1 : a ≤ 9223372036854775807) (hr : shiftS a n = r) (w : World) : Calls Tryd.prog 31 #[.int .i64 a, .int .i64 n] w (Gives (.int .i64 r) w) := by
  have h := shift_c a n ha0 ha1 w
  rwa [hr] at h
theorem known_clamp (x lo hi r : Int) (hr : Fn.whole_Clamp_int.f x lo hi = some r) (w : World) : Calls Tryd.prog 39 #[.int .i64 x, .int .i64 lo, .int .i64 hi] w (Gives (.int .i64 r) w) :=
  (Fn.whole_Clamp_int.calls x lo hi r w hr).mono fun _ _ h => ⟨h.1, h.2.below⟩
theorem known_clamp8 (x lo hi r : Int) (hr : clampI x lo hi = r) (w : World) : Calls Tryd.prog 18 #[.int .i8 x, .int .i8 lo, .int .i8 hi] w (Gives (.int .i8 r) w) := by
  have h := clampI8_c x lo hi w
  rwa [hr] at h

theorem known_most (w : World) : Calls Tryd.prog 37 #[.slice (some ⟨w.heap.size, 0, none⟩) 3 3] (w.alloc (.cells #[.int .i64 3, .int .i64 9, .int .i64 (-1)] 3)) (Gives (.tuple #[.int .i64 9, .bool true]) (w.alloc (.cells #[.int .i64 3, .int .i64 9, .int .i64 (-1)] 3))) := by
  have hr : ReadsInt (w.alloc (.cells #[.int .i64 3, .int .i64 9, .int .i64 (-1)] 3)) .i64 (some ⟨w.heap.size, 0, none⟩) 3 [3, 9, -1] := by
    refine ⟨rfl, by decide, fun _ => ⟨⟨w.heap.size, 0, none⟩, rfl, fun j hj => ?_⟩⟩
    rcases (show j = 0 ∨ j = 1 ∨ j = 2 by omega) with rfl | rfl | rfl
    · show (w.alloc _).cell? ⟨w.heap.size, 0, none⟩ = _
      rw [World.cell?_alloc_at (hn := by simp)]; rfl
    · show (w.alloc _).cell? ⟨w.heap.size, 1, none⟩ = _
      rw [World.cell?_alloc_at (hn := by simp)]; rfl
    · show (w.alloc _).cell? ⟨w.heap.size, 2, none⟩ = _
      rw [World.cell?_alloc_at (hn := by simp)]; rfl
  exact (Fn.whole_Most_int.calls 5 (some ⟨w.heap.size, 0, none⟩) 3 [3, 9, -1] 9 true _ (Kd.C_of_reads (d := (0 : Int)) (h1 := fun _ => rfl) hr) (by decide) (by decide +kernel)).mono fun _ _ h => ⟨h.1, h.2.below⟩

theorem known_none (w W : World) : Calls Tryd.prog 38 #[.slice (some ⟨w.heap.size, 0, none⟩) 0 0] W (Gives (.tuple #[.int .i16 0, .bool false]) W) :=
  (Fn.whole_Most_int16.calls 2 (some ⟨w.heap.size, 0, none⟩) 0 [] 0 false W (Kd.C_of_reads (d := (0 : Int)) (h1 := fun _ => rfl) ⟨rfl, by decide, fun h => absurd h (Nat.lt_irrefl 0)⟩) (by decide) (by decide +kernel)).mono fun _ _ h => ⟨h.1, h.2.below⟩

set_option maxHeartbeats 2000000 in
set_option maxRecDepth 100000 in
theorem wholeKnown_walk (w : World) (htab : Lib.TabIs Tryd.prog w "internal/strconv.uint64pow10" .u64 Lib.pow10Tab)
    (hS : ∃ p, w.var? Tryd.prog "strconv.ErrSyntax" = some #[.iface 99 p]) (hR : ∃ p, w.var? Tryd.prog "strconv.ErrRange" = some #[.iface 99 p]) :
    Calls Tryd.prog 10 #[] w fun e w' => e = .returned (.bool true) ∧ Below w.heap.size w w' := by
  have HT := Lib.hid htab
  have HE : Hid (ErrsAre w) := ⟨hS, hR⟩
  clear htab hS hR
  go_enter Tryd.func10, Tryd.ntmps10
  go_wp2_with fail
  refine (known_div w).mono ?_
  rintro e w1 ⟨rfl, hb⟩
  have H1 := Lib.hid hb
  clear hb
  go_wp2_with fail
  refine (known_mod _).mono ?_
  rintro e w2 ⟨rfl, hb⟩
  have H2 := onward H1 hb
  clear hb H1
  go_wp2_with fail
  refine (div_zero_c 1 _).mono ?_
  rintro e w3 ⟨rfl, hb⟩
  have H3 := onward H2 hb
  clear hb H2
  go_wp2_with fail
  refine (mod_zero_c 0 _).mono ?_
  rintro e w4 ⟨rfl, hb⟩
  have H4 := onward H3 hb
  clear hb H3
  go_wp2_with fail
  refine (known_read ⟨#[45, 57, 50, 50, 51, 51, 55, 50, 48, 51, 54, 56, 53, 52, 55, 55, 53, 56, 48, 56]⟩ (-9223372036854775808) 0 (by decide +kernel) (by decide) _ (HE.out.on H4.out)).mono ?_
  rintro e w5 ⟨rfl, hb⟩
  have H5 := onward H4 hb
  clear hb H4
  go_wp2_with fail
  refine (known_read ⟨#[57, 50, 50, 51, 51, 55, 50, 48, 51, 54, 56, 53, 52, 55, 55, 53, 56, 48, 56]⟩ 0 2 (by decide +kernel) (by decide) _ (HE.out.on H5.out)).mono ?_
  rintro e w6 ⟨rfl, hb⟩
  have H6 := onward H5 hb
  clear hb H5
  go_wp2_with fail
  refine (known_read ⟨#[45, 48]⟩ 0 9 (by decide +kernel) (by decide) _ (HE.out.on H6.out)).mono ?_
  rintro e w7 ⟨rfl, hb⟩
  have H7 := onward H6 hb
  clear hb H6
  go_wp2_with fail
  refine (known_read ⟨#[48, 48, 55]⟩ 0 9 (by decide +kernel) (by decide) _ (HE.out.on H7.out)).mono ?_
  rintro e w8 ⟨rfl, hb⟩
  have H8 := onward H7 hb
  clear hb H7
  go_wp2_with fail
  refine (known_most w8).mono ?_
  rintro e w9 ⟨rfl, hb⟩
  have H9 := onward (onward H8 ((Below.refl _ _).alloc (Nat.le_refl _) _)) hb
  clear hb H8
  go_wp2_with fail
  refine (known_none w9 _).mono ?_
  rintro e w10 ⟨rfl, hb⟩
  have H10 := onward (onward H9 ((Below.refl _ _).alloc (Nat.le_refl _) _)) hb
  clear hb H9
  go_wp2_with fail
  refine (awake_any _ (tab_below HT.out H10.out)).mono ?_
  rintro e w11 ⟨rfl, hb⟩
  have H11 := onward H10 hb
  clear hb H10
  go_wp2_with fail
  refine (known_shift (-1) 63 (-9223372036854775808) (by omega) (by omega) (by decide +kernel) _).mono ?_
  rintro e w12 ⟨rfl, hb⟩
  have H12 := onward H11 hb
  clear hb H11
  go_wp2_with fail
  refine (known_shift 1 63 9223372036854775807 (by omega) (by omega) (by decide +kernel) _).mono ?_
  rintro e w13 ⟨rfl, hb⟩
  have H13 := onward H12 hb
  clear hb H12
  go_wp2_with fail
  refine (known_shift 5 (-1) 5 (by omega) (by omega) (by decide +kernel) _).mono ?_
  rintro e w14 ⟨rfl, hb⟩
  have H14 := onward H13 hb
  clear hb H13
  go_wp2_with fail
  refine (known_clamp 4 5 3 5 (by decide) _).mono ?_
  rintro e w15 ⟨rfl, hb⟩
  have H15 := onward H14 hb
  clear hb H14
  go_wp2_with fail
  refine (known_clamp 5 5 3 3 (by decide) _).mono ?_
  rintro e w16 ⟨rfl, hb⟩
  have H16 := onward H15 hb
  clear hb H15
  go_wp2_with fail
  refine (known_clamp8 5 1 3 3 (by decide) _).mono ?_
  rintro e w17 ⟨rfl, hb⟩
  have H17 := onward H16 hb
  clear hb H16
  go_wp2_with fail
  go_ret
  exact ⟨rfl, H17.out⟩

end Go.Proofs.YthblmmighjmgpaaDoor

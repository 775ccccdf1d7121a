/-
  What all statements of this seat need: the program's package variables (numbers and types), the table uint64pow10 out of what the row lists, whole.Text and awake() by their contracts.
-/
import Derived.Test.YthblmmighjmgpaaDoorRows
import Derived.Test.YthblmmighjmgpaaDoorShelf
import Derived.Test.YthblmmighjmgpaaDoorFnWhole
import Derived.WalkKit
import Derived.WalkSpells
import Derived.WalkLawsBesides
import Derived.Below
import Derived.Lib.LaidTab
import Derived.Stop.LaidErr
import Derived.Lib.Hide
import Derived.Outline
namespace Go.Proofs.YthblmmighjmgpaaDoor
open Go.RowKit Go.Proofs.YthblmmighjmgpaaDoorW.PrintWords

theorem own : ownKnob Tryd.prog.godebug = none := by kernel_rfl
theorem gPow : Tryd.prog.globalNamed "internal/strconv.uint64pow10" = some 2 := by kernel_rfl

/-- New blocks behind the heap and draws turn nothing that was there. -/
theorem below_grow (w : World) (k : Nat) (os : Array Obj) : Below w.heap.size w (Go.Sort.grow (w.drewN k) os) := by
  have h1 : ∀ n : Nat, Below w.heap.size w (w.drewN n) := fun n => (Drawn0.below ⟨⟨n, rfl⟩⟩)
  refine (h1 k).trans ⟨rfl, rfl, rfl, by simp [Go.Sort.grow], fun j hj => ?_⟩
  have : j < (w.drewN k).heap.size := Nat.lt_of_lt_of_le hj (h1 k).size
  simp only [Go.Sort.grow]
  rw [Array.getElem?_append_left this]

/-- A package variable holds behind a call that has turned nothing what it held. -/
theorem var_below {w w' : World} {n : String} {cs : Array Value} (h : w.var? Tryd.prog n = some cs) (hb : Below w.heap.size w w') : w'.var? Tryd.prog n = some cs := by
  unfold World.var? at h ⊢
  cases hg : Tryd.prog.globalNamed n with
  | none => simp [hg] at h
  | some g =>
    simp only [hg, Option.bind_some] at h ⊢
    have hlt : g < w.heap.size := by
      rcases Nat.lt_or_ge g w.heap.size with h' | h'
      · exact h'
      · simp [Array.getElem?_eq_none h'] at h
    rw [hb.block g hlt]
    exact h

theorem tab_below {w w' : World} (h : Lib.TabIs Tryd.prog w "internal/strconv.uint64pow10" .u64 Lib.pow10Tab) (hb : Below w.heap.size w w') : Lib.TabIs Tryd.prog w' "internal/strconv.uint64pow10" .u64 Lib.pow10Tab :=
  var_below h hb

set_option maxHeartbeats 400000 in
/-- whole.Text: the decimal numeral. -/
theorem text_any (n : Int) (h0 : -9223372036854775808 ≤ n) (h1 : n ≤ 9223372036854775807) (w : World) (htab : Lib.TabIs Tryd.prog w "internal/strconv.uint64pow10" .u64 Lib.pow10Tab) :
    Calls Tryd.prog 35 #[.int .i64 n] w fun e w' => e = .returned (.string ⟨(Lib.itoa n).toArray⟩) ∧ Below w.heap.size w w' := by
  have H := Tryd.strconv_FormatInt_10 n h0 h1 w htab
  have HH := Lib.hid H
  clear H h0 h1 htab
  go_enter Tryd.func35, Tryd.ntmps35
  go_wp2_with (go_at_call 46; refine HH.out.mono ?_; rintro e w' ⟨rfl, k, os, rfl⟩)
  go_ret
  exact ⟨rfl, below_grow w k os⟩

theorem itoa_m7 : Lib.itoa (-7) = [45, 55] := by decide +kernel
theorem add23 : Fn.whole_Add.f 1 2 3 = some 5 := by decide +kernel

set_option maxHeartbeats 400000 in
/-- awake(): true, in whatever memory in which the table lies. -/
theorem awake_any (w : World) (htab : Lib.TabIs Tryd.prog w "internal/strconv.uint64pow10" .u64 Lib.pow10Tab) :
    Calls Tryd.prog 11 #[] w fun e w' => e = .returned (.bool true) ∧ Below w.heap.size w w' := by
  have HT := Lib.hid htab
  clear htab
  go_enter Tryd.func11, Tryd.ntmps11
  go_wp2_with fail
  refine (Fn.whole_Add.calls 1 2 3 5 _ add23).mono ?_
  rintro e w1 ⟨rfl, hd⟩
  have hb := hd.below
  clear hd
  have HB := Lib.hid hb
  clear hb
  go_wp2_with fail
  refine (text_any (-7) (by decide) (by decide) w1 (tab_below HT.out HB.out)).mono ?_
  rintro e w2 ⟨rfl, hb2⟩
  have HB2 := Lib.hid (HB.out.trans (hb2.mono HB.out.size))
  clear hb2
  rw [itoa_m7]
  go_wp2
  go_ret
  exact ⟨rfl, HB2.out⟩

end Go.Proofs.YthblmmighjmgpaaDoor

/-
  The walk of WholeMost: for every three numbers and every list it returns true.
-/
import Derived.Test.YthblmmighjmgpaaDoorMostCalls
namespace Go.Proofs.YthblmmighjmgpaaDoor
open Go.RowKit Go.Proofs.YthblmmighjmgpaaDoorW.PrintWords Go.Proofs.YthblmmighjmgpaaDoorW.PrintLast Go.Proofs.YthblmmighjmgpaaDoorW.PrintMore
open Plain (hold)
set_option linter.unusedVariables false

theorem info2 : (Tryd.prog.info? 2).map (fun i => (i.zero, i.size, i.bytes)) = some (some (.int .i64 0), 1, 8) := by kernel_rfl

theorem rd_mem (l : List Int) (i : Nat) (h : i < l.length) : rd l (i : Int) ∈ l := by
  unfold rd
  simp [h]

theorem i8_bd (z : Int) : -128 ≤ IntKind.i8.wrap z ∧ IntKind.i8.wrap z ≤ 127 := by
  rw [show IntKind.i8.wrap z = (z + 128) % 256 - 128 by simp [IntKind.wrap, IntKind.bits, IntKind.signed]; split <;> omega]
  omega

theorem i8_64 (z : Int) : wrap64 (IntKind.i8.wrap z) = IntKind.i8.wrap z := by
  have := i8_bd z
  unfold wrap64; omega

theorem clampI_bd (x lo hi : Int) (hx : -128 ≤ x ∧ x ≤ 127) (hl : -128 ≤ lo ∧ lo ≤ 127) (hh : -128 ≤ hi ∧ hi ≤ 127) : -128 ≤ clampI x lo hi ∧ clampI x lo hi ≤ 127 := by
  unfold clampI; split <;> (try split) <;> assumption

set_option maxHeartbeats 1000000 in
theorem most_long (x lo hi : Int) (A : Option Addr) (n c : Nat) (hn : 200 < n) (w : World)
    (htab : Lib.TabIs Tryd.prog w "internal/strconv.uint64pow10" .u64 Lib.pow10Tab) :
    Calls Tryd.prog 3 #[.int .i64 x, .int .i64 lo, .int .i64 hi, .slice A n c] w fun e w' => e = .returned (.bool true) ∧ Below w.heap.size w w' := by
  have HT := Lib.hid htab
  clear htab
  go_enter Tryd.func3, Tryd.ntmps3
  go_wp2_with fail
  refine (awake_any w HT.out).mono ?_
  rintro e w1 ⟨rfl, hb⟩
  have H1 := Lib.hid hb
  clear hb
  go_wp2_with fail
  go_ret
  exact ⟨rfl, H1.out⟩

set_option maxHeartbeats 2000000 in
set_option maxRecDepth 100000 in
theorem most_short (x lo hi : Int) (A : Option Addr) (c : Nat) (l : List Int) (hc : l.length ≤ c) (hn : l.length ≤ 200) (w : World) (hr : Kd.C (Kd.int .i64) w A l.length l)
    (htab : Lib.TabIs Tryd.prog w "internal/strconv.uint64pow10" .u64 Lib.pow10Tab) :
    Calls Tryd.prog 3 #[.int .i64 x, .int .i64 lo, .int .i64 hi, .slice A l.length c] w fun e w' => e = .returned (.bool true) ∧ Below w.heap.size w w' := by
  have HT := Lib.hid htab
  have HR := Lib.hid hr
  have HC := Lib.hid hc
  have HS := Lib.hid (small_l l hn l.length 0 (l.length + 1) (by omega) (by omega))
  obtain ⟨k8, hk8⟩ : ∃ k8, l.map IntKind.i8.wrap = k8 := ⟨_, rfl⟩
  have hkl : k8.length = l.length := by rw [← hk8]; simp
  have hkb : ∀ y ∈ k8, -128 ≤ y ∧ y ≤ 127 := by
    rw [← hk8]; intro y hy
    obtain ⟨z, _, rfl⟩ := List.mem_map.1 hy
    rw [show IntKind.i8.wrap z = (z + 128) % 256 - 128 by simp [IntKind.wrap, IntKind.bits, IntKind.signed]; split <;> omega]
    omega
  rw [hk8] at HS
  have HKL := Lib.hid hkl
  have HKB := Lib.hid hkb
  clear htab hr hc hk8 hkl hkb
  go_enter Tryd.func3, Tryd.ntmps3
  go_wp2_with fail
  refine (awake_any w HT.out).mono ?_
  rintro e w1 ⟨rfl, hb⟩
  have H1 := Lib.hid hb
  clear hb
  go_wp2_with fail
  refine (most64_c A c l _ HC.out (Kd.C_below HR.out H1.out)).mono ?_
  rintro e w2 ⟨rfl, hb⟩
  have H2 := onward H1 hb
  clear hb H1
  go_wp2_with fail
  refine (rmost_c A c l _ HC.out (Kd.C_below HR.out H2.out)).mono ?_
  rintro e w3 ⟨rfl, hb⟩
  have H3 := onward H2 hb
  clear hb H2
  go_wp2_with fail
  refine (Fn.prompterlaw01_small.calls (l.length + 1) A c l k8 _ (Kd.C_below HR.out H3.out) HC.out HS.out).mono ?_
  rintro e w4 ⟨v0, rfl, hR, hb⟩
  obtain ⟨A8, c8, rfl, hc8, hC8⟩ := Kd.R_reads hR
  have H4 := onward H3 hb
  have HC8 := Lib.hid hC8
  have HL8 := Lib.hid hc8
  clear hb H3 hR hC8 hc8
  have hbd := topOf_bd (-128) 127 (by omega) (by omega) k8 HKB.out
  have HBD := Lib.hid hbd
  clear hbd
  go_wp2_with fail
  go_loopg [14, 15] (l.length + 1) (fun kq v14 v15 w' => ∃ (i : Nat), v15 = .int .i64 (i : Int) ∧ Aside0 (kq + i = l.length + 1) ∧ Aside0 (i ≤ l.length) ∧ Aside0 (Kd.R (Kd.int .i64) 2 w' w4.heap.size (fun _ => True) v14 (k8.take i)) ∧ Aside0 (Below w4.heap.size w4 w'))
  case atStart => exact ⟨0, rfl, ⟨by omega⟩, ⟨by omega⟩, ⟨Kd.R_nil _ _ _ _ _⟩, ⟨Below.refl _ _⟩⟩
  case round =>
    obtain ⟨i, rfl, HK, HI, HO, HB⟩ := hrel
    have hi := HI.out
    cases gk with
    | zero => exact absurd HK.out (by omega)
    | succ k1 =>
      by_cases hlt : i < k8.length
      · have p1 : (0 : Int) ≤ (i : Int) := by omega
        have q1 : (i : Int) < (k8.length : Int) := by omega
        obtain ⟨ad, e110, hx⟩ := Kd.at_int HC8.out (i : Int) p1 q1
        cases e110
        rw [Int.toNat_natCast] at hx
        replace hx := (HB.out.cell (World.block_lt_of_cell? w4 _ hx)).trans hx
        have hy : -128 ≤ rd k8 (i : Int) ∧ rd k8 (i : Int) ≤ 127 := HKB.out _ (rd_mem k8 i hlt)
        obtain ⟨y1, y2⟩ := hy
        have hts := take_rd k8 i hlt
        have HTS := Aside0.mk hts
        clear hts
        go_wp2_with (first | ((with_reducible refine gate_builtin (b := .append) (xs := #[.tmp 43, .tmp 49]) rfl ?_); at_builtin; refine Kd.R_append (Kd.int .i64) (w0 := w4) w4.heap.size rfl (.tmp 43) (.tmp 49) 22 2 (.int .i64 0) 8 rfl Tryd.underlying22 info2 rfl (by decide) (by omega) u14 (k8.take i) (rd k8 (i : Int)) [.int .i64 (rd k8 (i : Int))] (fun _ => True) (fun _ => False) rfl rfl ?aP (fun _ hk => hk.elim) ?aF ?aO ?aB ?aS ?aL ?_; (case aP => exact rfl); (case aB => exact (by repeat (first | (with_reducible first | exact HB.out | apply below_alloc | apply pw_below_drewN | apply below_drew1) | exact HB.out))); (case aF => exact (fun _ _ => trivial)); (case aO => exact (by (with_reducible repeat (first | apply Kd.R_alloc | apply Kd.R_drewN | apply Kd.R_drew)); exact HO.out)); (case aS => exact (below_size (by repeat (first | (with_reducible first | exact HB.out | apply below_alloc | apply pw_below_drewN | apply below_drew1) | exact HB.out)))); (case aL => have := HI.out; simp; omega); intro v112 w5 ho hb hg hat; rw [← HTS.out] at ho; have n0_ := Aside0.mk (hb); have n1_ := Aside0.mk (ho); clear HB; clear HO; have HB := n0_; have HO2 := n1_; clear n0_ n1_; clear ho hb hg hat))
        go_roundg k1
        case measure => have := HK.out; omega
        case rel => exact ⟨i + 1, by go_num, ⟨by have := HK.out; omega⟩, ⟨by have := HKL.out; omega⟩, ⟨by (with_reducible repeat (first | apply Kd.R_alloc | apply Kd.R_drewN | apply Kd.R_drew)); exact HO2.out⟩, ⟨by repeat (first | (with_reducible first | exact HB.out | apply below_alloc | apply pw_below_drewN | apply below_drew1) | exact HB.out)⟩⟩
      · have hO := HO.out
        rw [List.take_of_length_le (by omega)] at hO
        obtain ⟨A9, c9, rfl, hc9, hC9⟩ := Kd.R_reads hO
        have HC9 := Lib.hid hC9
        have HL9 := Lib.hid hc9
        have H5 := onward H4 HB.out
        have HC8b := Lib.hid (Kd.C_below HC8.out HB.out)
        obtain ⟨t1, t2⟩ := HBD.out
        clear hO hC9 hc9 HO HB HC8 hi HK HI
        go_wp2_with fail
        refine (most8_c A8 c8 k8 _ HL8.out HC8b.out).mono ?_
        rintro e w6 ⟨rfl, hb⟩
        have H6 := onward H5 hb
        have HC9b := Lib.hid (Kd.C_below HC9.out hb)
        clear hb H5 HC8b HC9
        go_wp2_with fail
        refine (rmost_c A9 c9 k8 _ HL9.out HC9b.out).mono ?_
        rintro e w7 ⟨rfl, hb⟩
        have H7 := onward H6 hb
        clear hb H6 HC9b
        go_wp2_with fail
        refine (clamp_c x lo hi _).mono ?_
        rintro e w8 ⟨rfl, hb⟩
        have H8 := onward H7 hb
        clear hb H7
        go_wp2_with fail
        refine (rclamp_c x lo hi _).mono ?_
        rintro e w9 ⟨rfl, hb⟩
        have H9 := onward H8 hb
        clear hb H8
        go_wp2_with fail
        obtain ⟨x0, x1⟩ := i8_bd x
        obtain ⟨l0, l1⟩ := i8_bd lo
        obtain ⟨h0, h1⟩ := i8_bd hi
        obtain ⟨c0, c1⟩ := clampI_bd (IntKind.i8.wrap x) (IntKind.i8.wrap lo) (IntKind.i8.wrap hi) ⟨x0, x1⟩ ⟨l0, l1⟩ ⟨h0, h1⟩
        refine (clampI8_c (IntKind.i8.wrap x) (IntKind.i8.wrap lo) (IntKind.i8.wrap hi) _).mono ?_
        rintro e w10 ⟨rfl, hb⟩
        have H10 := onward H9 hb
        clear hb H9
        go_wp2_with fail
        refine (rclamp_c (IntKind.i8.wrap x) (IntKind.i8.wrap lo) (IntKind.i8.wrap hi) _).mono ?_
        rintro e w11 ⟨rfl, hb⟩
        have H11 := onward H10 hb
        clear hb H10
        go_wp2_with fail
        go_ret
        exact ⟨rfl, H11.out⟩

theorem most_walk_row (x lo hi : Int) (A : Option Addr) (n c : Nat) (z : List Int) (w : World)
    (hz : (A = none ∧ n = 0 ∧ c = 0 ∧ z = []) ∨ ∃ a, A = some a ∧ n ≤ c ∧ c ≤ maxLen ∧ z.length = c ∧ (∀ i, i < z.length → w.cell? (a.add i) = some (.int .i64 (z.getD i 0))) ∧ ∀ n ∈ z, (Lit.int .i64 n).wf = true)
    (htab : Lib.TabIs Tryd.prog w "internal/strconv.uint64pow10" .u64 Lib.pow10Tab) :
    Calls Tryd.prog 3 #[.int .i64 x, .int .i64 lo, .int .i64 hi, .slice A n c] w fun e w' => e = .returned (.bool true) ∧ Below w.heap.size w w' := by
  obtain ⟨l, rfl, hr, hm, _, hc⟩ := ReadsInt.ofRowC hz
  by_cases hn : l.length ≤ 200
  · exact most_short x lo hi A c l hc hn w (Kd.C_of_reads (d := (0 : Int)) (h1 := fun _ => rfl) hr) htab
  · exact most_long x lo hi A _ c (by omega) w htab

end Go.Proofs.YthblmmighjmgpaaDoor

/-
  Fine, awake() and the walk of PlaneExact.
-/
import Derived.Test.YtnaccmekjkbmmaaBase
namespace Go.Proofs.Ytnaccmekjkbmmaa
open Go.RowKit
open Flt (Is P)
set_option linter.unusedVariables false

theorem bits_run (x : Nat) (w : World) : (callFunc 23 #[.float .f64 x]).run Try.prog w = .ok (.value (.int .u64 x)) w := by kernel_rfl
theorem signbit_zero (w : World) : Calls Try.prog 21 #[.float .f64 0] w (Gives (.bool false) w) := by
  have hb := bits_run
  go_enter Try.func21, Try.ntmps21
  go_wp2_with fail
  go_ret
  exact ⟨rfl, Below.refl _ _⟩

theorem order_zero : (FloatKind.f64.format.order 0 0 == some .eq) = true := by decide +kernel

set_option maxHeartbeats 1000000 in
theorem fine_zz (ha : Fin1 0) (hb : Fin1 0) (w : World) : Calls Try.prog 11 #[.complex .f64 0 0] w (Gives (.bool true) w) := by
  have HE := Lib.hid (ends_c ha hb)
  clear ha hb
  have hz := order_zero
  go_enter Try.func11, Try.ntmps11
  go_wp2_with fail
  refine (HE.out _).mono ?_
  rintro e w1 ⟨rfl, hb⟩
  have H1 := Lib.hid hb
  clear hb
  go_wp2_with fail
  refine (signbit_zero _).mono ?_
  rintro e w2 ⟨rfl, hb⟩
  have H2 := onward H1 hb
  clear hb H1
  go_wp2_with fail
  refine (signbit_zero _).mono ?_
  rintro e w3 ⟨rfl, hb⟩
  have H3 := onward H2 hb
  clear hb H2
  go_wp2_with fail
  go_ret
  exact ⟨rfl, H3.out⟩

set_option maxHeartbeats 1000000 in
theorem fine_zn {b : Nat} (ha : Fin1 0) (hb : Fin1 b) (hy : (FloatKind.f64.format.order b 0 == some .eq) = false) (w : World) : Calls Try.prog 11 #[.complex .f64 0 b] w (Gives (.bool true) w) := by
  have HE := Lib.hid (ends_c ha hb)
  clear ha hb
  have hz := order_zero
  go_enter Try.func11, Try.ntmps11
  go_wp2_with fail
  refine (HE.out _).mono ?_
  rintro e w1 ⟨rfl, hb⟩
  have H1 := Lib.hid hb
  clear hb
  go_wp2_with fail
  refine (signbit_zero _).mono ?_
  rintro e w2 ⟨rfl, hb⟩
  have H2 := onward H1 hb
  clear hb H1
  go_wp2_with fail
  go_ret
  exact ⟨rfl, H2.out⟩

set_option maxHeartbeats 1000000 in
theorem fine_nz {a : Nat} (ha : Fin1 a) (hb : Fin1 0) (hx : (FloatKind.f64.format.order a 0 == some .eq) = false) (w : World) : Calls Try.prog 11 #[.complex .f64 a 0] w (Gives (.bool true) w) := by
  have HE := Lib.hid (ends_c ha hb)
  clear ha hb
  have hz := order_zero
  go_enter Try.func11, Try.ntmps11
  go_wp2_with fail
  refine (HE.out _).mono ?_
  rintro e w1 ⟨rfl, hb⟩
  have H1 := Lib.hid hb
  clear hb
  go_wp2_with fail
  refine (signbit_zero _).mono ?_
  rintro e w2 ⟨rfl, hb⟩
  have H2 := onward H1 hb
  clear hb H1
  go_wp2_with fail
  go_ret
  exact ⟨rfl, H2.out⟩

set_option maxHeartbeats 1000000 in
theorem fine_nn {a : Nat} {b : Nat} (ha : Fin1 a) (hb : Fin1 b) (hx : (FloatKind.f64.format.order a 0 == some .eq) = false) (hy : (FloatKind.f64.format.order b 0 == some .eq) = false) (w : World) : Calls Try.prog 11 #[.complex .f64 a b] w (Gives (.bool true) w) := by
  have HE := Lib.hid (ends_c ha hb)
  clear ha hb
  go_enter Try.func11, Try.ntmps11
  go_wp2_with fail
  refine (HE.out _).mono ?_
  rintro e w1 ⟨rfl, hb⟩
  have H1 := Lib.hid hb
  clear hb
  go_wp2_with fail
  go_ret
  exact ⟨rfl, H1.out⟩

theorem order_P {n : Int} (hn : n.natAbs < 9007199254740992) (h : n ≠ 0) : (FloatKind.f64.format.order (P n) 0 == some .eq) = false := by
  rw [show FloatKind.f64.format.order (P n) 0 = some (compare n 0) from Flt.order_is (Flt.is_P n hn) is_zero]
  rcases Int.lt_or_gt_of_ne h with h1 | h1
  · rw [Int.compare_eq_lt.2 h1]; rfl
  · rw [Int.compare_eq_gt.2 h1]; rfl

theorem fine_is (m n : Int) (hm : m.natAbs < 9007199254740992) (hn : n.natAbs < 9007199254740992) (w : World) : Calls Try.prog 11 #[.complex .f64 (P m) (P n)] w (Gives (.bool true) w) := by
  have fm : Fin1 (P m) := finite_is (Flt.is_P m hm)
  have fn : Fin1 (P n) := finite_is (Flt.is_P n hn)
  by_cases h1 : m = 0 <;> by_cases h2 : n = 0
  · subst h1; subst h2; rw [Flt.P_zero] at *; exact fine_zz fm fn w
  · subst h1; rw [Flt.P_zero] at *; exact fine_zn fm fn (order_P hn h2) w
  · subst h2; rw [Flt.P_zero] at *; exact fine_nz fm fn (order_P hm h1) w
  · exact fine_nn fm fn (order_P hm h1) (order_P hn h2) w

theorem P1 : P 1 = 4607182418800017408 := by decide +kernel
theorem P2 : P 2 = 4611686018427387904 := by decide +kernel
theorem P3 : P 3 = 4613937818241073152 := by decide +kernel
theorem P4 : P 4 = 4616189618054758400 := by decide +kernel

theorem awake_sum (w : World) : Calls Try.prog 8 #[.complex .f64 4607182418800017408 4611686018427387904, .complex .f64 4613937818241073152 0] w (Gives (.tuple #[.complex .f64 4616189618054758400 4611686018427387904, .int .i64 0]) w) := by
  have h := add_is_c (Flt.is_P 1 (by decide)) (Flt.is_P 2 (by decide)) (Flt.is_P 3 (by decide)) (Flt.is_P 0 (by decide)) (by decide) (by decide) w
  rw [show (1 : Int) + 3 = 4 by decide, show (2 : Int) + 0 = 2 by decide, P1, P2, P3, P4, Flt.P_zero] at h
  exact h
theorem awake_fine (w : World) : Calls Try.prog 11 #[.complex .f64 4616189618054758400 4611686018427387904] w (Gives (.bool true) w) := by
  have h := fine_is 4 2 (by decide) (by decide) w
  rwa [P4, P2] at h

set_option maxHeartbeats 1000000 in
theorem awake_c (w : World) : Calls Try.prog 5 #[] w (Gives (.bool true) w) := by
  have o1 : (FloatKind.f64.format.order 4616189618054758400 4616189618054758400 == some .eq) = true := by decide +kernel
  have o2 : (FloatKind.f64.format.order 4611686018427387904 4611686018427387904 == some .eq) = true := by decide +kernel
  go_enter Try.func5, Try.ntmps5
  go_wp2_with fail
  refine (awake_sum _).mono ?_
  rintro e w1 ⟨rfl, hb⟩
  have H1 := Lib.hid hb
  clear hb
  go_wp2_with fail
  refine (awake_fine _).mono ?_
  rintro e w2 ⟨rfl, hb⟩
  have H2 := onward H1 hb
  clear hb H1
  go_wp2_with fail
  go_ret
  exact ⟨rfl, H2.out⟩

set_option maxHeartbeats 1000000 in
theorem cut_c (p : Int) (w : World) : Calls Try.prog 6 #[.int .i64 p] w (Gives (.int .i64 (p.tmod 1048577)) w) := by
  go_enter Try.func6, Try.ntmps6
  go_wp2_with fail
  go_ret
  exact ⟨rfl, Below.refl _ _⟩

/-- What the walk meets behind the cuts. -/
structure Met (p q r s m n : Int) : Prop where
  ofA : ∀ w, Calls Try.prog 7 #[.int .i64 p, .int .i64 q] w (Gives (.complex .f64 (P p) (P q)) w)
  ofB : ∀ w, Calls Try.prog 7 #[.int .i64 r, .int .i64 s] w (Gives (.complex .f64 (P r) (P s)) w)
  add : ∀ w, Calls Try.prog 8 #[.complex .f64 (P p) (P q), .complex .f64 (P r) (P s)] w (Gives (.tuple #[.complex .f64 (P (p + r)) (P (q + s)), .int .i64 0]) w)
  mul : ∀ w, Calls Try.prog 9 #[.complex .f64 (P p) (P q), .complex .f64 (P r) (P s)] w (Gives (.tuple #[.complex .f64 (P m) (P n), .int .i64 0]) w)
  partsA : ∀ w, Calls Try.prog 10 #[.complex .f64 (P (p + r)) (P (q + s))] w (Gives (.tuple #[.int .i64 (p + r), .int .i64 (q + s)]) w)
  partsM : ∀ w, Calls Try.prog 10 #[.complex .f64 (P m) (P n)] w (Gives (.tuple #[.int .i64 m, .int .i64 n]) w)
  fineA : ∀ w, Calls Try.prog 11 #[.complex .f64 (P (p + r)) (P (q + s))] w (Gives (.bool true) w)
  fineM : ∀ w, Calls Try.prog 11 #[.complex .f64 (P m) (P n)] w (Gives (.bool true) w)

set_option maxHeartbeats 4000000 in
theorem exact_walk (a0 a1 a2 a3 p q r s : Int) (p0 : -1048576 ≤ p) (p1 : p ≤ 1048576) (q0 : -1048576 ≤ q) (q1 : q ≤ 1048576) (r0 : -1048576 ≤ r) (r1 : r ≤ 1048576) (s0 : -1048576 ≤ s) (s1 : s ≤ 1048576) (pr0 : -1099511627776 ≤ p * r) (pr1 : p * r ≤ 1099511627776) (qs0 : -1099511627776 ≤ q * s) (qs1 : q * s ≤ 1099511627776) (ps0 : -1099511627776 ≤ p * s) (ps1 : p * s ≤ 1099511627776) (qr0 : -1099511627776 ≤ q * r) (qr1 : q * r ≤ 1099511627776)
    (C0 : Hid (∀ w, Calls Try.prog 6 #[.int .i64 a0] w (Gives (.int .i64 p) w))) (C1 : Hid (∀ w, Calls Try.prog 6 #[.int .i64 a1] w (Gives (.int .i64 q) w)))
    (C2 : Hid (∀ w, Calls Try.prog 6 #[.int .i64 a2] w (Gives (.int .i64 r) w))) (C3 : Hid (∀ w, Calls Try.prog 6 #[.int .i64 a3] w (Gives (.int .i64 s) w)))
    (hM : Hid (Met p q r s (p * r - q * s) (p * s + q * r))) (w : World) :
    Calls Try.prog 3 #[.int .i64 a0, .int .i64 a1, .int .i64 a2, .int .i64 a3] w fun e w' => e = .returned (.bool true) ∧ Below w.heap.size w w' := by
  go_enter Try.func3, Try.ntmps3
  go_wp2_with fail
  refine (awake_c w).mono ?_
  rintro e w1 ⟨rfl, hb⟩
  have H1 := Lib.hid hb
  clear hb
  go_wp2_with fail
  refine (C0.out _).mono ?_
  rintro e w2 ⟨rfl, hb⟩
  have H2 := onward H1 hb
  clear hb H1
  go_wp2_with fail
  refine (C1.out _).mono ?_
  rintro e w3 ⟨rfl, hb⟩
  have H3 := onward H2 hb
  clear hb H2
  go_wp2_with fail
  refine (C2.out _).mono ?_
  rintro e w4 ⟨rfl, hb⟩
  have H4 := onward H3 hb
  clear hb H3
  go_wp2_with fail
  refine (C3.out _).mono ?_
  rintro e w5 ⟨rfl, hb⟩
  have H5 := onward H4 hb
  clear hb H4
  go_wp2_with fail
  refine (hM.out.ofA _).mono ?_
  rintro e w6 ⟨rfl, hb⟩
  have H6 := onward H5 hb
  clear hb H5
  go_wp2_with fail
  refine (hM.out.ofB _).mono ?_
  rintro e w7 ⟨rfl, hb⟩
  have H7 := onward H6 hb
  clear hb H6
  go_wp2_with fail
  refine (hM.out.add _).mono ?_
  rintro e w8 ⟨rfl, hb⟩
  have H8 := onward H7 hb
  clear hb H7
  go_wp2_with fail
  refine (hM.out.mul _).mono ?_
  rintro e w9 ⟨rfl, hb⟩
  have H9 := onward H8 hb
  clear hb H8
  go_wp2_with fail
  refine (hM.out.partsA _).mono ?_
  rintro e w10 ⟨rfl, hb⟩
  have H10 := onward H9 hb
  clear hb H9
  go_wp2_with fail
  refine (hM.out.partsM _).mono ?_
  rintro e w11 ⟨rfl, hb⟩
  have H11 := onward H10 hb
  clear hb H10
  go_wp2_with fail
  refine (hM.out.fineA _).mono ?_
  rintro e w12 ⟨rfl, hb⟩
  have H12 := onward H11 hb
  clear hb H11
  go_wp2_with fail
  refine (hM.out.fineM _).mono ?_
  rintro e w13 ⟨rfl, hb⟩
  have H13 := onward H12 hb
  clear hb H12
  go_wp2_with fail
  go_ret
  exact ⟨rfl, H13.out⟩

theorem cut_bd (a : Int) : -1048576 ≤ a.tmod 1048577 ∧ a.tmod 1048577 ≤ 1048576 := by
  have h1 := Int.natAbs_tmod a 1048577
  have h2 : a.natAbs % (1048577 : Int).natAbs < (1048577 : Int).natAbs := Nat.mod_lt _ (by decide)
  have e : (1048577 : Int).natAbs = 1048577 := by decide
  omega

theorem mul_bd (x y : Int) (hx : -1048576 ≤ x ∧ x ≤ 1048576) (hy : -1048576 ≤ y ∧ y ≤ 1048576) : -1099511627776 ≤ x * y ∧ x * y ≤ 1099511627776 := by
  have h : (x * y).natAbs ≤ 1048576 * 1048576 := by
    rw [Int.natAbs_mul]; exact Nat.mul_le_mul (by omega) (by omega)
  omega

theorem planeExact_walk (a0 a1 a2 a3 : Int) (w : World) :
    Calls Try.prog 3 #[.int .i64 a0, .int .i64 a1, .int .i64 a2, .int .i64 a3] w fun e w' => e = .returned (.bool true) ∧ Below w.heap.size w w' := by
  have b0 := cut_bd a0
  have b1 := cut_bd a1
  have b2 := cut_bd a2
  have b3 := cut_bd a3
  have c0 := Lib.hid (cut_c a0)
  have c1 := Lib.hid (cut_c a1)
  have c2 := Lib.hid (cut_c a2)
  have c3 := Lib.hid (cut_c a3)
  generalize a0.tmod 1048577 = p at *
  generalize a1.tmod 1048577 = q at *
  generalize a2.tmod 1048577 = r at *
  generalize a3.tmod 1048577 = s at *
  have pr := mul_bd p r b0 b2
  have qs := mul_bd q s b1 b3
  have ps := mul_bd p s b0 b3
  have qr := mul_bd q r b1 b2
  have hM : Met p q r s (p * r - q * s) (p * s + q * r) :=
    ⟨of_c p q (by omega) (by omega), of_c r s (by omega) (by omega),
      add_is_c (Flt.is_P p (by omega)) (Flt.is_P q (by omega)) (Flt.is_P r (by omega)) (Flt.is_P s (by omega)) (by omega) (by omega),
      mul_is_c (Flt.is_P p (by omega)) (Flt.is_P q (by omega)) (Flt.is_P r (by omega)) (Flt.is_P s (by omega)) (by omega) (by omega) (by omega) (by omega) (by omega) (by omega),
      parts_is (Flt.is_P _ (by omega)) (Flt.is_P _ (by omega)) (by omega) (by omega), parts_is (Flt.is_P _ (by omega)) (Flt.is_P _ (by omega)) (by omega) (by omega),
      fine_is _ _ (by omega) (by omega), fine_is _ _ (by omega) (by omega)⟩
  exact exact_walk a0 a1 a2 a3 p q r s b0.1 b0.2 b1.1 b1.2 b2.1 b2.2 b3.1 b3.2 pr.1 pr.2 qs.1 qs.2 ps.1 ps.2 qr.1 qr.2 c0 c1 c2 c3 (Lib.hid hM) w

end Go.Proofs.Ytnaccmekjkbmmaa

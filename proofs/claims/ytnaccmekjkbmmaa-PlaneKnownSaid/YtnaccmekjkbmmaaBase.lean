/-
  The contracts of plane's functions at numbers whose parts hold whole numbers of a size below 2 to the power 53.
-/
import Derived.Test.YtnaccmekjkbmmaaRows
import Derived.Test.YtnaccmekjkbmmaaFlt
import Derived.WalkKit
import Derived.WalkSpells
import Derived.WalkLawsBesides
import Derived.Lib.Hide
import Derived.Outline
import Derived.Laws.FloatArith
import Derived.Laws.ComplexArith
namespace Go.Proofs.Ytnaccmekjkbmmaa
open Go.RowKit
open Flt (Is P)
set_option linter.unusedVariables false

/-- The call hands back v; the world has at most new blocks and draws. -/
def Gives (v : Value) (w : World) (e : Ending) (w' : World) : Prop := e = .returned v ∧ Below w.heap.size w w'
theorem onward {w0 w w' : World} (H : Hid (Below w0.heap.size w0 w)) (h : Below w.heap.size w w') : Hid (Below w0.heap.size w0 w') := H.out.trans (h.mono H.out.size)

theorem finite_any (a c : Nat) (h : floatBits .sub .f64 a a = some c) (r : Bool) (hr : (FloatKind.f64.format.order c 0 == some .eq) = r) (w : World) :
    Calls Try.prog 27 #[.float .f64 a] w (Gives (.bool r) w) := by
  have hop : ∀ t w, (binOp .sub t (.float .f64 a) (.float .f64 a)).run Try.prog w = .ok (.float .f64 c) w := fun t w => run_float_arith w .sub t .f64 a a c h
  subst hr
  go_enter Try.func27, Try.ntmps27
  go_wp2_with (simp only [hop])
  all_goals (go_ret; exact ⟨rfl, Below.refl _ _⟩)

theorem is_zero : Is 0 0 := by have := Flt.is_P 0 (by decide); rwa [Flt.P_zero] at this

theorem finite_is {n : Int} {a : Nat} (h : Is n a) (w : World) : Calls Try.prog 27 #[.float .f64 a] w (Gives (.bool true) w) := by
  obtain ⟨c, hc, hi⟩ := Flt.sub_is h h (by omega)
  refine finite_any a c hc true ?_ w
  rw [Int.sub_self] at hi
  rw [show FloatKind.f64.format.order c 0 = some (compare 0 0) from Flt.order_is hi is_zero]
  rfl

/-- A float that has an end. -/
def Fin1 (a : Nat) : Prop := ∀ w, Calls Try.prog 27 #[.float .f64 a] w (Gives (.bool true) w)
/-- What plain makes of a float. -/
def Plain1 (a b : Nat) : Prop := ∀ w, Calls Try.prog 26 #[.float .f64 a] w (Gives (.float .f64 b) w)

set_option maxHeartbeats 400000 in
theorem ends_c {a b : Nat} (ha : Fin1 a) (hb : Fin1 b) (w : World) : Calls Try.prog 20 #[.complex .f64 a b] w (Gives (.bool true) w) := by
  have HA := Lib.hid ha
  have HB := Lib.hid hb
  clear ha hb
  go_enter Try.func20, Try.ntmps20
  go_wp2_with fail
  refine (HA.out _).mono ?_
  rintro e w1 ⟨rfl, hb⟩
  have H1 := Lib.hid hb
  clear hb
  go_wp2_with fail
  refine (HB.out _).mono ?_
  rintro e w2 ⟨rfl, hb⟩
  have H2 := onward H1 hb
  clear hb H1
  go_wp2_with fail
  go_ret
  exact ⟨rfl, H2.out⟩

theorem plain_zero (a : Nat) (h : (FloatKind.f64.format.order a 0 == some .eq) = true) (w : World) : Calls Try.prog 26 #[.float .f64 a] w (Gives (.float .f64 0) w) := by
  go_enter Try.func26, Try.ntmps26
  go_wp2
  go_ret
  exact ⟨rfl, Below.refl _ _⟩
theorem plain_self (a : Nat) (h : (FloatKind.f64.format.order a 0 == some .eq) = false) (w : World) : Calls Try.prog 26 #[.float .f64 a] w (Gives (.float .f64 a) w) := by
  go_enter Try.func26, Try.ntmps26
  go_wp2
  go_ret
  exact ⟨rfl, Below.refl _ _⟩
theorem plain_is {n : Int} {a : Nat} (h : Is n a) : Plain1 a (P n) := by
  intro w
  have ho : FloatKind.f64.format.order a 0 = some (compare n 0) := Flt.order_is h is_zero
  by_cases h0 : n = 0
  · subst h0
    rw [Flt.P_zero]
    exact plain_zero a (by rw [ho]; rfl) w
  · rw [← Flt.is_ne h h0]
    refine plain_self a ?_ w
    rw [ho]
    rcases Int.lt_or_gt_of_ne h0 with h1 | h1
    · rw [Int.compare_eq_lt.2 h1]; rfl
    · rw [Int.compare_eq_gt.2 h1]; rfl

set_option maxHeartbeats 400000 in
theorem Plain_c {a b a1 b1 : Nat} (ha : Plain1 a a1) (hb : Plain1 b b1) (w : World) : Calls Try.prog 17 #[.complex .f64 a b] w (Gives (.complex .f64 a1 b1) w) := by
  have HA := Lib.hid ha
  have HB := Lib.hid hb
  clear ha hb
  go_enter Try.func17, Try.ntmps17
  go_wp2_with fail
  refine (HA.out _).mono ?_
  rintro e w1 ⟨rfl, hb⟩
  have H1 := Lib.hid hb
  clear hb
  go_wp2_with fail
  refine (HB.out _).mono ?_
  rintro e w2 ⟨rfl, hb⟩
  have H2 := onward H1 hb
  clear hb H1
  go_wp2_with fail
  go_ret
  exact ⟨rfl, H2.out⟩

set_option maxHeartbeats 400000 in
theorem told_c {a b c d x y x1 y1 : Nat} (ha : Fin1 a) (hb : Fin1 b) (hc : Fin1 c) (hd : Fin1 d) (hx : Fin1 x) (hy : Fin1 y) (hp : Plain1 x x1) (hq : Plain1 y y1) (w : World) : Calls Try.prog 18 #[.complex .f64 a b, .complex .f64 c d, .float .f64 x, .float .f64 y] w (Gives (.tuple #[.complex .f64 x1 y1, .int .i64 0]) w) := by
  have HA := Lib.hid (ends_c ha hb)
  have HC := Lib.hid (ends_c hc hd)
  have HX := Lib.hid (ends_c hx hy)
  have HP := Lib.hid (Plain_c hp hq)
  clear ha hb hc hd hx hy hp hq
  go_enter Try.func18, Try.ntmps18
  go_wp2_with fail
  refine (HA.out _).mono ?_
  rintro e w1 ⟨rfl, hb⟩
  have H1 := Lib.hid hb
  clear hb
  go_wp2_with fail
  refine (HC.out _).mono ?_
  rintro e w2 ⟨rfl, hb⟩
  have H2 := onward H1 hb
  clear hb H1
  go_wp2_with fail
  refine (HX.out _).mono ?_
  rintro e w3 ⟨rfl, hb⟩
  have H3 := onward H2 hb
  clear hb H2
  go_wp2_with fail
  refine (HP.out _).mono ?_
  rintro e w4 ⟨rfl, hb⟩
  have H4 := onward H3 hb
  clear hb H3
  go_wp2_with fail
  go_ret2
  exact ⟨rfl, H4.out⟩

theorem told_is {m n p q k l : Int} {a b c d x y : Nat} (ha : Is m a) (hb : Is n b) (hc : Is p c) (hd : Is q d) (hx : Is k x) (hy : Is l y) (w : World) :
    Calls Try.prog 18 #[.complex .f64 a b, .complex .f64 c d, .float .f64 x, .float .f64 y] w (Gives (.tuple #[.complex .f64 (P k) (P l), .int .i64 0]) w) :=
  told_c (finite_is ha) (finite_is hb) (finite_is hc) (finite_is hd) (finite_is hx) (finite_is hy) (plain_is hx) (plain_is hy) w

theorem of_c (m n : Int) (hm : m.natAbs < 9007199254740992) (hn : n.natAbs < 9007199254740992) (w : World) : Calls Try.prog 7 #[.int .i64 m, .int .i64 n] w (Gives (.complex .f64 (P m) (P n)) w) := by
  rw [← Flt.ofInt_P m hm, ← Flt.ofInt_P n hn]
  have hc : ∀ (q : Int) w, (convert 2 33 (.int .i64 q)).run Try.prog w = .ok (.float .f64 (floatOfInt .f64 q)) w := fun q w => run_convert_int_float w 2 33 .i64 .f64 q (by rw [Try.underlying2]; rfl) Try.underlying33
  clear hm hn
  go_enter Try.func7, Try.ntmps7
  go_wp2_with (simp only [hc])
  all_goals (go_ret; exact ⟨rfl, Below.refl _ _⟩)

set_option maxHeartbeats 400000 in
theorem Add_c {a b c d x y x1 y1 : Nat} {er : Int} (hx : floatBits .add .f64 a c = some x) (hy : floatBits .add .f64 b d = some y) (hd : ∀ w, Calls Try.prog 18 #[.complex .f64 a b, .complex .f64 c d, .float .f64 x, .float .f64 y] w (Gives (.tuple #[.complex .f64 x1 y1, .int .i64 er]) w)) (w : World) : Calls Try.prog 8 #[.complex .f64 a b, .complex .f64 c d] w (Gives (.tuple #[.complex .f64 x1 y1, .int .i64 er]) w) := by
  have HD := Lib.hid hd
  clear hd
  have hop1 : ∀ t w, (binOp .add t (.float .f64 a) (.float .f64 c)).run Try.prog w = .ok (.float .f64 x) w := fun t w => run_float_arith w .add t .f64 a c x hx
  have hop2 : ∀ t w, (binOp .add t (.float .f64 b) (.float .f64 d)).run Try.prog w = .ok (.float .f64 y) w := fun t w => run_float_arith w .add t .f64 b d y hy
  clear hx hy
  go_enter Try.func8, Try.ntmps8
  go_wp2_with (simp only [hop1, hop2])
  refine (HD.out _).mono ?_
  rintro e w1 ⟨rfl, hb⟩
  have H1 := Lib.hid hb
  clear hb hop1 hop2
  go_wp2_with fail
  go_ret2
  exact ⟨rfl, H1.out⟩

set_option maxHeartbeats 1000000 in
theorem Mul_c {a b c d ac bd ad bc x y x1 y1 : Nat} {er : Int} (h1 : floatBits .mul .f64 a c = some ac) (h2 : floatBits .mul .f64 b d = some bd) (h3 : floatBits .sub .f64 ac bd = some x) (h4 : floatBits .mul .f64 a d = some ad) (h5 : floatBits .mul .f64 b c = some bc) (h6 : floatBits .add .f64 ad bc = some y) (hd : ∀ w, Calls Try.prog 18 #[.complex .f64 a b, .complex .f64 c d, .float .f64 x, .float .f64 y] w (Gives (.tuple #[.complex .f64 x1 y1, .int .i64 er]) w)) (w : World) : Calls Try.prog 9 #[.complex .f64 a b, .complex .f64 c d] w (Gives (.tuple #[.complex .f64 x1 y1, .int .i64 er]) w) := by
  have HD := Lib.hid hd
  clear hd
  have hop1 : ∀ t w, (binOp .mul t (.float .f64 a) (.float .f64 c)).run Try.prog w = .ok (.float .f64 ac) w := fun t w => run_float_arith w .mul t .f64 a c ac h1
  have hop2 : ∀ t w, (binOp .mul t (.float .f64 b) (.float .f64 d)).run Try.prog w = .ok (.float .f64 bd) w := fun t w => run_float_arith w .mul t .f64 b d bd h2
  have hop3 : ∀ t w, (binOp .sub t (.float .f64 ac) (.float .f64 bd)).run Try.prog w = .ok (.float .f64 x) w := fun t w => run_float_arith w .sub t .f64 ac bd x h3
  have hop4 : ∀ t w, (binOp .mul t (.float .f64 a) (.float .f64 d)).run Try.prog w = .ok (.float .f64 ad) w := fun t w => run_float_arith w .mul t .f64 a d ad h4
  have hop5 : ∀ t w, (binOp .mul t (.float .f64 b) (.float .f64 c)).run Try.prog w = .ok (.float .f64 bc) w := fun t w => run_float_arith w .mul t .f64 b c bc h5
  have hop6 : ∀ t w, (binOp .add t (.float .f64 ad) (.float .f64 bc)).run Try.prog w = .ok (.float .f64 y) w := fun t w => run_float_arith w .add t .f64 ad bc y h6
  clear h1 h2 h3 h4 h5 h6
  go_enter Try.func9, Try.ntmps9
  go_wp2_with (simp only [hop1, hop2, hop3, hop4, hop5, hop6])
  refine (HD.out _).mono ?_
  rintro e w1 ⟨rfl, hb⟩
  have H1 := Lib.hid hb
  clear hb hop1 hop2 hop3 hop4 hop5 hop6
  go_wp2_with fail
  go_ret2
  exact ⟨rfl, H1.out⟩

theorem add_is_c {m n p q : Int} {a b c d : Nat} (ha : Is m a) (hb : Is n b) (hc : Is p c) (hd : Is q d) (h1 : (m + p).natAbs < 9007199254740992) (h2 : (n + q).natAbs < 9007199254740992) (w : World) :
    Calls Try.prog 8 #[.complex .f64 a b, .complex .f64 c d] w (Gives (.tuple #[.complex .f64 (P (m + p)) (P (n + q)), .int .i64 0]) w) := by
  obtain ⟨x, hx, ix⟩ := Flt.add_is ha hc h1
  obtain ⟨y, hy, iy⟩ := Flt.add_is hb hd h2
  exact Add_c hx hy (told_is ha hb hc hd ix iy) w

theorem mul_is_c {m n p q : Int} {a b c d : Nat} (ha : Is m a) (hb : Is n b) (hc : Is p c) (hd : Is q d) (h1 : (m * p).natAbs < 9007199254740992) (h2 : (n * q).natAbs < 9007199254740992) (h3 : (m * p - n * q).natAbs < 9007199254740992)
    (h4 : (m * q).natAbs < 9007199254740992) (h5 : (n * p).natAbs < 9007199254740992) (h6 : (m * q + n * p).natAbs < 9007199254740992) (w : World) :
    Calls Try.prog 9 #[.complex .f64 a b, .complex .f64 c d] w (Gives (.tuple #[.complex .f64 (P (m * p - n * q)) (P (m * q + n * p)), .int .i64 0]) w) := by
  obtain ⟨ac, e1, i1⟩ := Flt.mul_is ha hc h1
  obtain ⟨bd, e2, i2⟩ := Flt.mul_is hb hd h2
  obtain ⟨x, e3, i3⟩ := Flt.sub_is i1 i2 h3
  obtain ⟨ad, e4, i4⟩ := Flt.mul_is ha hd h4
  obtain ⟨bc, e5, i5⟩ := Flt.mul_is hb hc h5
  obtain ⟨y, e6, i6⟩ := Flt.add_is i4 i5 h6
  exact Mul_c e1 e2 e3 e4 e5 e6 (told_is ha hb hc hd i3 i6) w

/-- A float cut to a whole number, where it holds one. -/
theorem part_c (a : Nat) (n : Int) (h1 : (FloatKind.f64.format.order a a != some .eq) = false) (h2 : (FloatKind.f64.format.order a 4890909195324358656 == some .gt || FloatKind.f64.format.order a 4890909195324358656 == some .eq) = false)
    (h3 : (FloatKind.f64.format.order a 14114281232179134464 == some .lt) = false) (h4 : floatToIntVal .f64 a .i64 = some n) (w : World) : Calls Try.prog 19 #[.float .f64 a] w (Gives (.int .i64 n) w) := by
  have hc : ∀ w, (convert 33 2 (.float .f64 a)).run Try.prog w = .ok (.int .i64 n) w := fun w => run_convert_float_int w 33 2 .f64 .i64 a n (by rw [Try.underlying33]; rfl) Try.underlying2 h4
  clear h4
  go_enter Try.func19, Try.ntmps19
  go_wp2_with (simp only [hc])
  all_goals (go_ret; exact ⟨rfl, Below.refl _ _⟩)

theorem part_is {n : Int} {a : Nat} (h : Is n a) (hn : n.natAbs < 9007199254740992) (w : World) : Calls Try.prog 19 #[.float .f64 a] w (Gives (.int .i64 n) w) := by
  have e1 : FloatKind.f64.format.order a a = some (compare n n) := Flt.order_is h h
  have e2 : FloatKind.f64.format.order a 4890909195324358656 = some .lt := Flt.order_big false h
  have e3 : FloatKind.f64.format.order a 14114281232179134464 = some .gt := Flt.order_big true h
  refine part_c a n ?_ ?_ ?_ (Flt.toInt_is h hn) w
  · rw [e1, Int.compare_eq_eq.2 rfl]; rfl
  · rw [e2]; rfl
  · rw [e3]; rfl

set_option maxHeartbeats 400000 in
theorem parts_is {m n : Int} {a b : Nat} (ha : Is m a) (hb : Is n b) (h1 : m.natAbs < 9007199254740992) (h2 : n.natAbs < 9007199254740992) (w : World) : Calls Try.prog 10 #[.complex .f64 a b] w (Gives (.tuple #[.int .i64 m, .int .i64 n]) w) := by
  have HA := Lib.hid (part_is ha h1)
  have HB := Lib.hid (part_is hb h2)
  clear ha hb h1 h2
  go_enter Try.func10, Try.ntmps10
  go_wp2_with fail
  refine (HA.out _).mono ?_
  rintro e w1 ⟨rfl, hb⟩
  have H1 := Lib.hid hb
  clear hb
  go_wp2_with fail
  refine (HB.out _).mono ?_
  rintro e w2 ⟨rfl, hb⟩
  have H2 := onward H1 hb
  clear hb H1
  go_wp2_with fail
  go_ret2
  exact ⟨rfl, H2.out⟩

end Go.Proofs.Ytnaccmekjkbmmaa

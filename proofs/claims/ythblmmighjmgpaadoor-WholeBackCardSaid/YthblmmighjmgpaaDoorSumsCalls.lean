/-
  The contracts of the sums and products over int64, in one form: the number held; nothing that was there has turned.
-/
import Derived.Test.YthblmmighjmgpaaDoorBase
import Derived.Test.YthblmmighjmgpaaDoorPlain
namespace Go.Proofs.YthblmmighjmgpaaDoor
open Go.RowKit Go.Proofs.YthblmmighjmgpaaDoorW.PrintWords
open Plain (hold)

/-- The call hands back v, and nothing that was there has turned. -/
def Gives (v : Value) (w : World) (e : Ending) (w' : World) : Prop := e = .returned v ∧ Below w.heap.size w w'

section
variable (a b : Int) (ha0 : -9223372036854775808 ≤ a) (ha1 : a ≤ 9223372036854775807) (hb0 : -9223372036854775808 ≤ b) (hb1 : b ≤ 9223372036854775807) (w : World)
include ha0 ha1 hb0 hb1
theorem add_c : Calls Tryd.prog 19 #[.int .i64 a, .int .i64 b] w (Gives (.int .i64 (hold (a + b))) w) :=
  (Fn.whole_Add.calls 1 a b _ w (Plain.add_f a b ha0 ha1 hb0 hb1 0)).mono fun _ _ h => ⟨h.1, h.2.below⟩
theorem sub_c : Calls Tryd.prog 21 #[.int .i64 a, .int .i64 b] w (Gives (.int .i64 (hold (a - b))) w) :=
  (Fn.whole_Sub.calls 1 a b _ w (Plain.sub_f a b ha0 ha1 hb0 hb1 0)).mono fun _ _ h => ⟨h.1, h.2.below⟩
theorem mul_c : Calls Tryd.prog 20 #[.int .i64 a, .int .i64 b] w (Gives (.int .i64 (hold (a * b))) w) :=
  (Fn.whole_Mul.calls 2 a b _ w (Plain.mul_f a b ha0 ha1 hb0 hb1 0)).mono fun _ _ h => ⟨h.1, h.2.below⟩
theorem radd_c : Calls Tryd.prog 22 #[.int .i64 a, .int .i64 b] w (Gives (.int .i64 (hold (a + b))) w) :=
  Fn.prompterref01_Add.calls 1 a b _ w (Plain.radd_f a b ha0 ha1 hb0 hb1 0)
theorem rsub_c : Calls Tryd.prog 23 #[.int .i64 a, .int .i64 b] w (Gives (.int .i64 (hold (a - b))) w) :=
  Fn.prompterref01_Sub.calls 1 a b _ w (Plain.rsub_f a b ha0 ha1 hb0 hb1 0)
theorem rmul_c : Calls Tryd.prog 24 #[.int .i64 a, .int .i64 b] w (Gives (.int .i64 (hold (a * b))) w) :=
  Fn.prompterref01_Mul.calls _ a b _ w (Plain.rmul_f a b ha0 ha1 hb0 hb1 _ 0 rfl)
omit hb0 hb1
theorem neg_c : Calls Tryd.prog 25 #[.int .i64 a] w (Gives (.int .i64 (hold (-a))) w) :=
  (Fn.whole_Neg.calls 1 a _ w (Plain.neg_f a ha0 ha1 0)).mono fun _ _ h => ⟨h.1, h.2.below⟩
theorem rneg_c : Calls Tryd.prog 26 #[.int .i64 a] w (Gives (.int .i64 (hold (-a))) w) :=
  Fn.prompterref01_Neg.calls 1 a _ w (Plain.rneg_f a ha0 ha1 0)
end

/-- One call more behind others that have turned nothing. -/
theorem onward {w0 w w' : World} (H : Hid (Below w0.heap.size w0 w)) (h : Below w.heap.size w w') : Hid (Below w0.heap.size w0 w') := H.out.trans (h.mono H.out.size)

end Go.Proofs.YthblmmighjmgpaaDoor

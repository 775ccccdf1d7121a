/-
  The digits of a float's bits, and Text at numbers whose parts are known.
-/
import Derived.Test.YtnaccmekjkbmmaaKnownB
import Derived.Test.YtnaccmekjkbmmaaWWords
import Derived.Test.YtnaccmekjkbmmaaWMore
import Derived.Deep.LoopGhost
namespace Go.Proofs.Ytnaccmekjkbmmaa
open Go.RowKit Go.Proofs.YtnaccmekjkbmmaaW.PrintWords Go.Proofs.YtnaccmekjkbmmaaW.PrintMore
open Flt (Is P)
set_option linter.unusedVariables false

/-- A digit to the base 16, as a byte. -/
def hexOf (d : Int) : Int := if d < 10 then 48 + d else 87 + d
/-- The 16 digits of the bits x. -/
def digs (x : Nat) : List Int := (List.range 16).map fun j => hexOf (((x / 2 ^ (60 - 4 * j)) % 16 : Nat) : Int)

theorem digs_len (x : Nat) : (digs x).length = 16 := by simp [digs]
theorem digs_get (x j : Nat) (h : j < 16) : (digs x).take (j + 1) = (digs x).take j ++ [hexOf (((x / 2 ^ (60 - 4 * j)) % 16 : Nat) : Int)] := by
  rw [List.take_succ_eq_append_getElem (by rw [digs_len]; exact h)]
  congr 2
  simp [digs]

theorem info5 : (Try.prog.info? 5).map (fun i => (i.zero, i.size, i.bytes)) = some (some (.int .u8 0), 1, 1) := by kernel_rfl

theorem index_hex (d : Int) (h0 : 0 ≤ d) (h1 : d ≤ 15) (w : World) : (Instr.index 9 (.string ⟨#[48, 49, 50, 51, 52, 53, 54, 55, 56, 57, 97, 98, 99, 100, 101, 102]⟩) (.int .u64 d)).run Try.prog w = .ok (.int .u8 (hexOf d)) w := by
  rcases (show d = 0 ∨ d = 1 ∨ d = 2 ∨ d = 3 ∨ d = 4 ∨ d = 5 ∨ d = 6 ∨ d = 7 ∨ d = 8 ∨ d = 9 ∨ d = 10 ∨ d = 11 ∨ d = 12 ∨ d = 13 ∨ d = 14 ∨ d = 15 by omega) with rfl | rfl | rfl | rfl | rfl | rfl | rfl | rfl | rfl | rfl | rfl | rfl | rfl | rfl | rfl | rfl
  all_goals kernel_rfl

theorem and15 (x : Nat) (hx : x < 18446744073709551616) (n : Nat) : bits .and .u64 ((x : Int) / 2 ^ n) 15 = (((x / 2 ^ n) % 16 : Nat) : Int) := by
  have e : ((x : Int) / 2 ^ n) = ((x / 2 ^ n : Nat) : Int) := by norm_cast
  have hle : x / 2 ^ n ≤ x := Nat.div_le_self _ _
  rw [e]
  generalize x / 2 ^ n = z at *
  have h := bits_mask .u64 64 (by decide) (fun n a b => by simp [IntKind.wrap, IntKind.bits, IntKind.signed]; omega) 4 (by decide) (z : Int) (by omega) (by omega)
  have h2 : ((2 : Int) ^ 4 - 1) = 15 := by decide
  rw [h2] at h
  rw [h]
  norm_cast

set_option maxHeartbeats 4000000 in
set_option maxRecDepth 100000 in
theorem digits_c (v : Value) (xs : List Int) (x : Nat) (hx : x < 18446744073709551616) (hlen : xs.length ≤ 100) (w0 w : World) (hB : Below w0.heap.size w0 w) (hR : Kd.R (Kd.int .u8) 5 w w0.heap.size (fun _ => True) v xs) :
    Calls Try.prog 25 #[v, .float .f64 x] w fun e w' => ∃ v', e = .returned v' ∧ Kd.R (Kd.int .u8) 5 w' w0.heap.size (fun _ => True) v' (xs ++ digs x) ∧ Below w0.heap.size w0 w' := by
  have HB := Aside0.mk hB
  have HR := Aside0.mk hR
  have HX := Aside0.mk hx
  have HLen := Aside0.mk hlen
  clear hB hR hx hlen
  have hbits := bits_run
  go_enter Try.func25, Try.ntmps25
  go_wp2_with fail
  go_loopg [0, 6] 17 (fun kq v0 v6 w' => ∃ (j : Nat) (i : Int), v6 = .int .i64 i ∧ Aside0 (i + 4 * (j : Int) = 60) ∧ Aside0 (kq + j = 17) ∧ Aside0 (j ≤ 16) ∧ Aside0 (Kd.R (Kd.int .u8) 5 w' w0.heap.size (fun _ => True) v0 (xs ++ (digs x).take j)) ∧ Aside0 (Below w0.heap.size w0 w'))
  case atStart => exact ⟨0, 60, rfl, ⟨by omega⟩, ⟨by omega⟩, ⟨by omega⟩, ⟨by simpa using HR.out⟩, ⟨HB.out⟩⟩
  case round =>
    clear HR HB
    obtain ⟨j, i, rfl, HI, HK, HJ, HO, HB⟩ := hrel
    have hI := HI.out
    have hJ := HJ.out
    cases gk with
    | zero => exact absurd HK.out (by omega)
    | succ k1 =>
      by_cases hlt : j < 16
      · have i0 : 0 ≤ i := by omega
        have i1 : i ≤ 60 := by omega
        have hn : i.toNat = 60 - 4 * j := by omega
        have hand := and15 x HX.out i.toNat
        have hgt := digs_get x j hlt
        rw [← hn] at hgt
        obtain ⟨d, hd⟩ : ∃ d : Int, (((x / 2 ^ i.toNat) % 16 : Nat) : Int) = d := ⟨_, rfl⟩
        have d0 : 0 ≤ d := by omega
        have d1 : d ≤ 15 := by omega
        rw [hd] at hand hgt
        have HG := Aside0.mk hgt
        have hix := index_hex d d0 d1
        clear hI hJ hn hd hgt hlt
        go_wp2_with (first | ((with_reducible refine gate_builtin (b := .append) (xs := #[.tmp 13, .tmp 19]) rfl ?_); at_builtin; refine Kd.R_append (Kd.int .u8) (w0 := w0) w0.heap.size rfl (.tmp 13) (.tmp 19) 46 5 (.int .u8 0) 1 rfl Try.underlying46 info5 rfl (by decide) (by omega) u0 (xs ++ (digs x).take j) (hexOf d) [.int .u8 (hexOf d)] (fun _ => True) (fun _ => False) rfl rfl ?aP (fun _ hk => hk.elim) ?aF ?aO ?aB ?aS ?aL ?_; (case aP => exact rfl); (case aB => exact (by repeat (first | (with_reducible first | exact HB.out | apply below_alloc | apply pw_below_drewN | apply below_drew1) | exact HB.out))); (case aF => exact (fun _ _ => trivial)); (case aO => exact (by (with_reducible repeat (first | apply Kd.R_alloc | apply Kd.R_drewN | apply Kd.R_drew)); exact HO.out)); (case aS => exact (below_size (by repeat (first | (with_reducible first | exact HB.out | apply below_alloc | apply pw_below_drewN | apply below_drew1) | exact HB.out)))); (case aL => have h1 := HLen.out; have h2 := HJ.out; simp only [List.length_append, List.length_take]; omega); intro v112 w5 ho hb hg hat; rw [List.append_assoc, ← HG.out] at ho; have n0_ := Aside0.mk (hb); have n1_ := Aside0.mk (ho); clear HB; clear HO; have HB := n0_; have HO2 := n1_; clear n0_ n1_; clear ho hb hg hat))
        go_roundg k1
        case measure => have := HK.out; omega
        case rel => exact ⟨j + 1, i - 4, by first | rfl | go_num, ⟨by have := HI.out; omega⟩, ⟨by have := HK.out; omega⟩, ⟨by have := HK.out; have := HI.out; omega⟩, ⟨by (with_reducible repeat (first | apply Kd.R_alloc | apply Kd.R_drewN | apply Kd.R_drew)); exact HO2.out⟩, ⟨by repeat (first | (with_reducible first | exact HB.out | apply below_alloc | apply pw_below_drewN | apply below_drew1) | exact HB.out)⟩⟩
      · have hO := HO.out
        rw [List.take_of_length_le (by rw [digs_len]; omega)] at hO
        have HO3 := Aside0.mk hO
        have i0 : i < 0 := by omega
        clear hO HO hI hJ
        go_wp2_with fail
        go_ret
        exact ⟨_, rfl, HO3.out, HB.out⟩

end Go.Proofs.Ytnaccmekjkbmmaa

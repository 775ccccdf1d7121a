/-
  The plain law of telling: the document's Text is the library's decimal numeral.
-/
import Derived.Test.YthblmmighjmgpaaDoorPlain
import Derived.Test.YthblmmighjmgpaaDoorTxtWalk
import Derived.Lib.ItoaNum
import Derived.Lib.SmallJoins
import Derived.Lib.Strings
namespace Go.Proofs.YthblmmighjmgpaaDoor.Plain
open Go.RowKit Go.Proofs.YthblmmighjmgpaaDoorW.PrintWords Go.Proofs.YthblmmighjmgpaaDoorW.PrintMore Go.Proofs.YthblmmighjmgpaaDoor.Fn
set_option linter.unusedVariables false

theorem bytes_ext {a b : ByteArray} (h : a.data.toList = b.data.toList) : a = b := by
  obtain ⟨⟨x⟩⟩ := a
  obtain ⟨⟨y⟩⟩ := b
  simp at h
  rw [h]

theorem one_digit (m : Nat) : (strOfNums [(m : Int)]).data.toList = [UInt8.ofNat m] := by
  simp [strOfNums]

theorem app_list (a b : ByteArray) : (a ++ b).data.toList = a.data.toList ++ b.data.toList := by rw [ByteArray.data_append, Array.toList_append]

theorem decDigits_lo (u : Nat) (h : u < 10) : Lib.decDigits u = [UInt8.ofNat (48 + u)] := by
  rw [Lib.decDigits, dif_pos h]
theorem decDigits_hi (u : Nat) (h : ¬ u < 10) : Lib.decDigits u = Lib.decDigits (u / 10) ++ [UInt8.ofNat (48 + u % 10)] := by
  conv => lhs; rw [Lib.decDigits, dif_neg h]

/-- The last digit, and the sign ahead of it. -/
theorem text_last (neg : Bool) (hi lo : Int) (n : Nat) (acc : ByteArray) (k : Nat) (hn : n < 10) (hs : acc.size ≤ 100) :
  prompterref01_Text.l0 (k + 1) acc (n : Int) neg hi lo = some ⟨((if neg then [45] else []) ++ Lib.decDigits n ++ acc.data.toList).toArray⟩ := by
  have hd : (IntKind.u64.wrap (48 + (n : Int))) % 256 = ((48 + n : Nat) : Int) := by rw [u64w]; omega
  have hone : (strOfNums [((48 + n : Nat) : Int)]).size = 1 := by rw [Lib.size_eq, one_digit]; rfl
  simp only [prompterref01_Text.l0]
  rw [if_neg (by omega), hd]
  simp only [Option.bind_some]
  rw [hone, if_pos (by omega), decDigits_lo n hn]
  have hsz : (strOfNums [((48 + n : Nat) : Int)] ++ acc).size ≤ 101 := by rw [ByteArray.size_append, hone]; omega
  cases neg
  · rw [if_neg (by simp)]
    congr 1
  · rw [if_pos rfl, if_pos (by omega)]
    congr 1

/-- Round by round, a digit each. -/
theorem text_l0 (neg : Bool) (hi lo : Int) : ∀ (d : Nat) (n : Nat) (acc : ByteArray) (k : Nat), n < 10 ^ (d + 1) → n < 18446744073709551616 → acc.size + d ≤ 100 → d < k →
    prompterref01_Text.l0 k acc (n : Int) neg hi lo = some ⟨((if neg then [45] else []) ++ Lib.decDigits n ++ acc.data.toList).toArray⟩
  | 0, n, acc, k, hn, hb, hs, hk => by
    obtain ⟨k, rfl⟩ : ∃ m, k = m + 1 := ⟨k - 1, by omega⟩
    have hn' : n < 10 := by simpa using hn
    exact text_last neg hi lo n acc k hn' (by omega)
  | d + 1, n, acc, k, hn, hb, hs, hk => by
    obtain ⟨k, rfl⟩ : ∃ m, k = m + 1 := ⟨k - 1, by omega⟩
    by_cases h9 : n < 10
    · exact text_last neg hi lo n acc k h9 (by omega)
    · have hd : (IntKind.u64.wrap (48 + Int.tmod (n : Int) 10)) % 256 = ((48 + n % 10 : Nat) : Int) := by
        rw [u64w, show Int.tmod (n : Int) 10 = ((n % 10 : Nat) : Int) from rfl]; omega
      have hq : IntKind.u64.wrap (Int.tdiv (n : Int) 10) = ((n / 10 : Nat) : Int) := by
        rw [u64w, show Int.tdiv (n : Int) 10 = ((n / 10 : Nat) : Int) from rfl]; omega
      have hone : (strOfNums [((48 + n % 10 : Nat) : Int)]).size = 1 := by rw [Lib.size_eq, one_digit]; rfl
      simp only [prompterref01_Text.l0]
      rw [if_pos (by omega), hd, hq]
      simp only [Option.bind_some]
      rw [hone, if_pos (by omega)]
      have ih := text_l0 neg hi lo d (n / 10) (strOfNums [((48 + n % 10 : Nat) : Int)] ++ acc) k (by rw [Nat.pow_succ] at hn; omega) (by omega) (by
        rw [ByteArray.size_append, hone]; omega) (by omega)
      rw [ih, decDigits_hi n h9, app_list, one_digit]
      try simp only [List.append_assoc]
theorem text_f (a : Int) (ha0 : -9223372036854775808 ≤ a) (ha1 : a ≤ 9223372036854775807) : prompterref01_Text.f 21 a = some ⟨(Lib.itoa a).toArray⟩ := by
  unfold prompterref01_Text.f
  rw [of_f a ha0 ha1]
  simp only [Option.bind_some]
  rw [text_l0 (decide (a < 0)) 0 (a.natAbs : Int) 20 a.natAbs ⟨#[]⟩ 21 (by omega) (by omega) (by decide) (by omega)]
  congr 2
  unfold Lib.itoa
  by_cases h : a < 0
  · rw [if_pos h]; simp [h]
  · rw [if_neg h, show a.natAbs = a.toNat by omega]; simp [h]

end Go.Proofs.YthblmmighjmgpaaDoor.Plain

/-
  The plain law of reading: what the program's right, the document's Read and the library's ParseInt tell of a text, in one form.
-/
import Derived.Test.YthblmmighjmgpaaDoorPlain
import Derived.Test.YthblmmighjmgpaaDoorFnRight
import Derived.Test.YthblmmighjmgpaaDoorFnRead
import Derived.Lib.ParseIntB
import Derived.Lib.IndexBytes
namespace Go.Proofs.YthblmmighjmgpaaDoor.Plain
open Go.RowKit Go.Proofs.YthblmmighjmgpaaDoorW.PrintWords Go.Proofs.YthblmmighjmgpaaDoorW.PrintMore Go.Proofs.YthblmmighjmgpaaDoor.Fn
set_option linter.unusedVariables false

/-- Is a byte a decimal digit? -/
def dig (c : UInt8) : Bool := decide (48 ≤ c.toNat) && decide (c.toNat ≤ 57)
/-- The number that digits say behind n. -/
def numF (n : Nat) (l : List UInt8) : Nat := l.foldl (fun m c => 10 * m + (c.toNat - 48)) n

theorem numF_cons (n : Nat) (c : UInt8) (l : List UInt8) : numF n (c :: l) = numF (10 * n + (c.toNat - 48)) l := by unfold numF; rw [List.foldl_cons]
theorem numF_nil (n : Nat) : numF n [] = n := by unfold numF; rw [List.foldl_nil]
theorem dig_lo {c : UInt8} (h : c.toNat < 48) : dig c = false := by simp [dig, show ¬ 48 ≤ c.toNat by omega]
theorem dig_hi {c : UInt8} (h : 57 < c.toNat) : dig c = false := by simp [dig, show ¬ c.toNat ≤ 57 by omega]
theorem dig_in {c : UInt8} (h0 : 48 ≤ c.toNat) (h1 : c.toNat ≤ 57) : dig c = true := by simp [dig, h0, h1]
theorem dig_bd {c : UInt8} (h : dig c = true) : 48 ≤ c.toNat ∧ c.toNat ≤ 57 := by simpa [dig] using h
theorem numF_ge (l : List UInt8) : ∀ n, n ≤ numF n l := by
  induction l with
  | nil => intro n; exact Nat.le_refl _
  | cons c l ih => intro n; rw [numF_cons]; have := ih (10 * n + (c.toNat - 48)); omega

/-- Behind the minus: are these the digits of a number? -/
def okB (neg : Bool) (ds : List UInt8) : Bool := !ds.isEmpty && ds.all dig && !((ds.head? == some 48) && (neg || decide (ds.length > 1)))

/-- What a text's digits say: the number, or ErrLong. -/
def said (neg : Bool) (ds : List UInt8) : Int × Int :=
  if numF 0 ds ≤ 9223372036854775808 then
    if numF 0 ds = 9223372036854775808 ∧ neg = false then (0, 2) else (if neg then -(numF 0 ds : Int) else (numF 0 ds : Int), 0)
  else (0, 2)

def negOf (l : List UInt8) : Bool := l.head? == some 45
def dsOf (l : List UInt8) : List UInt8 := if negOf l then l.drop 1 else l

/-- What a text says (P1.5). -/
def readS (l : List UInt8) : Int × Int := if okB (negOf l) (dsOf l) then said (negOf l) (dsOf l) else (0, 9)

/-! ### bytes of a text, by their places -/
theorem bt_get (s : ByteArray) (i : Nat) (h : i < s.data.toList.length) : bt s (i : Int) = ((s.data.toList[i]).toNat : Int) := by
  unfold bt
  simp only [Int.toNat_natCast]
  have hs : i < s.size := by rw [Lib.size_eq]; exact h
  rw [dif_pos hs]
  rfl

theorem drop_get (l : List UInt8) (i : Nat) (h : i < l.length) : l.drop i = l[i] :: l.drop (i + 1) := List.drop_eq_getElem_cons h

/-- The loop of right: are all digits from i on? -/
theorem right_l0 (s : ByteArray) (hm : s.size ≤ 9223372036854775807) : ∀ (d i k : Nat), d + i = s.size → d < k →
    whole_right.l0 k s (s.size : Int) (i : Int) = some ((s.data.toList.drop i).all dig)
  | 0, i, k, hd, hk => by
    obtain ⟨k, rfl⟩ : ∃ m, k = m + 1 := ⟨k - 1, by omega⟩
    simp only [whole_right.l0]
    rw [if_neg (by omega), List.drop_eq_nil_of_le (by rw [← Lib.size_eq]; omega)]; rfl
  | d + 1, i, k, hd, hk => by
    obtain ⟨k, rfl⟩ : ∃ m, k = m + 1 := ⟨k - 1, by omega⟩
    have hlt : i < s.data.toList.length := by rw [← Lib.size_eq]; omega
    have ih := right_l0 s hm d (i + 1) k (by omega) (by omega)
    have hw : wrap64 ((i : Int) + 1) = ((i + 1 : Nat) : Int) := by unfold wrap64; omega
    simp only [whole_right.l0]
    rw [if_pos (by omega), if_pos (by omega), if_pos (by omega), bt_get s i hlt, hw, drop_get _ i hlt, List.all_cons, ih]
    by_cases h1 : (s.data.toList[i]).toNat < 48
    · rw [if_pos (by omega), dig_lo h1]; rfl
    · rw [if_neg (by omega)]
      by_cases h2 : 57 < (s.data.toList[i]).toNat
      · rw [if_pos (by omega), dig_hi h2]; rfl
      · rw [if_neg (by omega), dig_in (by omega) (by omega)]; rfl

theorem bt0 (s : ByteArray) (h : 0 < s.size) : ∃ c r, s.data.toList = c :: r ∧ bt s 0 = (c.toNat : Int) := by
  have hl : 0 < s.data.toList.length := by rw [← Lib.size_eq]; exact h
  have hb := bt_get s 0 hl
  cases e : s.data.toList with
  | nil => rw [e] at hl; exact absurd hl (by simp)
  | cons c r => refine ⟨c, r, rfl, ?_⟩; simp only [e] at hb; simpa using hb

theorem toList_eq (s : ByteArray) : s.toList = s.data.toList := by
  exact ByteArray.toList_eq s

/-- From the place of the first digit on. -/
theorem right_j1 (neg : Bool) (s : ByteArray) (hm : s.size ≤ 9223372036854775807) (hz : neg = true → s.data.toList ≠ [48]) (k : Nat) (hk : s.size + 3 ≤ k) :
    whole_right.j1 k s = some (okB neg s.data.toList) := by
  obtain ⟨k, rfl⟩ : ∃ m, k = m + 1 := ⟨k - 1, by omega⟩
  obtain ⟨k', rfl⟩ : ∃ m, k = m + 1 := ⟨k - 1, by omega⟩
  have hl := Lib.size_eq s
  have h2f : whole_right.j2 (k' + 1) s false = some (s.data.toList.all dig) := by
    simp only [whole_right.j2]
    rw [if_neg (by simp)]
    exact right_l0 s hm s.size 0 k' (by omega) (by omega)
  have h2t : whole_right.j2 (k' + 1) s true = some false := by simp [whole_right.j2]
  have htl : (s.toList = ([] : List UInt8)) ↔ s.data.toList = [] := by rw [toList_eq]
  rw [whole_right.j1]
  by_cases h0 : s.data.toList = []
  · rw [if_pos (htl.2 h0), h2t, h0]; rfl
  · have hpos : 0 < s.size := by rw [hl]; exact List.length_pos_iff.2 h0
    obtain ⟨c, r, e, hb⟩ := bt0 s hpos
    rw [if_neg (fun h => h0 (htl.1 h)), if_pos (by omega), hb]
    unfold okB
    have hlen : s.size = r.length + 1 := by rw [hl, e]; simp
    by_cases h48 : c.toNat = 48
    · have hc : c = 48 := UInt8.toNat_inj.1 h48
      rw [if_pos (by omega)]
      by_cases h1 : s.size > 1
      · rw [show decide ((s.size : Int) > 1) = true by simp; omega, h2t, e]
        subst hc
        simp [show 1 < r.length + 1 by omega]
      · rw [show decide ((s.size : Int) > 1) = false by simp; omega, h2f, e]
        subst hc
        have hr : r = [] := List.length_eq_zero_iff.1 (by omega)
        subst hr
        cases neg
        · simp
        · exact absurd e (hz rfl)
    · rw [if_neg (by omega), h2f, e]
      have hc : ¬ c = 48 := fun h => h48 (by rw [h]; rfl)
      simp [hc]

/-- right, whole. -/
theorem right_f (s : ByteArray) (hm : s.size ≤ 9223372036854775806) : whole_right.f (s.size + 5) s = some (okB (negOf s.data.toList) (dsOf s.data.toList)) := by
  have hl := Lib.size_eq s
  unfold whole_right.f
  by_cases h0 : s.size = 0
  · have e : s.data.toList = [] := List.length_eq_zero_iff.1 (by omega)
    rw [if_neg (by omega), whole_right.j0, if_neg (by simp), right_j1 false s (by omega) (by simp) _ (by omega), e]; rfl
  · obtain ⟨c, r, e, hb⟩ := bt0 s (by omega)
    rw [if_pos (by omega), if_pos (by omega), hb, whole_right.j0]
    by_cases h45 : c.toNat = 45
    · have hc : c = 45 := UInt8.toNat_inj.1 h45
      have hn : negOf s.data.toList = true := by rw [e, hc]; rfl
      have hds : dsOf s.data.toList = s.data.toList.drop 1 := by unfold dsOf; rw [hn]; rfl
      have hx := Lib.extract_to_end s 1
      have hxs : (s.extract 1 s.size).size ≤ s.size := by rw [Lib.size_eq, hx, List.length_drop]; omega
      rw [if_pos (by simp [h45]), if_pos (by omega), hn, hds, ← hx, toList_eq]
      by_cases hz : (s.extract 1 s.size).data.toList = [48]
      · rw [if_pos hz, hz]; rfl
      · rw [if_neg hz, right_j1 true _ (by omega) (fun _ => hz) _ (by omega)]
    · have hc : ¬ c = 45 := fun h => h45 (by rw [h]; rfl)
      have hn : negOf s.data.toList = false := by rw [e]; simp [negOf, hc]
      rw [if_neg (by simp; omega), right_j1 false s (by omega) (by simp) _ (by omega), hn]
      unfold dsOf; rw [hn]; rfl

/-! ### The document's Read -/
theorem read_l1 (s : ByteArray) (hm : s.size ≤ 9223372036854775807) (neg : Bool) : ∀ (d i k n : Nat), d + i = s.size → (s.data.toList.drop i).all dig = true → n ≤ 9223372036854775808 →
    prompterref01_Read.l1 (d + 2 + k) s neg (n : Int) (i : Int) = some (if numF n (s.data.toList.drop i) ≤ 9223372036854775808 then
      (if numF n (s.data.toList.drop i) = 9223372036854775808 ∧ neg = false then (0, 2) else (if neg then -(numF n (s.data.toList.drop i) : Int) else (numF n (s.data.toList.drop i) : Int), 0)) else (0, 2))
  | 0, i, k, n, hd, ha, hn => by
    rw [show 0 + 2 + k = (k + 1) + 1 by omega]
    simp only [prompterref01_Read.l1]
    rw [if_neg (by omega), List.drop_eq_nil_of_le (by rw [← Lib.size_eq]; omega)]
    rw [held_f k neg 0 (n : Int) (by omega) (by omega) (by omega), numF_nil]
    simp only [Option.bind_some, Int.zero_mul, Int.zero_add]
    rw [if_pos hn]
    cases neg
    · simp only [Bool.false_eq_true, if_false, and_true]
      by_cases h : n = 9223372036854775808
      · rw [if_pos (show (n : Int) = 9223372036854775808 by omega), if_pos h]
      · have hh : hold (n : Int) = (n : Int) := by unfold hold; rw [if_neg (by omega), if_neg (by omega)]
        rw [if_neg (show ¬ (n : Int) = 9223372036854775808 by omega), if_neg h, hh]
    · have hh : hold (-(n : Int)) = -(n : Int) := by unfold hold; rw [if_neg (by omega), if_neg (by omega)]
      simp only [if_true, hh, Bool.true_eq_false, and_false, if_false]
      split <;> rfl
  | d + 1, i, k, n, hd, ha, hn => by
    have hlt : i < s.data.toList.length := by rw [← Lib.size_eq]; omega
    have hw : wrap64 ((i : Int) + 1) = ((i + 1 : Nat) : Int) := by unfold wrap64; omega
    have ih := read_l1 s hm neg d (i + 1) k (10 * n + ((s.data.toList[i]).toNat - 48)) (by omega)
    rw [drop_get _ i hlt] at ha ⊢
    rw [List.all_cons, Bool.and_eq_true] at ha
    obtain ⟨hc, ha⟩ := ha
    replace hc := dig_bd hc
    rw [numF_cons]
    rw [show d + 1 + 2 + k = (d + 2 + k) + 1 by omega]
    simp only [prompterref01_Read.l1]
    rw [if_pos (by omega), if_pos (by omega), bt_get s i hlt, hw]
    generalize (s.data.toList[i]).toNat = b at *
    have hge := numF_ge (s.data.toList.drop (i + 1)) (10 * n + (b - 48))
    by_cases hbig : (n : Int) > (9223372036854775808 - ((b : Int) - 48) % 256) / 10
    · rw [if_pos hbig, if_neg (by omega)]
    · rw [if_neg hbig]
      have e : IntKind.u64.wrap (IntKind.u64.wrap (10 * (n : Int)) + ((b : Int) - 48) % 256) = ((10 * n + (b - 48) : Nat) : Int) := by
        rw [u64w, u64w]; omega
      rw [e]
      exact ih ha (by omega)

theorem read_l0 (s : ByteArray) (hm : s.size ≤ 9223372036854775807) (at0 : Int) (neg : Bool) : ∀ (d i k : Nat), d + i = s.size →
    prompterref01_Read.l0 (d + 1 + k) s at0 neg (i : Int) = if (s.data.toList.drop i).all dig then prompterref01_Read.l1 k s neg 0 at0 else some (0, 9)
  | 0, i, k, hd => by
    rw [show 0 + 1 + k = k + 1 by omega]
    simp only [prompterref01_Read.l0]
    rw [if_neg (by omega), List.drop_eq_nil_of_le (by rw [← Lib.size_eq]; omega)]; rfl
  | d + 1, i, k, hd => by
    have hlt : i < s.data.toList.length := by rw [← Lib.size_eq]; omega
    have ih := read_l0 s hm at0 neg d (i + 1) k (by omega)
    have hw : wrap64 ((i : Int) + 1) = ((i + 1 : Nat) : Int) := by unfold wrap64; omega
    rw [show d + 1 + 1 + k = (d + 1 + k) + 1 by omega]
    simp only [prompterref01_Read.l0]
    rw [if_pos (by omega), if_pos (by omega), bt_get s i hlt, hw, drop_get _ i hlt, List.all_cons, ih]
    by_cases h1 : (s.data.toList[i]).toNat < 48
    · rw [if_pos (by omega), dig_lo h1]; rfl
    · rw [if_neg (by omega)]
      by_cases h2 : 57 < (s.data.toList[i]).toNat
      · rw [if_pos (by omega), dig_hi h2]; rfl
      · rw [if_neg (by omega), dig_in (by omega) (by omega)]; rfl

/-- From the first digit's place on. -/
theorem read_j1 (s : ByteArray) (hm : s.size ≤ 9223372036854775807) (neg : Bool) (i : Nat) (hi : i ≤ s.size) (hpos : neg = false → i = 0) :
    prompterref01_Read.j1 (2 * s.size + 6) s (i : Int) neg = some (if okB neg (s.data.toList.drop i) then said neg (s.data.toList.drop i) else (0, 9)) := by
  have hl := Lib.size_eq s
  have h2t : prompterref01_Read.j2 (2 * s.size + 5) s (i : Int) neg true = some (0, 9) := by simp [prompterref01_Read.j2]
  have h2f : prompterref01_Read.j2 (2 * s.size + 5) s (i : Int) neg false = some (if (s.data.toList.drop i).all dig then said neg (s.data.toList.drop i) else (0, 9)) := by
    simp only [prompterref01_Read.j2]
    rw [if_neg (by simp)]
    have h := read_l0 s hm (i : Int) neg (s.size - i) i (s.size + 3 + i) (by omega)
    rw [show s.size - i + 1 + (s.size + 3 + i) = 2 * s.size + 4 by omega] at h
    rw [h]
    by_cases ha : (s.data.toList.drop i).all dig = true
    · rw [if_pos ha, if_pos ha]
      have h1 := read_l1 s hm neg (s.size - i) i (1 + 2 * i) 0 (by omega) ha (by omega)
      rw [show s.size - i + 2 + (1 + 2 * i) = s.size + 3 + i by omega] at h1
      exact h1
    · rw [if_neg ha, if_neg ha]
  rw [prompterref01_Read.j1]
  by_cases h0 : i = s.size
  · rw [if_pos (by omega), h2t, List.drop_eq_nil_of_le (by omega)]; rfl
  · have hlt : i < s.data.toList.length := by omega
    rw [if_neg (by omega), if_pos (by omega), if_pos (by omega), bt_get s i hlt, h2f, drop_get _ i hlt]
    unfold okB
    by_cases h48 : (s.data.toList[i]).toNat = 48
    · have hc : s.data.toList[i] = 48 := UInt8.toNat_inj.1 h48
      rw [if_pos (by omega)]
      cases neg
      · obtain rfl := hpos rfl
        rw [if_neg (by simp)]
        by_cases h1 : s.size > 1
        · rw [show decide ((s.size : Int) > 1) = true by simp; omega]
          rw [h2t]
          rw [if_neg]
          simp [hc]; omega
        · rw [show decide ((s.size : Int) > 1) = false by simp; omega, h2f, drop_get _ 0 hlt]
          have he : s.data.toList.drop (0 + 1) = [] := List.drop_eq_nil_of_le (by omega)
          rw [he]; simp [hc]
      · rw [if_pos rfl, h2t]
        rw [if_neg]
        simp [hc]
    · rw [if_neg (by omega)]
      have hc : ¬ s.data.toList[i] = 48 := fun h => h48 (by rw [h]; rfl)
      generalize s.data.toList[i] = b at hc
      simp [hc]

theorem read_f (s : ByteArray) (hm : s.size ≤ 9223372036854775806) : prompterref01_Read.f (2 * s.size + 7) s = some (readS s.data.toList) := by
  have hl := Lib.size_eq s
  unfold prompterref01_Read.f readS
  by_cases h0 : s.size = 0
  · have e : s.data.toList = [] := List.length_eq_zero_iff.1 (by omega)
    rw [if_neg (by omega), prompterref01_Read.j0, if_neg (by simp)]
    have h := read_j1 s (by omega) false 0 (by omega) (fun _ => rfl)
    rw [show ((0 : Nat) : Int) = 0 from rfl] at h
    rw [h, e]; rfl
  · obtain ⟨c, r, e, hb⟩ := bt0 s (by omega)
    rw [if_pos (by omega), if_pos (by omega), hb, prompterref01_Read.j0]
    by_cases h45 : c.toNat = 45
    · have hc : c = 45 := UInt8.toNat_inj.1 h45
      have hn : negOf s.data.toList = true := by rw [e, hc]; rfl
      have hds : dsOf s.data.toList = s.data.toList.drop 1 := by unfold dsOf; rw [hn]; rfl
      rw [if_pos (by simp [h45]), hn, hds]
      exact read_j1 s (by omega) true 1 (by omega) (by simp)
    · have hc : ¬ c = 45 := fun h => h45 (by rw [h]; rfl)
      have hn : negOf s.data.toList = false := by rw [e]; simp [negOf, hc]
      have hds : dsOf s.data.toList = s.data.toList.drop 0 := by unfold dsOf; rw [hn]; rfl
      rw [if_neg (by simp; omega), hn, hds]
      exact read_j1 s (by omega) false 0 (by omega) (fun _ => rfl)

/-! ### The library's ParseInt -/
theorem parseM_digits (l : List UInt8) : ∀ acc : Nat, l.all dig = true → acc ≤ 18446744073709551615 →
    Lib.parseUintM 18446744073709551615 acc l = if numF acc l ≤ 18446744073709551615 then .ok (numF acc l) else .range := by
  induction l with
  | nil => intro acc _ h; rw [numF_nil, if_pos h]; rfl
  | cons c l ih =>
    intro acc ha hacc
    rw [List.all_cons, Bool.and_eq_true] at ha
    obtain ⟨hc, ha⟩ := ha
    replace hc := dig_bd hc
    rw [numF_cons, Lib.parseUintM, if_pos hc]
    have hge := numF_ge l (10 * acc + (c.toNat - 48))
    by_cases h1 : 1844674407370955162 ≤ acc
    · rw [if_pos h1, if_neg (by omega)]
    · rw [if_neg h1, Nat.mul_comm acc 10]
      by_cases h2 : 18446744073709551615 < 10 * acc + (c.toNat - 48)
      · rw [if_pos h2, if_neg (by omega)]
      · rw [if_neg h2, ih _ ha (by omega)]

theorem parse_digits (l : List UInt8) (ha : l.all dig = true) (hne : l ≠ []) :
    Lib.parseUintB 64 l = if numF 0 l ≤ 18446744073709551615 then .ok (numF 0 l) else .range := by
  unfold Lib.parseUintB
  rw [if_neg hne]
  exact parseM_digits l 0 ha (by omega)

/-- Of a text of digits: the library reads what the document says, or nothing. -/
theorem parse_said (l : List UInt8) (hok : okB (negOf l) (dsOf l) = true) :
    ((said (negOf l) (dsOf l)).2 = 0 ∧ Lib.parseIntB 64 l = .ok (said (negOf l) (dsOf l)).1) ∨
    (said (negOf l) (dsOf l) = (0, 2) ∧ ∀ v, Lib.parseIntB 64 l ≠ .ok v) := by
  cases l with
  | nil => exact absurd hok (by decide)
  | cons c r =>
    by_cases h45 : c.toNat = 45
    · have hc : c = 45 := UInt8.toNat_inj.1 h45
      subst hc
      have hn : negOf (45 :: r) = true := rfl
      have hds : dsOf (45 :: r) = r := rfl
      rw [hn, hds] at hok ⊢
      have hne : r ≠ [] := by intro h; subst h; exact absurd hok (by decide)
      have ha : r.all dig = true := by
        unfold okB at hok; simp only [Bool.and_eq_true] at hok; exact hok.1.2
      have hp := parse_digits r ha hne
      have hpi : Lib.parseIntB 64 (45 :: r) = match Lib.parseUintB 64 r with
        | .ok u => if 9223372036854775808 < u then .range else .ok (-(u : Int))
        | .range => .range
        | _ => Lib.parseIntB 64 [] := by
        unfold Lib.parseIntB
        simp only [show ((45 : UInt8).toNat = 43 ∨ (45 : UInt8).toNat = 45) = True by simp, if_true]
        cases Lib.parseUintB 64 r with
        | ok u => simp
        | range => rfl
        | _ => rfl
      unfold said
      rw [hpi, hp]
      by_cases h1 : numF 0 r ≤ 18446744073709551615
      · rw [if_pos h1]
        by_cases h2 : numF 0 r ≤ 9223372036854775808
        · left
          rw [if_pos h2, if_neg (by simp)]
          refine ⟨rfl, ?_⟩
          show (if 9223372036854775808 < numF 0 r then Lib.NumEnd.range else Lib.NumEnd.ok (-(numF 0 r : Int))) = _
          rw [if_neg (by omega)]; rfl
        · right
          rw [if_neg h2]
          refine ⟨rfl, fun v => ?_⟩
          show (if 9223372036854775808 < numF 0 r then Lib.NumEnd.range else Lib.NumEnd.ok (-(numF 0 r : Int))) ≠ _
          rw [if_pos (by omega)]; simp
      · right
        rw [if_neg h1, if_neg (by omega)]
        exact ⟨rfl, fun v => by simp⟩
    · have hc : ¬ c = 45 := fun h => h45 (by rw [h]; rfl)
      have hn : negOf (c :: r) = false := by simp [negOf, hc]
      have hds : dsOf (c :: r) = c :: r := by unfold dsOf; rw [hn]; rfl
      rw [hn, hds] at hok ⊢
      have ha : (c :: r).all dig = true := by
        unfold okB at hok; simp only [Bool.and_eq_true] at hok; exact hok.1.2
      have hcd : 48 ≤ c.toNat := by
        rw [List.all_cons, Bool.and_eq_true] at ha
        exact (dig_bd ha.1).1
      have hp := parse_digits (c :: r) ha (by simp)
      have hpi : Lib.parseIntB 64 (c :: r) = match Lib.parseUintB 64 (c :: r) with
        | .ok u => if 9223372036854775808 ≤ u then .range else .ok (u : Int)
        | .range => .range
        | _ => Lib.parseIntB 64 [] := by
        unfold Lib.parseIntB
        have hif : (if c.toNat = 43 ∨ c.toNat = 45 then r else c :: r) = c :: r := if_neg (by omega)
        simp only [hif]
        cases Lib.parseUintB 64 (c :: r) with
        | ok u => simp [h45]
        | range => rfl
        | _ => rfl
      unfold said
      rw [hpi, hp]
      by_cases h1 : numF 0 (c :: r) ≤ 18446744073709551615
      · rw [if_pos h1]
        by_cases h2 : numF 0 (c :: r) < 9223372036854775808
        · left
          rw [if_pos (by omega), if_neg (by simp; omega)]
          refine ⟨rfl, ?_⟩
          show (if 9223372036854775808 ≤ numF 0 (c :: r) then Lib.NumEnd.range else Lib.NumEnd.ok (numF 0 (c :: r) : Int)) = _
          rw [if_neg (by omega)]; rfl
        · right
          have e : (if numF 0 (c :: r) ≤ 9223372036854775808 then (if numF 0 (c :: r) = 9223372036854775808 ∧ false = false then ((0 : Int), (2 : Int)) else (if false = true then -(numF 0 (c :: r) : Int) else (numF 0 (c :: r) : Int), 0)) else (0, 2)) = (0, 2) := by
            by_cases h3 : numF 0 (c :: r) ≤ 9223372036854775808
            · rw [if_pos h3, if_pos ⟨by omega, rfl⟩]
            · rw [if_neg h3]
          refine ⟨e, fun v => ?_⟩
          show (if 9223372036854775808 ≤ numF 0 (c :: r) then Lib.NumEnd.range else Lib.NumEnd.ok (numF 0 (c :: r) : Int)) ≠ _
          rw [if_pos (by omega)]; simp
      · right
        rw [if_neg h1, if_neg (by omega)]
        exact ⟨rfl, fun v => by simp⟩

end Go.Proofs.YthblmmighjmgpaaDoor.Plain

import Derived.Test.YthoobepfkfjgnaaDoorPLx0
import Derived.Test.YthoobepfkfjgnaaDoorLXe
import Derived.Test.YthoobepfkfjgnaaDoorLexU
import Derived.Test.YthoobepfkfjgnaaDoorLexTx
import Derived.Test.YthoobepfkfjgnaaDoorLexW
import Derived.Lib.SmallJoins
import Derived.WalkLawsBesides
import Derived.Outline
import Derived.StillTailTactics
import Derived.Test.YthoobepfkfjgnaaDoorMore
namespace Go.Proofs.YthoobepfkfjgnaaDoor.PL
open Go.RowKit Go.Proofs.YthoobepfkfjgnaaDoorW.PrintWords Go.Proofs.YthoobepfkfjgnaaDoorW.PrintLast Go.Proofs.YthoobepfkfjgnaaDoorW.PrintMore
attribute [local go_sem] max2_int min2_int max_two min_two max_three min_three max_four min_four
set_option linter.unusedVariables false
set_option linter.unusedSimpArgs false
-- GIVEN plain making
theorem RefP.w64 {p i : Nat} (h : p + i < 9223372036854775807) : wrap64 ((p : Int) + (i : Int)) = ((p + i : Nat) : Int) := by unfold wrap64; omega
theorem RefP.w641 {p : Nat} (h : p + 1 < 9223372036854775808) : wrap64 ((p : Int) + 1) = ((p + 1 : Nat) : Int) := by unfold wrap64; omega
theorem RefP.rd_at (l : List Int) (p : Nat) : rd l (p : Int) = LexW.at_ l p := by unfold rd LexW.at_; rw [Int.toNat_natCast]
theorem RefP.bt_get (s : ByteArray) (i : Nat) (h : i < (bytesOf s).length) : bt s (i : Int) = (bytesOf s)[i] := by
  have hs : i < s.size := by rw [bytesOf_length] at h; exact h
  have e : (bytesOf s)[i] = ((s.data[i]'hs).toNat : Int) := by
    have hz : i < (List.map (fun b : UInt8 => (b.toNat : Int)) s.data.toList).length := h
    show (List.map (fun b : UInt8 => (b.toNat : Int)) s.data.toList)[i]'hz = _
    rw [List.getElem_map, Array.getElem_toList]
  rw [e]
  unfold bt
  simp only [Int.toNat_natCast]
  first | (rw [dif_pos hs]; rfl) | (simp [hs]; rfl)
theorem RefP.word_l (s : ByteArray) (l : List Int) (p : Nat) (hs : s.size < 100) (hm : l.length < 4611686018427387904) (hp : p ≤ l.length) : ∀ (n i k : Nat), (bytesOf s).length - i = n → i ≤ (bytesOf s).length → p + i ≤ l.length → n < k → caliperref04_word.l0 k l (p : Int) s (i : Int) = some (RefW.toR (LexW.exactly ((bytesOf s).drop i) l (p + i))) := by
  have hl := bytesOf_length s
  intro n
  induction n with
  | zero =>
    intro i k h1 h2 h4 h3
    obtain ⟨k, rfl⟩ : ∃ k', k = k' + 1 := ⟨k - 1, by omega⟩
    rw [caliperref04_word.l0, if_neg (by omega), List.drop_eq_nil_of_le (by omega), LexW.exactly]
    unfold RefW.toR
    dsimp only
    rw [RefP.w64 (by omega), show p + s.size = p + i by omega]
  | succ n ih =>
    intro i k h1 h2 h4 h3
    obtain ⟨k, rfl⟩ : ∃ k', k = k' + 1 := ⟨k - 1, by omega⟩
    have hi : i < (bytesOf s).length := by omega
    rw [caliperref04_word.l0, if_pos (by omega), RefP.w64 (by omega), List.drop_eq_getElem_cons hi, LexW.exactly]
    unfold LexW.must
    by_cases h5 : p + i < l.length
    · rw [if_neg (by omega), if_pos (by omega), if_pos (by omega), if_pos (by omega), RefP.rd_at, RefP.bt_get s i hi, if_pos h5]
      by_cases h6 : LexW.at_ l (p + i) = (bytesOf s)[i]
      · have h7 : (LexW.at_ l (p + i) == (bytesOf s)[i]) = true := beq_iff_eq.mpr h6
        rw [if_pos h6, RefP.w641 (by omega), ih (i + 1) k (by omega) (by omega) (by omega) (by omega)]
        simp only [h7, if_true, Option.isSome_none, Bool.false_eq_true, if_false]
        rfl
      · have h7 : (LexW.at_ l (p + i) == (bytesOf s)[i]) = false := beq_eq_false_iff_ne.mpr h6
        rw [if_neg h6, RefP.w641 (by omega)]
        simp only [h7, Bool.false_eq_true, if_false, Option.isSome_some, if_true]
        rfl
    · rw [if_pos (by omega), if_neg h5, RefP.w641 (by omega)]
      simp only [Option.isSome_some, if_true]
      rfl
theorem RefP.word (l : List Int) (hm : l.length < 4611686018427387904) (s : ByteArray) (p : Nat) (hp : p ≤ l.length) (hs : s.size < 100) : ∃ k', caliperref04_word.f k' l (p : Int) s = some (RefW.toR (LexW.exactly (bytesOf s) l p)) :=
  ⟨(bytesOf s).length + 1, by have := RefP.word_l s l p hs hm hp (bytesOf s).length 0 ((bytesOf s).length + 1) rfl (Nat.zero_le _) hp (Nat.lt_succ_self _); unfold caliperref04_word.f; simpa using this⟩
theorem RefP.digit_f (c : Int) : caliperref04_digit.f c = some (LexW.digit c) := by
  unfold caliperref04_digit.f LexW.digit
  by_cases h : 48 ≤ c
  · rw [if_pos h, decide_eq_true h]; rfl
  · rw [if_neg h, decide_eq_false h]; rfl
theorem RefP.digs_l (l : List Int) (hm : l.length < 4611686018427387904) : ∀ (n p k : Nat), l.length - p = n → p ≤ l.length → n < k → caliperref04_some.l0 k l (p : Int) = some (((LexW.pass LexW.digit l p : Nat) : Int), 0) := by
  intro n
  induction n with
  | zero =>
    intro p k h1 h2 h3
    obtain ⟨k, rfl⟩ : ∃ k', k = k' + 1 := ⟨k - 1, by omega⟩
    rw [caliperref04_some.l0, if_neg (by omega), LexW.pass, if_neg (by omega)]
  | succ n ih =>
    intro p k h1 h2 h3
    obtain ⟨k, rfl⟩ : ∃ k', k = k' + 1 := ⟨k - 1, by omega⟩
    rw [caliperref04_some.l0, if_pos (by omega), if_pos (by omega), RefP.rd_at, RefP.digit_f, LexW.pass, if_pos (by omega)]
    simp only [Option.bind_some]
    by_cases h4 : LexW.digit (LexW.at_ l p) = true
    · rw [if_pos h4, if_pos h4, RefP.w641 (by omega), ih (p + 1) k (by omega) (by omega) (by omega)]
    · rw [if_neg h4, if_neg h4]
theorem RefP.digs (l : List Int) (hm : l.length < 4611686018427387904) (p k : Nat) (hp : p ≤ l.length) (hk : l.length + 2 < k) : caliperref04_some.f k l (p : Int) = some (RefW.toR (LexW.digits l p)) := by
  obtain ⟨k, rfl⟩ : ∃ k', k = k' + 1 := ⟨k - 1, by omega⟩
  unfold caliperref04_some.f LexW.digits LexW.must
  by_cases h1 : p < l.length
  · rw [if_neg (by omega), if_pos (by omega), if_pos (by omega), RefP.rd_at, RefP.digit_f, if_pos h1]
    simp only [Option.bind_some, caliperref04_some.j0]
    by_cases h2 : LexW.digit (LexW.at_ l p) = true
    · rw [h2]
      simp only [Bool.not_true, Bool.false_eq_true, if_false, if_true]
      rw [RefP.digs_l l hm _ p k rfl hp (by omega)]
      rw [LexW.pass, if_pos h1, if_pos h2]
      rfl
    · rw [Bool.eq_false_iff.mpr h2]
      simp only [Bool.not_false, if_true, Bool.false_eq_true, if_false]
      rw [RefP.w641 (by omega)]
      rfl
  · rw [if_pos (by omega), if_neg h1]
    simp only [caliperref04_some.j0, if_true]
    rw [RefP.w641 (by omega)]
    rfl

-- GIVEN plain making
theorem RefP.may1 (x : Int) (b : List Int) (p : Nat) : LexW.may [x] b p = if p < b.length then (if LexW.at_ b p = x then (true, p + 1) else (false, p)) else (false, p) := by
  unfold LexW.may
  by_cases h1 : p < b.length
  · rw [if_pos h1, if_pos h1]
    by_cases h2 : LexW.at_ b p = x
    · rw [if_pos h2, if_pos (by simp [h2])]
    · rw [if_neg h2, if_neg (by simp; exact h2)]
  · rw [if_neg h1, if_neg h1]
theorem RefP.may2 (x y : Int) (b : List Int) (p : Nat) : LexW.may [x, y] b p = if p < b.length then (if LexW.at_ b p = x then (true, p + 1) else if LexW.at_ b p = y then (true, p + 1) else (false, p)) else (false, p) := by
  unfold LexW.may
  by_cases h1 : p < b.length
  · rw [if_pos h1, if_pos h1]
    by_cases h2 : LexW.at_ b p = x
    · rw [if_pos h2, if_pos (by simp [h2])]
    · rw [if_neg h2]
      by_cases h3 : LexW.at_ b p = y
      · rw [if_pos h3, if_pos (by simp [h3])]
      · rw [if_neg h3, if_neg (by simp; exact ⟨h2, h3⟩)]
  · rw [if_neg h1, if_neg h1]
/-- What a part of a number goes on with. -/
theorem RefP.split (d : Option Nat × Nat) (hd : ∀ e, d.1 = some e → 0 < e) (F : Int → Option (Int × Int)) (G : Nat → Option Nat × Nat) (hF : d.1 = none → F (d.2 : Int) = some (RefW.toR (G d.2))) :
    ((some (RefW.toR d)).bind fun bt => if bt.2 > 0 then some (0, bt.2) else F bt.1) = some (RefW.toR (if d.1.isSome = true then d else G d.2)) := by
  obtain ⟨r, q⟩ := d
  cases r with
  | none => simp only [Option.bind_some, RefW.toR, Option.isSome_none, Bool.false_eq_true, if_false]; rw [if_neg (by decide)]; exact hF rfl
  | some e =>
    have := hd e rfl
    simp only [Option.bind_some, RefW.toR, Option.isSome_some, if_true]
    rw [if_pos (by omega)]
theorem RefP.dig_pos (l : List Int) (p : Nat) : ∀ e, (LexW.digits l p).1 = some e → 0 < e := fun e h => LexW.digits_pos (q := (LexW.digits l p).2) (by rw [← h])
theorem RefP.lastd (l : List Int) (hm : l.length < 4611686018427387904) (k p : Nat) (hp : p ≤ l.length) (hk : l.length + 2 < k) : ((caliperref04_some.f k l (p : Int)).bind fun bt => (if bt.2 > 0 then (some (0, bt.2)) else (some (bt.1, 0)))) = some (RefW.toR (LexW.digits l p)) := by
  rw [RefP.digs l hm p k hp hk]
  have h := RefP.split (LexW.digits l p) (RefP.dig_pos l p) (fun x => some (x, 0)) (fun q => (none, q)) (fun _ => rfl)
  rw [h]
  congr 2
  rcases hd : LexW.digits l p with ⟨r, q⟩
  cases r <;> rfl
theorem RefP.num6 (l : List Int) (hm : l.length < 4611686018427387904) (k p : Nat) (s : Bool) (hp : p ≤ l.length) (hs : s = true → p < l.length) (hk : l.length + 4 < k) : caliperref04_number.j6 k l (p : Int) s = some (RefW.toR (LexW.digits l (if s = true then p + 1 else p))) := by
  obtain ⟨k, rfl⟩ : ∃ k', k = k' + 1 := ⟨k - 1, by omega⟩
  rw [caliperref04_number.j6]
  cases s with
  | true =>
    rw [if_pos rfl, if_pos rfl, RefP.w641 (by omega)]
    exact RefP.lastd l hm k (p + 1) (hs rfl) (by omega)
  | false =>
    rw [if_neg (by decide), if_neg (by decide)]
    exact RefP.lastd l hm k p hp (by omega)
theorem RefP.num5 (l : List Int) (hm : l.length < 4611686018427387904) (k p : Nat) (hp : p < l.length) (hk : l.length + 6 < k) : caliperref04_number.j5 k l (p : Int) true = some (RefW.toR (LexW.digits l (LexW.may [43, 45] l (p + 1)).2)) := by
  obtain ⟨k, rfl⟩ : ∃ k', k = k' + 1 := ⟨k - 1, by omega⟩
  rw [caliperref04_number.j5, if_pos rfl, RefP.w641 (by omega), RefP.may2]
  by_cases h1 : p + 1 < l.length
  · rw [if_pos (by omega), if_pos (by omega), RefP.rd_at, if_pos h1]
    by_cases h2 : LexW.at_ l (p + 1) = 43
    · rw [if_pos h2, if_pos h2, RefP.num6 l hm k (p + 1) true (by omega) (fun _ => h1) (by omega)]
      rfl
    · rw [if_neg h2, if_neg h2]
      by_cases h3 : LexW.at_ l (p + 1) = 45
      · rw [if_pos h3, show (LexW.at_ l (p + 1) == 45) = true from beq_iff_eq.mpr h3, RefP.num6 l hm k (p + 1) true (by omega) (fun _ => h1) (by omega)]
        rfl
      · rw [if_neg h3, show (LexW.at_ l (p + 1) == 45) = false from beq_eq_false_iff_ne.mpr h3, RefP.num6 l hm k (p + 1) false (by omega) (fun h => by cases h) (by omega)]
        rfl
  · rw [if_neg (by omega), if_neg h1, RefP.num6 l hm k (p + 1) false (by omega) (fun h => by cases h) (by omega)]
    rfl
theorem RefP.num4 (l : List Int) (hm : l.length < 4611686018427387904) (k p : Nat) (hp : p ≤ l.length) (hk : l.length + 8 < k) : caliperref04_number.j4 k l (p : Int) = some (RefW.toR (LexW.expo l p)) := by
  obtain ⟨k, rfl⟩ : ∃ k', k = k' + 1 := ⟨k - 1, by omega⟩
  have h5f : caliperref04_number.j5 k l (p : Int) false = some ((p : Int), 0) := by
    obtain ⟨k, rfl⟩ : ∃ k', k = k' + 1 := ⟨k - 1, by omega⟩
    rw [caliperref04_number.j5, if_neg (by decide)]
  unfold LexW.expo
  rw [caliperref04_number.j4, RefP.may2]
  by_cases h1 : p < l.length
  · rw [if_pos (by omega), if_pos (by omega), RefP.rd_at, if_pos h1]
    by_cases h2 : LexW.at_ l p = 101
    · rw [if_pos h2, if_pos h2, RefP.num5 l hm k p h1 (by omega)]
      rfl
    · rw [if_neg h2, if_neg h2]
      by_cases h3 : LexW.at_ l p = 69
      · rw [if_pos h3, show (LexW.at_ l p == 69) = true from beq_iff_eq.mpr h3, RefP.num5 l hm k p h1 (by omega)]
        rfl
      · rw [if_neg h3, show (LexW.at_ l p == 69) = false from beq_eq_false_iff_ne.mpr h3, h5f]
        rfl
  · rw [if_neg (by omega), if_neg h1, h5f]
    rfl
def RefP.fin2 (l : List Int) (p : Nat) : Option Nat × Nat := if (LexW.frac l p).1.isSome = true then LexW.frac l p else LexW.expo l (LexW.frac l p).2
theorem RefP.num3 (l : List Int) (hm : l.length < 4611686018427387904) (k p : Nat) (hp : p < l.length) (hk : l.length + 10 < k) : caliperref04_number.j3 k l (p : Int) true = some (RefW.toR (if (LexW.digits l (p + 1)).1.isSome = true then LexW.digits l (p + 1) else LexW.expo l (LexW.digits l (p + 1)).2)) := by
  obtain ⟨k, rfl⟩ : ∃ k', k = k' + 1 := ⟨k - 1, by omega⟩
  rw [caliperref04_number.j3, if_pos rfl, RefP.w641 (by omega), RefP.digs l hm (p + 1) k hp (by omega)]
  exact RefP.split (LexW.digits l (p + 1)) (RefP.dig_pos l (p + 1)) (fun x => caliperref04_number.j4 k l x) (LexW.expo l) (fun _ => RefP.num4 l hm k _ (LexW.digits_le (r := (LexW.digits l (p + 1)).1) rfl hp) (by omega))
theorem RefP.num2 (l : List Int) (hm : l.length < 4611686018427387904) (k p : Nat) (hp : p ≤ l.length) (hk : l.length + 12 < k) : caliperref04_number.j2 k l (p : Int) = some (RefW.toR (RefP.fin2 l p)) := by
  obtain ⟨k, rfl⟩ : ∃ k', k = k' + 1 := ⟨k - 1, by omega⟩
  have h3f : caliperref04_number.j3 k l (p : Int) false = some (RefW.toR (LexW.expo l p)) := by
    obtain ⟨k, rfl⟩ : ∃ k', k = k' + 1 := ⟨k - 1, by omega⟩
    rw [caliperref04_number.j3, if_neg (by decide)]
    exact RefP.num4 l hm k p hp (by omega)
  unfold RefP.fin2 LexW.frac
  rw [caliperref04_number.j2, RefP.may1]
  by_cases h1 : p < l.length
  · rw [if_pos (by omega), if_pos (by omega), RefP.rd_at, if_pos h1]
    by_cases h2 : LexW.at_ l p = 46
    · rw [if_pos h2, show (LexW.at_ l p == 46) = true from beq_iff_eq.mpr h2, RefP.num3 l hm k p h1 (by omega)]
      rfl
    · rw [if_neg h2, show (LexW.at_ l p == 46) = false from beq_eq_false_iff_ne.mpr h2, h3f]
      rfl
  · rw [if_neg (by omega), if_neg h1, h3f]
    rfl
theorem RefP.num1 (l : List Int) (hm : l.length < 4611686018427387904) (k p : Nat) (z : Bool) (hp : p ≤ l.length) (hz : z = true → p < l.length) (hk : l.length + 14 < k) : caliperref04_number.j1 k l (p : Int) z = some (RefW.toR (if z = true then RefP.fin2 l (p + 1) else if (LexW.digits l p).1.isSome = true then LexW.digits l p else RefP.fin2 l (LexW.digits l p).2)) := by
  obtain ⟨k, rfl⟩ : ∃ k', k = k' + 1 := ⟨k - 1, by omega⟩
  rw [caliperref04_number.j1]
  cases z with
  | true =>
    have := hz rfl
    rw [if_pos rfl, if_pos rfl, RefP.w641 (by omega)]
    exact RefP.num2 l hm k (p + 1) (by omega) (by omega)
  | false =>
    rw [if_neg (by decide), if_neg (by decide), RefP.digs l hm p k hp (by omega)]
    exact RefP.split (LexW.digits l p) (RefP.dig_pos l p) (fun x => caliperref04_number.j2 k l x) (RefP.fin2 l) (fun _ => RefP.num2 l hm k _ (LexW.digits_le (r := (LexW.digits l p).1) rfl hp) (by omega))
theorem RefP.num0 (l : List Int) (hm : l.length < 4611686018427387904) (k p : Nat) (hp : p ≤ l.length) (hk : l.length + 16 < k) : caliperref04_number.j0 k l (p : Int) = some (RefW.toR (if (LexW.int_ l p).1.isSome = true then LexW.int_ l p else RefP.fin2 l (LexW.int_ l p).2)) := by
  obtain ⟨k, rfl⟩ : ∃ k', k = k' + 1 := ⟨k - 1, by omega⟩
  unfold LexW.int_
  rw [caliperref04_number.j0, RefP.may1]
  by_cases h1 : p < l.length
  · rw [if_pos (by omega), if_pos (by omega), RefP.rd_at, if_pos h1]
    by_cases h2 : LexW.at_ l p = 48
    · rw [if_pos h2, show (LexW.at_ l p == 48) = true from beq_iff_eq.mpr h2, RefP.num1 l hm k p true hp (fun _ => h1) (by omega)]
      rfl
    · rw [if_neg h2, show (LexW.at_ l p == 48) = false from beq_eq_false_iff_ne.mpr h2, RefP.num1 l hm k p false hp (fun h => by cases h) (by omega)]
      rfl
  · rw [if_neg (by omega), if_neg h1, RefP.num1 l hm k p false hp (fun h => by cases h) (by omega)]
    rfl
theorem RefP.number (l : List Int) (hm : l.length < 4611686018427387904) (p : Nat) (hp : p < l.length) : ∃ k', caliperref04_number.f k' l (p : Int) = some (RefW.toR (LexW.number l p)) := by
  refine ⟨l.length + 17, ?_⟩
  have e : ∀ q, (if (LexW.int_ l q).1.isSome = true then LexW.int_ l q else RefP.fin2 l (LexW.int_ l q).2) = (if (LexW.int_ l q).1.isSome = true then LexW.int_ l q else if (LexW.frac l (LexW.int_ l q).2).1.isSome = true then LexW.frac l (LexW.int_ l q).2 else LexW.expo l (LexW.frac l (LexW.int_ l q).2).2) := fun q => rfl
  unfold caliperref04_number.f LexW.number
  rw [if_pos (by omega), if_pos (by omega), RefP.rd_at, RefP.may1, if_pos hp]
  by_cases h : LexW.at_ l p = 45
  · rw [if_pos h, RefP.w641 (by omega), RefP.num0 l hm _ (p + 1) (by omega) (by omega), e]
    simp only [h, if_true]
  · rw [if_neg h, RefP.num0 l hm _ p (by omega) (by omega), e]
    simp only [h, if_false]

-- GIVEN plain making
def RefW.toF : Option Nat × Int × Nat → Int × Int × Int
  | (none, n, q) => (n, (q : Int), 0)
  | (some e, _, _) => (0, 0, (e : Int))
theorem RefP.hex (c : Int) (h0 : 0 ≤ c) (h1 : c ≤ 255) (k : Nat) (hk : 0 < k) : caliperref04_Hex.f k c = some (LexW.hex c) := by
  obtain ⟨k, rfl⟩ : ∃ k', k = k' + 1 := ⟨k - 1, by omega⟩
  unfold caliperref04_Hex.f LexW.hex
  rw [RefP.digit_f]
  simp only [Option.bind_some]
  unfold LexW.digit
  by_cases a : 48 ≤ c ∧ c ≤ 57
  · rw [if_pos a, if_pos (by simp [a.1, a.2])]; congr 1; omega
  · rw [if_neg a, if_neg (by simp; omega)]
    by_cases b : 97 ≤ c ∧ c ≤ 102
    · rw [if_pos b, if_pos b.1]
      simp only [caliperref04_Hex.j0]
      rw [if_pos (by simp [b.2])]
      congr 1; omega
    · rw [if_neg b]
      have hj : (if c ≥ 97 then caliperref04_Hex.j0 (k + 1) c (decide (c ≤ 102)) else caliperref04_Hex.j0 (k + 1) c false) = (if c ≥ 65 then (if c ≤ 70 then (some (((c - 65) % 256) + 10)) else (some (-1))) else (some (-1))) := by
        by_cases d : c ≥ 97
        · rw [if_pos d]
          simp only [caliperref04_Hex.j0]
          rw [if_neg (by simp; omega)]
        · rw [if_neg d]
          simp only [caliperref04_Hex.j0]
          rw [if_neg (by decide)]
      rw [hj]
      by_cases d : 65 ≤ c ∧ c ≤ 70
      · rw [if_pos d, if_pos d.1, if_pos d.2]; congr 1; omega
      · rw [if_neg d]
        by_cases e : c ≥ 65
        · rw [if_pos e, if_neg (by omega)]
        · rw [if_neg e]
def RefP.T : Bool → Nat → Int → Bool
  | true => LexW.T2
  | false => LexW.T1
theorem RefP.four_l (l : List Int) (hm : l.length < 4611686018427387904) (hby : ∀ p, 0 ≤ LexW.at_ l p ∧ LexW.at_ l p ≤ 255) (p : Nat) (low : Bool) : ∀ (m i : Nat) (n : Int) (k : Nat), 4 - i = m → i ≤ 4 → p + i ≤ l.length → 0 ≤ n → (i = 0 ∧ n = 0 ∨ i = 1 ∧ n < 16 ∨ i = 2 ∧ n < 256 ∨ i = 3 ∧ n < 4096 ∨ i = 4 ∧ n < 65536) → 2 * m + 2 < k →
    caliperref04_four.l0 k l (p : Int) low n (i : Int) = some (RefW.toF (LexW.four (RefP.T low) l m i n (p + i))) := by
  intro m
  induction m with
  | zero =>
    intro i n k h1 h2 h3 h4 h5 hk
    obtain ⟨k, rfl⟩ : ∃ k', k = k' + 1 := ⟨k - 1, by omega⟩
    rw [caliperref04_four.l0, if_neg (by omega), LexW.four]
    unfold RefW.toF
    dsimp only
    rw [show wrap64 ((p : Int) + 4) = ((p + i : Nat) : Int) by unfold wrap64; omega]
  | succ m ih =>
    intro i n k h1 h2 h3 h4 h5 hk
    obtain ⟨k, rfl⟩ : ∃ k', k = k' + 1 + 1 := ⟨k - 2, by omega⟩
    have hi4 : i < 4 := by omega
    have hn : n < 4096 := by omega
    rw [caliperref04_four.l0, if_pos (by omega), RefP.w64 (by omega), LexW.four]
    by_cases hp : p + i < l.length
    · have hh := LexT.hex_lt (LexW.at_ l (p + i))
      rw [if_neg (by omega), if_pos (by omega), if_pos (by omega), RefP.rd_at, RefP.hex _ (hby _).1 (hby _).2 _ (by omega), if_pos hp]
      simp only [Option.bind_some]
      obtain ⟨d, hd⟩ : ∃ d, d = LexW.hex (LexW.at_ l (p + i)) := ⟨_, rfl⟩
      rw [caliperref04_four.j1, RefP.w64 (by omega)]
      rw [← hd] at hh ⊢
      by_cases hd0 : 0 ≤ d
      · rw [if_neg (by simp; omega), if_pos hd0, if_pos (by omega), if_pos (by omega), RefP.rd_at]
        have hk0 : 0 < k := by omega
        rw [RefP.hex _ (hby _).1 (hby _).2 _ hk0, ← hd]
        simp only [Option.bind_some]
        have hw : wrap64 (wrap64 (16 * n) + d) = n * 16 + d := by unfold wrap64; omega
        rw [hw, RefP.w641 (show i + 1 < 9223372036854775808 by omega), RefP.w641 (show p + i + 1 < 9223372036854775808 by omega)]
        have ih' := ih (i + 1) (n * 16 + d) k (by omega) (by omega) (by omega) (by omega) (by omega) (by omega)
        rw [show p + (i + 1) = p + i + 1 by omega] at ih'
        cases low with
        | true =>
          rw [if_pos rfl]
          show _ = some (RefW.toF (if LexW.T2 i (n * 16 + d) = true then _ else _))
          unfold LexW.T2
          by_cases i0 : i = 0
          · subst i0
            have hn0 : n = 0 := by omega
            subst hn0
            rw [if_pos (by omega)]
            by_cases c1 : (0 : Int) * 16 + d = 13
            · rw [if_pos c1, if_neg (by omega), ih', if_pos (by simp; omega)]
              all_goals rfl
            · rw [if_neg c1, if_neg (by simp; omega)]
              all_goals rfl
          · rw [if_neg (by omega)]
            by_cases i1 : i = 1
            · subst i1
              rw [if_pos (by omega)]
              by_cases c1 : n * 16 + d < 220
              · rw [if_pos c1, if_neg (by simp; omega)]
                all_goals rfl
              · rw [if_neg c1, ih', if_pos (by simp; omega)]
                all_goals rfl
            · rw [if_neg (by omega), ih', if_pos (by simp; omega)]
              all_goals rfl
        | false =>
          rw [if_neg (by decide)]
          show _ = some (RefW.toF (if LexW.T1 i (n * 16 + d) = true then _ else _))
          unfold LexW.T1
          by_cases i1 : i = 1
          · subst i1
            rw [if_pos (by omega)]
            by_cases c1 : n * 16 + d ≥ 220
            · rw [if_pos c1]
              by_cases c2 : n * 16 + d ≤ 223
              · rw [if_pos c2, if_neg (by simp; omega)]
                all_goals rfl
              · rw [if_neg c2, ih', if_pos (by simp; omega)]
                all_goals rfl
            · rw [if_neg c1, ih', if_pos (by simp; omega)]
              all_goals rfl
          · rw [if_neg (by omega), ih', if_pos (by simp [i1])]
            all_goals rfl
      · rw [if_pos (by simp; omega), if_neg hd0, RefP.w641 (by omega)]
        all_goals rfl
    · rw [if_pos (by omega), caliperref04_four.j1, if_pos rfl, if_neg hp, RefP.w64 (by omega), RefP.w641 (by omega)]
      all_goals rfl
theorem RefP.four (l : List Int) (hm : l.length < 4611686018427387904) (hby : ∀ p, 0 ≤ LexW.at_ l p ∧ LexW.at_ l p ≤ 255) (p : Nat) (low : Bool) (k : Nat) (hk : 10 < k) (hp : p ≤ l.length) : caliperref04_four.f k l (p : Int) low = some (RefW.toF (LexW.four (RefP.T low) l 4 0 0 p)) := by
  have h := RefP.four_l l hm hby p low 4 0 0 k rfl (by omega) (by omega) (by omega) (.inl ⟨rfl, rfl⟩) (by omega)
  unfold caliperref04_four.f
  simpa using h

-- GIVEN plain making
section
variable (l : List Int) (hm : l.length < 4611686018427387904) (hby : ∀ p, 0 ≤ LexW.at_ l p ∧ LexW.at_ l p ≤ 255) (p : Nat) (hp : p < l.length)
theorem RefP.esc_step (hm : l.length < 4611686018427387904) (hp : p < l.length) (i i2 x y : Int) (hx : bt (⟨#[34, 92, 47, 98, 102, 110, 114, 116]⟩ : ByteArray) i = x) (hy : bt (⟨#[34, 92, 47, 8, 12, 10, 13, 9]⟩ : ByteArray) i = y) (hj : 0 ≤ i ∧ i < 8) (hi : wrap64 (i + 1) = i2) (hy0 : 0 ≤ y ∧ y ≤ 255) (k : Nat) :
    caliperref04_escape.l0 (k + 1) l (p : Int) (⟨#[34, 92, 47, 98, 102, 110, 114, 116]⟩ : ByteArray) (⟨#[34, 92, 47, 8, 12, 10, 13, 9]⟩ : ByteArray) i = if LexW.at_ l p = x then some (y, ((p + 1 : Nat) : Int), 0) else caliperref04_escape.l0 k l (p : Int) (⟨#[34, 92, 47, 98, 102, 110, 114, 116]⟩ : ByteArray) (⟨#[34, 92, 47, 8, 12, 10, 13, 9]⟩ : ByteArray) i2 := by
  have hs1 : ((⟨#[34, 92, 47, 98, 102, 110, 114, 116]⟩ : ByteArray).size : Int) = 8 := rfl
  have hs2 : ((⟨#[34, 92, 47, 8, 12, 10, 13, 9]⟩ : ByteArray).size : Int) = 8 := rfl
  rw [caliperref04_escape.l0, hs1, hs2, if_pos hj.2, if_pos (by omega), if_pos (by omega), if_pos hj.1, RefP.rd_at, hx, hy]
  by_cases h : LexW.at_ l p = x
  · rw [if_pos h, if_pos h, if_pos hj.2, RefP.w641 (by omega), show wrap64 y = y by unfold wrap64; omega]
  · rw [if_neg h, if_neg h, hi]
theorem RefP.ev_exactly1 (c : Int) : LexW.exactly [c] l p = if p < l.length then (if LexW.at_ l p = c then (none, p + 1) else (some (p + 1), p)) else (some (p + 1), p) := by
  rw [LexW.exactly]
  unfold LexW.must
  by_cases h1 : p < l.length
  · rw [if_pos h1, if_pos h1]
    by_cases h2 : LexW.at_ l p = c
    · simp [h2, LexW.exactly]
    · simp [h2]
  · rw [if_neg h1, if_neg h1]
    simp
end
theorem RefP.hi_gap {b : List Int} {nr : Int} {p q : Nat} (h : LexW.four LexW.T1 b 4 0 0 p = (none, nr, q)) : nr < 56320 ∨ nr > 57343 := by
  obtain ⟨a, b1, c, d, a0, a1, b0, b2, c0, c1, d0, d1, t0, t1, e⟩ := LexW.four_all h
  have k1 : a * 16 + b1 < 220 ∨ a * 16 + b1 > 223 := by simpa [LexW.T1] using t1
  omega
theorem RefP.esc_tail (l : List Int) (hm : l.length < 4611686018427387904) (hby : ∀ p, 0 ≤ LexW.at_ l p ∧ LexW.at_ l p ≤ 255) (hi : Int) (q : Nat) (hq : q ≤ l.length) {p0 q0 : Nat} (h4 : LexW.four LexW.T1 l 4 0 0 p0 = (none, hi, q0)) (h1 : ¬ hi < 55296) (h2 : ¬ hi > 57343) (k : Nat) (hk : 20 < k) :
    caliperref04_escape.l1 k l hi (q : Int) (⟨#[92, 117]⟩ : ByteArray) 0 = some (RefW.toF (LexW.tail2 l hi q)) := by
  obtain ⟨k, rfl⟩ : ∃ k', k = k' + 1 + 1 + 1 := ⟨k - 3, by omega⟩
  have hs : ((⟨#[92, 117]⟩ : ByteArray).size : Int) = 2 := rfl
  have hex : LexW.exactly [92, 117] l q = if q < l.length then (if LexW.at_ l q = 92 then LexW.exactly [117] l (q + 1) else (some (q + 1), q)) else (some (q + 1), q) := by
    rw [LexW.exactly]
    unfold LexW.must
    by_cases h1 : q < l.length
    · rw [if_pos h1, if_pos h1]
      by_cases h2 : LexW.at_ l q = 92
      · simp [h2]
      · simp [h2]
    · rw [if_neg h1, if_neg h1]
      simp
  unfold LexW.tail2
  rw [hex, caliperref04_escape.l1, hs, if_pos (by decide), show wrap64 ((q : Int) + 0) = (q : Int) by unfold wrap64; omega]
  by_cases a1 : q < l.length
  · rw [if_neg (by omega), if_pos (by omega), if_pos (by omega), if_pos (by omega), if_pos (by decide), RefP.rd_at, show bt (⟨#[92, 117]⟩ : ByteArray) 0 = 92 from by decide]
    by_cases a2 : LexW.at_ l q = 92
    · rw [if_pos a2, if_pos a1, if_pos a2, RefP.ev_exactly1, caliperref04_escape.l1, hs, show wrap64 ((0 : Int) + 1) = 1 by unfold wrap64; omega, if_pos (by decide), RefP.w641 (by omega)]
      by_cases a3 : q + 1 < l.length
      · rw [if_neg (by omega), if_pos (by omega), if_pos (by omega), if_pos (by omega), if_pos (by decide), RefP.rd_at, show bt (⟨#[92, 117]⟩ : ByteArray) 1 = 117 from by decide, if_pos a3]
        by_cases a4 : LexW.at_ l (q + 1) = 117
        · rw [if_pos a4, if_pos a4, caliperref04_escape.l1, show wrap64 ((1 : Int) + 1) = 2 by unfold wrap64; omega, if_neg (by decide), show wrap64 ((q : Int) + 2) = ((q + 1 + 1 : Nat) : Int) by unfold wrap64; omega, RefP.four l hm hby (q + 1 + 1) true _ (by omega) (by omega)]
          simp only [Option.isSome_none, Bool.false_eq_true, if_false, Option.bind_some]
          show _ = some (RefW.toF (if (LexW.four LexW.T2 l 4 0 0 (q + 1 + 1)).1.isSome = true then _ else _))
          rw [show RefP.T true = LexW.T2 from rfl]
          rcases h7 : LexW.four LexW.T2 l 4 0 0 (q + 1 + 1) with ⟨r7, lo, q7⟩
          cases r7 with
          | some e =>
            have := LexW.four_pos _ _ _ h7
            rw [show RefW.toF (some e, lo, q7) = (0, 0, (e : Int)) from rfl]
            dsimp only
            rw [if_pos (by omega)]
            rfl
          | none =>
            have g1 := LexW.four_range _ _ _ _ _ h4 (by decide)
            have g2 := LexW.four_range _ _ _ _ _ h7 (by decide)
            obtain ⟨r, e1, e2⟩ := Pure.pair_eq hi lo (by omega) (by omega)
            rw [LexW.pair_f h4 h1 h2 h7] at e1
            cases e1
            rw [show RefW.toF (none, lo, q7) = (lo, (q7 : Int), 0) from rfl]
            dsimp only
            rw [if_neg (by decide), e2]
            rfl
        · rw [if_neg a4, if_neg a4, RefP.w641 (by omega)]
          rfl
      · rw [if_pos (by omega), if_neg a3, RefP.w641 (by omega)]
        rfl
    · rw [if_neg a2, if_pos a1, if_neg a2, RefP.w641 (by omega)]
      rfl
  · rw [if_pos (by omega), if_neg a1, RefP.w641 (by omega)]
    rfl
theorem RefP.esc_u (l : List Int) (hm : l.length < 4611686018427387904) (hby : ∀ p, 0 ≤ LexW.at_ l p ∧ LexW.at_ l p ≤ 255) (p : Nat) (hp : p < l.length) (k : Nat) (hk : 30 < k) :
    caliperref04_escape.l0 k l (p : Int) (⟨#[34, 92, 47, 98, 102, 110, 114, 116]⟩ : ByteArray) (⟨#[34, 92, 47, 8, 12, 10, 13, 9]⟩ : ByteArray) 8 = some (RefW.toF (LexW.uesc l p)) := by
  obtain ⟨k, rfl⟩ : ∃ k', k = k' + 1 + 1 := ⟨k - 2, by omega⟩
  have hs1 : ((⟨#[34, 92, 47, 98, 102, 110, 114, 116]⟩ : ByteArray).size : Int) = 8 := rfl
  unfold LexW.uesc
  rw [caliperref04_escape.l0, hs1, if_neg (by decide), if_pos (by omega), if_pos (by omega), RefP.rd_at, RefP.ev_exactly1, if_pos hp]
  by_cases a1 : LexW.at_ l p = 117
  · rw [if_pos a1, if_pos a1, RefP.w641 (by omega), RefP.four l hm hby (p + 1) false _ (by omega) (by omega), show RefP.T false = LexW.T1 from rfl]
    simp only [Option.isSome_none, Bool.false_eq_true, if_false, Option.bind_some]
    rcases h4 : LexW.four LexW.T1 l 4 0 0 (p + 1) with ⟨r4, hi, q4⟩
    have l4 := LexW.four_le _ _ _ _ _ h4 (by omega)
    cases r4 with
    | some e =>
      have := LexW.four_pos _ _ _ h4
      rw [show RefW.toF (some e, hi, q4) = (0, 0, (e : Int)) from rfl]
      dsimp only
      rw [if_pos (by omega), caliperref04_escape.j1, if_pos rfl]
      rfl
    | none =>
      have hg := RefP.hi_gap h4
      rw [show RefW.toF (none, hi, q4) = (hi, (q4 : Int), 0) from rfl]
      dsimp only
      rw [if_neg (by decide)]
      simp only [Option.isSome_none, Bool.false_eq_true, if_false]
      by_cases a2 : hi < 55296
      · rw [if_pos a2, if_pos a2, caliperref04_escape.j1, if_pos rfl]
        all_goals rfl
      · rw [if_neg a2, if_neg a2, caliperref04_escape.j1]
        by_cases a3 : hi > 57343
        · rw [if_pos a3, if_pos (by simp; omega)]
          all_goals rfl
        · rw [if_neg a3, if_neg (by simp; omega), RefP.esc_tail l hm hby hi q4 l4 h4 a2 a3 k (by omega)]
  · rw [if_neg a1, if_neg a1, RefP.w641 (by omega)]
    rfl
theorem RefP.escape (l : List Int) (hm : l.length < 4611686018427387904) (hby : ∀ p, 0 ≤ LexW.at_ l p ∧ LexW.at_ l p ≤ 255) (p : Nat) (hp : p ≤ l.length) (k : Nat) (hk : 50 < k) : caliperref04_escape.f k l (p : Int) = some (RefW.toF (LexW.escape l p)) := by
  unfold caliperref04_escape.f LexW.escape
  by_cases h : p < l.length
  · rw [if_neg (by omega), if_pos h]
    obtain ⟨k, rfl⟩ : ∃ k', k = k' + 1 + 1 + 1 + 1 + 1 + 1 + 1 + 1 := ⟨k - 8, by omega⟩
    have hu := RefP.esc_u l hm hby p h k (by omega)
    have S := RefP.esc_step l p hm h
    obtain ⟨c, hc⟩ : ∃ c, c = LexW.at_ l p := ⟨_, rfl⟩
    rw [← hc] at S ⊢
    rw [S 0 1 34 34 (by decide) (by decide) (by decide) (by unfold wrap64; omega) (by decide)]
    by_cases c0 : c = 34
    · rw [if_pos c0, c0, show LexW.idx 34 LexW.escFrom = 0 by decide, if_pos (by decide)]; rfl
    · rw [if_neg c0]
      rw [S 1 2 92 92 (by decide) (by decide) (by decide) (by unfold wrap64; omega) (by decide)]
      by_cases c1 : c = 92
      · rw [if_pos c1, c1, show LexW.idx 92 LexW.escFrom = 1 by decide, if_pos (by decide)]; rfl
      · rw [if_neg c1]
        rw [S 2 3 47 47 (by decide) (by decide) (by decide) (by unfold wrap64; omega) (by decide)]
        by_cases c2 : c = 47
        · rw [if_pos c2, c2, show LexW.idx 47 LexW.escFrom = 2 by decide, if_pos (by decide)]; rfl
        · rw [if_neg c2]
          rw [S 3 4 98 8 (by decide) (by decide) (by decide) (by unfold wrap64; omega) (by decide)]
          by_cases c3 : c = 98
          · rw [if_pos c3, c3, show LexW.idx 98 LexW.escFrom = 3 by decide, if_pos (by decide)]; rfl
          · rw [if_neg c3]
            rw [S 4 5 102 12 (by decide) (by decide) (by decide) (by unfold wrap64; omega) (by decide)]
            by_cases c4 : c = 102
            · rw [if_pos c4, c4, show LexW.idx 102 LexW.escFrom = 4 by decide, if_pos (by decide)]; rfl
            · rw [if_neg c4]
              rw [S 5 6 110 10 (by decide) (by decide) (by decide) (by unfold wrap64; omega) (by decide)]
              by_cases c5 : c = 110
              · rw [if_pos c5, c5, show LexW.idx 110 LexW.escFrom = 5 by decide, if_pos (by decide)]; rfl
              · rw [if_neg c5]
                rw [S 6 7 114 13 (by decide) (by decide) (by decide) (by unfold wrap64; omega) (by decide)]
                by_cases c6 : c = 114
                · rw [if_pos c6, c6, show LexW.idx 114 LexW.escFrom = 6 by decide, if_pos (by decide)]; rfl
                · rw [if_neg c6]
                  rw [S 7 8 116 9 (by decide) (by decide) (by decide) (by unfold wrap64; omega) (by decide)]
                  by_cases c7 : c = 116
                  · rw [if_pos c7, c7, show LexW.idx 116 LexW.escFrom = 7 by decide, if_pos (by decide)]; rfl
                  · rw [if_neg c7]
                    have hx : LexW.idx c LexW.escFrom = -1 := by unfold LexW.escFrom; simp [LexW.idx, Ne.symm c0, Ne.symm c1, Ne.symm c2, Ne.symm c3, Ne.symm c4, Ne.symm c5, Ne.symm c6, Ne.symm c7]
                    rw [hx, if_neg (by decide), hu]
  · rw [if_pos (by omega), if_neg h, RefP.w641 (by omega)]
    rfl

-- GIVEN plain making
theorem RefP.tq_stop (l : List Int) (p : Nat) (h : ¬ (p < l.length ∧ LexW.plain (LexW.at_ l p) = true)) : LexW.tq l p = p := by
  unfold LexW.tq
  rw [LexW.pass]
  by_cases h1 : p < l.length
  · rw [if_pos h1, if_neg (fun h2 => h ⟨h1, h2⟩)]
  · rw [if_neg h1]
theorem RefP.tq_go (l : List Int) (p : Nat) (h1 : p < l.length) (h2 : LexW.plain (LexW.at_ l p) = true) : LexW.tq l p = LexW.tq l (p + 1) := by
  unfold LexW.tq
  conv => lhs; rw [LexW.pass, if_pos h1, if_pos h2]
theorem RefP.tq_ge (l : List Int) : ∀ (i p : Nat), (∀ j, j < i → p + j < l.length ∧ LexW.plain (LexW.at_ l (p + j)) = true) → p + i ≤ LexW.tq l p ∧ LexW.tq l (p + i) = LexW.tq l p := by
  intro i
  induction i with
  | zero => intro p _; exact ⟨LexW.le_pass _ _ _ _ rfl, rfl⟩
  | succ i ih =>
    intro p h
    obtain ⟨a, b⟩ := h 0 (by omega)
    obtain ⟨c, d⟩ := ih (p + 1) (fun j hj => by have := h (j + 1) (by omega); rwa [show p + (j + 1) = p + 1 + j by omega] at this)
    have e := RefP.tq_go l p a b
    exact ⟨by omega, by rw [show p + (i + 1) = p + 1 + i by omega, d, ← e]⟩
/-- Where a run of plain bytes ends. -/
theorem RefP.tq_end (l : List Int) : ∀ (n p : Nat), l.length - p = n → ¬ (LexW.tq l p < l.length ∧ LexW.plain (LexW.at_ l (LexW.tq l p)) = true) := by
  intro n
  induction n with
  | zero =>
    intro p hn
    rw [RefP.tq_stop l p (by omega)]
    omega
  | succ n ih =>
    intro p hn
    by_cases h : p < l.length ∧ LexW.plain (LexW.at_ l p) = true
    · rw [RefP.tq_go l p h.1 h.2]
      exact ih (p + 1) (by omega)
    · rw [RefP.tq_stop l p h]
      exact h
theorem RefP.mid_cons (l : List Int) (p q : Nat) (h : p < q) (hq : q ≤ l.length) : (l.take q).drop p = LexW.at_ l p :: (l.drop (p + 1)).take (q - (p + 1)) := by
  have h1 : p < (l.take q).length := by rw [List.length_take]; omega
  rw [List.drop_eq_getElem_cons h1, List.drop_take]
  congr 1
  rw [List.getElem_take]
  unfold LexW.at_
  rw [List.getD_eq_getElem?_getD, List.getElem?_eq_getElem (by omega)]
  rfl
theorem RefP.mid_app (l : List Int) (p q r : Nat) (h : p ≤ q) (hr : q ≤ r) : (l.take q).drop p ++ (l.take r).drop q = (l.take r).drop p := by
  rw [List.drop_take, List.drop_take, List.drop_take]
  have e : (l.drop p).take (r - p) = (l.drop p).take ((q - p) + (r - q)) := by congr 1; omega
  rw [e, List.take_add, List.drop_drop, show p + (q - p) = q by omega]
theorem RefP.drop_at (l : List Int) (p j : Nat) : (l.drop p).getD j 0 = LexW.at_ l (p + j) := by
  unfold LexW.at_
  rw [List.getD_eq_getElem?_getD, List.getD_eq_getElem?_getD, List.getElem?_drop]
theorem RefP.plain_of {c : Int} (h : 128 ≤ c) : LexW.plain c = true := by
  unfold LexW.plain
  have a : decide (32 ≤ c) = true := decide_eq_true (by omega)
  have b : (c != 34) = true := by simp; omega
  have d : (c != 92) = true := by simp; omega
  rw [a, b, d]
  rfl
theorem RefP.plain_iff {c : Int} : LexW.plain c = true ↔ 32 ≤ c ∧ c ≠ 34 ∧ c ≠ 92 := by
  unfold LexW.plain
  simp [Bool.and_eq_true, and_assoc]
section
variable (l : List Int) (hm : l.length < 140737488355300) (p : Nat)
def RefP.G (i : Nat) : Int × Bool := Utf.good ((l.take (p + i)).drop p)
theorem RefP.l1_ev (hm : l.length < 140737488355300) (c : Int) : ∀ (m a : Nat), 4 - a = m → 1 ≤ a → a ≤ 4 → p + a ≤ l.length → ∃ n, a ≤ n ∧ n ≤ 4 ∧ p + n ≤ l.length ∧ (c ≥ 192 → ∀ i, (∀ j, a ≤ j → j ≤ i → p + j < l.length ∧ 128 ≤ LexW.at_ l (p + j) ∧ LexW.at_ l (p + j) ≤ 191) → i ≤ 3 → i + 1 ≤ n) ∧
    ∀ (o : List Int) (X : ByteArray × Int × Int), Ev (fun k => caliperref04_text.j2 k l (p : Int) o (n : Int)) X → Ev (fun k => caliperref04_text.l1 k l (p : Int) o c (a : Int)) X := by
  intro m
  induction m with
  | zero =>
    intro a h1 h2 h3 h4
    refine ⟨a, Nat.le_refl _, h3, h4, fun _ i _ hi => by omega, fun o X hX => Ev.step (fun k => ?_) hX⟩
    rw [caliperref04_text.l1, if_neg (by omega)]
  | succ m ih =>
    intro a h1 h2 h3 h4
    by_cases hc : p + a < l.length ∧ (128 ≤ LexW.at_ l (p + a) ∧ LexW.at_ l (p + a) ≤ 191) ∧ c ≥ 192
    · obtain ⟨n, n1, n2, n3, n4, n5⟩ := ih (a + 1) (by omega) (by omega) (by omega) (by omega)
      refine ⟨n, by omega, n2, n3, fun h i hi h3 => ?_, fun o X hX => Ev.step (fun k => ?_) (n5 o X hX)⟩
      · exact n4 h i (fun j hj => hi j (by omega)) h3
      · rw [caliperref04_text.l1, if_pos (by omega), RefP.w64 (by omega), if_pos (by omega), if_pos (by omega), RefP.rd_at, if_pos hc.2.1.1, if_pos hc.2.1.2, if_pos hc.2.2, RefP.w641 (by omega)]
    · refine ⟨a, Nat.le_refl _, h3, h4, fun h i hi h3 => ?_, fun o X hX => Ev.step (fun k => ?_) hX⟩
      · rcases Nat.lt_or_ge i a with h5 | h5
        · omega
        · have := hi a (Nat.le_refl _) h5
          exact absurd ⟨this.1, this.2, h⟩ hc
      · rw [caliperref04_text.l1, if_pos (by omega), RefP.w64 (by omega)]
        by_cases a1 : p + a < l.length
        · rw [if_pos (by omega), if_pos (by omega), RefP.rd_at]
          by_cases a2 : LexW.at_ l (p + a) ≥ 128
          · rw [if_pos a2]
            by_cases a3 : LexW.at_ l (p + a) ≤ 191
            · rw [if_pos a3, if_neg (fun a4 => hc ⟨a1, ⟨a2, a3⟩, a4⟩)]
            · rw [if_neg a3]
          · rw [if_neg a2]
        · rw [if_neg (by omega)]
theorem RefP.l2_bad (hm : l.length < 140737488355300) (o : List Int) (n : Nat) (hn : p + n ≤ l.length) (hn4 : n ≤ 4) : ∀ (m i : Nat) (g : Int), n + 1 - i = m → 1 ≤ i → i ≤ n + 1 → 0 ≤ g → g ≤ 4 → (∀ j, i ≤ j → j ≤ n → (RefP.G l p j).2 = false) →
    Ev (fun k => caliperref04_text.l2 k l (p : Int) o (n : Int) g false (i : Int)) ((⟨#[]⟩ : ByteArray), 0, (p : Int) + (if i ≤ n then (RefP.G l p n).1 else g) + 1) := by
  intro m
  induction m with
  | zero =>
    intro i g h1 h2 h3 g0 g4 hf
    refine Ev.step (f := fun _ => some ((⟨#[]⟩ : ByteArray), 0, (p : Int) + g + 1)) (fun k => ?_) (by rw [if_neg (by omega)]; exact Ev.now _)
    rw [caliperref04_text.l2, if_neg (by omega), if_neg (by decide), show wrap64 (wrap64 ((p : Int) + g) + 1) = (p : Int) + g + 1 by unfold wrap64; omega]
  | succ m ih =>
    intro i g h1 h2 h3 g0 g4 hf
    have hi : i ≤ n := by omega
    have hG := hf i (Nat.le_refl _) hi
    have hlen : ((l.take (p + i)).drop p).length = i := by rw [List.length_drop, List.length_take]; omega
    have hr := Utf.good_range ((l.take (p + i)).drop p)
    rw [hlen] at hr
    have hgd := Pure.rgood_ev ((l.take (p + i)).drop p) (by rw [hlen]; omega)
    refine Ev.step (f := fun k => (caliperref01_Good.f k ((l.take (p + i)).drop p)).bind fun b => caliperref04_text.l2 k l (p : Int) o (n : Int) b.1 b.2 ((i + 1 : Nat) : Int)) (fun k => ?_) ?_
    · rw [caliperref04_text.l2, if_pos (by omega), if_neg (by decide), if_pos (by omega), RefP.w64 (by omega), if_pos (by omega), if_pos (by omega), RefP.w641 (by omega)]
      simp only [Int.toNat_natCast]
    · refine Ev.bind hgd ?_
      have h := ih (i + 1) (RefP.G l p i).1 (by omega) (by omega) (by omega) (by unfold RefP.G; omega) (by unfold RefP.G; omega) (fun j a b => hf j (by omega) b)
      rw [show (Utf.good ((l.take (p + i)).drop p)).2 = false from hG]
      have e : (if i + 1 ≤ n then (RefP.G l p n).1 else (RefP.G l p i).1) = (if i ≤ n then (RefP.G l p n).1 else g) := by
        rw [if_pos hi]
        by_cases h : i + 1 ≤ n
        · rw [if_pos h]
        · rw [if_neg h, show i = n by omega]
      rw [e] at h
      exact h
theorem RefP.l2_ok (hm : l.length < 140737488355300) (o : List Int) (n : Nat) (hn : p + n ≤ l.length) (hn4 : n ≤ 4) (i0 : Nat) (hi0 : i0 ≤ n) (hG0 : RefP.G l p i0 = ((i0 : Int), true)) (ho : o.length + i0 < 140737488355328) (X : ByteArray × Int × Int) (hX : Ev (fun k => caliperref04_text.l0 k l ((p + i0 : Nat) : Int) (o ++ (l.take (p + i0)).drop p)) X) :
    ∀ (m i : Nat) (g : Int), i0 + 1 - i = m → 1 ≤ i → i ≤ i0 → (∀ j, i ≤ j → j < i0 → (RefP.G l p j).2 = false) → Ev (fun k => caliperref04_text.l2 k l (p : Int) o (n : Int) g false (i : Int)) X := by
  intro m
  induction m with
  | zero => intro i g h1 h2 h3 _; omega
  | succ m ih =>
    intro i g h1 h2 h3 hf
    have hlen : ((l.take (p + i)).drop p).length = i := by rw [List.length_drop, List.length_take]; omega
    have hgd := Pure.rgood_ev ((l.take (p + i)).drop p) (by rw [hlen]; omega)
    refine Ev.step (f := fun k => (caliperref01_Good.f k ((l.take (p + i)).drop p)).bind fun b => caliperref04_text.l2 k l (p : Int) o (n : Int) b.1 b.2 ((i + 1 : Nat) : Int)) (fun k => ?_) ?_
    · rw [caliperref04_text.l2, if_pos (by omega), if_neg (by decide), if_pos (by omega), RefP.w64 (by omega), if_pos (by omega), if_pos (by omega), RefP.w641 (by omega)]
      simp only [Int.toNat_natCast]
    · refine Ev.bind hgd ?_
      by_cases he : i = i0
      · subst he
        rw [show Utf.good ((l.take (p + i)).drop p) = ((i : Int), true) from hG0]
        dsimp only
        refine Ev.step (fun k => ?_) hX
        have e2 : (if o.length + ((l.take (p + i)).drop p).length < 140737488355328 then caliperref04_text.l0 k l ((p + i : Nat) : Int) (o ++ (l.take (p + i)).drop p) else none) = caliperref04_text.l0 k l ((p + i : Nat) : Int) (o ++ (l.take (p + i)).drop p) := if_pos (by rw [hlen]; exact ho)
        rw [caliperref04_text.l2, RefP.w64 (by omega)]
        simp only [Int.toNat_natCast, if_true]
        rw [if_pos (show (0 : Int) ≤ (p : Int) by omega), if_pos (show (p : Int) ≤ ((p + i : Nat) : Int) by omega), if_pos (show ((p + i : Nat) : Int) ≤ (l.length : Int) by omega), e2]
        split <;> rfl
      · have h := ih (i + 1) (RefP.G l p i).1 (by omega) (by omega) (by omega) (fun j a b => hf j (by omega) b)
        rw [show (Utf.good ((l.take (p + i)).drop p)).2 = false from hf i (Nat.le_refl _) (by omega)]
        exact h
end

-- GIVEN plain making
/-- One character of a run of plain bytes. -/
theorem RefP.round (l : List Int) (hm : l.length < 140737488355300) (p : Nat) (hp : p < l.length) (hpl : LexW.plain (LexW.at_ l p) = true) :
    (∃ m, p + m + 1 ≤ LexW.tq l p ∧ LexW.tq l (p + m + 1) = LexW.tq l p ∧ Utf.good (LexW.tpl l p) = (1 + (m : Int) + (Utf.good (LexW.tpl l (p + m + 1))).1, (Utf.good (LexW.tpl l (p + m + 1))).2) ∧
      ∀ (o : List Int) (X : ByteArray × Int × Int), o.length + (m + 1) < 140737488355328 → Ev (fun k => caliperref04_text.l0 k l ((p + m + 1 : Nat) : Int) (o ++ (l.take (p + m + 1)).drop p)) X → Ev (fun k => caliperref04_text.l0 k l (p : Int) o) X) ∨
    (∃ a : Int, Utf.good (LexW.tpl l p) = (a, false) ∧ ∀ o : List Int, Ev (fun k => caliperref04_text.l0 k l (p : Int) o) ((⟨#[]⟩ : ByteArray), 0, (p : Int) + a + 1)) := by
  obtain ⟨c, hc⟩ : ∃ c, c = LexW.at_ l p := ⟨_, rfl⟩
  rw [← hc] at hpl
  obtain ⟨hc1, hc2, hc3⟩ := RefP.plain_iff.mp hpl
  have htq : p + 1 ≤ LexW.tq l p := (RefP.tq_ge l 1 p (fun j hj => by
    have h0 : j = 0 := by omega
    subst h0
    exact ⟨hp, by rw [Nat.add_zero, ← hc]; exact hpl⟩)).1
  have htl : LexW.tq l p ≤ l.length := LexW.pass_le _ _ _ _ rfl (Nat.le_of_lt hp)
  have hT : LexW.tpl l p = c :: (l.drop (p + 1)).take (LexW.tq l p - (p + 1)) := by
    unfold LexW.tpl
    rw [RefP.mid_cons l p _ (by omega) htl, ← hc]
  -- the reference's way to its inner loops
  obtain ⟨n, n1, n2, n3, n4, n5⟩ := RefP.l1_ev l p hm c 3 1 rfl (by omega) (by omega) (by omega)
  have hstep : ∀ (o : List Int) (X : ByteArray × Int × Int), Ev (fun k => caliperref04_text.l2 k l (p : Int) o (n : Int) 0 false 1) X → Ev (fun k => caliperref04_text.l0 k l (p : Int) o) X := by
    intro o X hX
    refine Ev.step (fun k => ?_) (n5 o X (Ev.step (fun k => ?_) hX))
    · rw [caliperref04_text.l0, if_pos (by omega), if_pos (by omega), RefP.rd_at, ← hc, if_neg hc2, if_neg (by omega), if_neg hc3]
      rfl
    · rw [caliperref04_text.j2]
  have hG : ∀ i, 1 ≤ i → i ≤ n → RefP.G l p i = Utf.good (c :: (l.drop (p + 1)).take (i - 1)) := by
    intro i h1 h2
    unfold RefP.G
    rw [RefP.mid_cons l p (p + i) (by omega) (by omega), ← hc, show p + i - (p + 1) = i - 1 by omega]
  rcases TxA.goes_ge c with hg | hgz
  · refine .inr ⟨0, ?_, fun o => hstep o _ ?_⟩
    · rw [hT]; unfold Utf.good; rw [Utf.run_zero, hg, if_pos (by decide)]
    · have hall : ∀ i, 1 ≤ i → i ≤ n → RefP.G l p i = (0, false) := by
        intro i h1 h2
        rw [hG i h1 h2]; unfold Utf.good; rw [Utf.run_zero, hg, if_pos (by decide)]
      have h := RefP.l2_bad l p hm o n n3 n2 n 1 0 (by omega) (by omega) (by omega) (by omega) (by omega) (fun j a b => by rw [hall j a b])
      rw [if_pos n1, hall n n1 (Nat.le_refl _)] at h
      exact h
  · obtain ⟨m, hm0, hm3⟩ : ∃ m : Nat, (Utf.goes c).1 = (m : Int) ∧ m ≤ 3 := by
      rcases hgz with h | ⟨h | h | h, _⟩
      · exact ⟨0, h, by omega⟩
      · exact ⟨1, h, by omega⟩
      · exact ⟨2, h, by omega⟩
      · exact ⟨3, h, by omega⟩
    obtain ⟨ac, hac⟩ : ∃ x, x = TxA.acc m (Utf.goes c).2.1 (Utf.goes c).2.2 (l.drop (p + 1)) := ⟨_, rfl⟩
    have hal := TxA.acc_le m (Utf.goes c).2.1 (Utf.goes c).2.2 (l.drop (p + 1))
    rw [← hac, List.length_drop] at hal
    have hgt := fun j => TxA.good_take (c := c) (r := l.drop (p + 1)) hm0 j
    rw [← hac] at hgt
    have hcont : ∀ j, j < ac.1 → p + 1 + j < l.length ∧ 128 ≤ LexW.at_ l (p + 1 + j) ∧ LexW.at_ l (p + 1 + j) ≤ 191 := by
      intro j hj
      have hmp : 0 < m := by omega
      have hb : 128 ≤ (Utf.goes c).2.1 ∧ (Utf.goes c).2.2 ≤ 191 := by
        rcases hgz with h | ⟨_, h⟩
        · omega
        · exact h.2
      have h := TxA.acc_cont m (Utf.goes c).2.1 (Utf.goes c).2.2 (l.drop (p + 1)) hb.1 hb.2 j (by rw [← hac]; exact hj)
      rw [RefP.drop_at] at h
      exact ⟨by omega, h⟩
    have hacn : ac.1 + 1 ≤ n := by
      by_cases h0 : ac.1 = 0
      · omega
      · have hmp : 0 < m := by omega
        have hcc : c ≥ 192 := by
          rcases hgz with h | ⟨_, h⟩
          · omega
          · omega
        exact n4 hcc ac.1 (fun j a b => by have := hcont (j - 1) (by omega); rwa [show p + 1 + (j - 1) = p + j by omega] at this) (by omega)
    have hge := RefP.tq_ge l (ac.1 + 1) p (fun j hj => by
      cases j with
      | zero => exact ⟨hp, by rw [Nat.add_zero, ← hc]; exact hpl⟩
      | succ j =>
        have := hcont j (by omega)
        rw [show p + (j + 1) = p + 1 + j by omega]
        exact ⟨this.1, RefP.plain_of this.2.1⟩)
    by_cases hok : ac.2 = true
    · have ham := hal.2.2 hok
      rw [ham] at hge hacn hcont
      refine .inl ⟨m, by omega, by rw [show p + m + 1 = p + (m + 1) by omega]; exact hge.2, ?_, fun o X ho hX => hstep o X ?_⟩
      · rw [hT, hgt, if_pos ⟨hok, by omega⟩, TxA.shift]
        have e : ((l.drop (p + 1)).take (LexW.tq l p - (p + 1))).drop m = LexW.tpl l (p + m + 1) := by
          unfold LexW.tpl
          rw [show p + m + 1 = p + (m + 1) by omega, hge.2, List.drop_take, List.drop_take, List.drop_drop]
          congr 1
          · omega
          · congr 1; omega
        rw [e]
        rfl
      · refine RefP.l2_ok l p hm o n n3 n2 (m + 1) (by omega) ?_ ho X (by rw [show p + (m + 1) = p + m + 1 by omega]; exact hX) (m + 1) 1 0 (by omega) (Nat.le_refl _) (by omega) ?_
        · rw [hG (m + 1) (by omega) (by omega), hgt, if_pos ⟨hok, by omega⟩, Nat.add_sub_cancel]
          rw [List.drop_eq_nil_of_le (by rw [List.length_take]; omega), Utf.run]
          simp only [Prod.mk.injEq]
          exact ⟨by omega, rfl⟩
        · intro j a b
          rw [hG j a (by omega), hgt, if_neg (by omega)]
    · refine .inr ⟨1 + ((ac.1 : Nat) : Int), ?_, fun o => hstep o _ ?_⟩
      · rw [hT, hgt, if_neg (fun h => hok h.1), Nat.min_eq_right (by omega)]
      · have hall : ∀ i, 1 ≤ i → i ≤ n → RefP.G l p i = (1 + ((min (i - 1) ac.1 : Nat) : Int), false) := by
          intro i h1 h2
          rw [hG i h1 h2, hgt, if_neg (fun h => hok h.1)]
        have h := RefP.l2_bad l p hm o n n3 n2 n 1 0 (by omega) (by omega) (by omega) (by omega) (by omega) (fun j a b => by rw [hall j a b])
        rw [if_pos n1, hall n n1 (Nat.le_refl _), Nat.min_eq_right (by omega)] at h
        exact h

-- GIVEN plain making
/-- A whole run of plain bytes. -/
theorem RefP.runs (l : List Int) (hm : l.length < 140737488355300) : ∀ (d p : Nat), LexW.tq l p - p = d → p ≤ l.length →
    (∀ (o : List Int) (X : ByteArray × Int × Int), (Utf.good (LexW.tpl l p)).2 = true → o.length + (LexW.tpl l p).length < 140737488355328 → Ev (fun k => caliperref04_text.l0 k l (LexW.tq l p : Int) (o ++ LexW.tpl l p)) X → Ev (fun k => caliperref04_text.l0 k l (p : Int) o) X) ∧
    (∀ o : List Int, (Utf.good (LexW.tpl l p)).2 = false → o.length + (LexW.tpl l p).length < 140737488355328 → Ev (fun k => caliperref04_text.l0 k l (p : Int) o) ((⟨#[]⟩ : ByteArray), 0, (p : Int) + (Utf.good (LexW.tpl l p)).1 + 1)) := by
  intro d
  induction d using Nat.strongRecOn with
  | _ d ih =>
    intro p hd hp
    have hle : p ≤ LexW.tq l p := LexW.le_pass _ _ _ _ rfl
    have hql : LexW.tq l p ≤ l.length := LexW.pass_le _ _ _ _ rfl hp
    have hlen : (LexW.tpl l p).length = LexW.tq l p - p := by unfold LexW.tpl; rw [List.length_drop, List.length_take]; omega
    by_cases h : p < l.length ∧ LexW.plain (LexW.at_ l p) = true
    · rcases RefP.round l hm p h.1 h.2 with ⟨m, m1, m2, m3, m4⟩ | ⟨a, a1, a2⟩
      · obtain ⟨i1, i2⟩ := ih (LexW.tq l p - (p + m + 1)) (by omega) (p + m + 1) (by rw [m2]) (by omega)
        rw [m2] at i1
        have e1 : (l.take (p + m + 1)).drop p ++ LexW.tpl l (p + m + 1) = LexW.tpl l p := by
          unfold LexW.tpl
          rw [m2]
          exact RefP.mid_app l p (p + m + 1) (LexW.tq l p) (by omega) m1
        have e2 : (LexW.tpl l (p + m + 1)).length = LexW.tq l p - (p + m + 1) := by unfold LexW.tpl; rw [m2, List.length_drop, List.length_take]; omega
        have e3 : ((l.take (p + m + 1)).drop p).length = m + 1 := by rw [List.length_drop, List.length_take]; omega
        refine ⟨fun o X hg ho hX => ?_, fun o hg ho => ?_⟩
        · refine m4 o X (by omega) (i1 _ X (by rw [m3] at hg; exact hg) (by rw [List.length_append]; omega) ?_)
          rw [List.append_assoc, e1]
          exact hX
        · have h2 := i2 (o ++ (l.take (p + m + 1)).drop p) (by rw [m3] at hg; exact hg) (by rw [List.length_append]; omega)
          have h3 := m4 o _ (by omega) h2
          rw [m3]
          rw [show (p : Int) + (1 + (m : Int) + (Utf.good (LexW.tpl l (p + m + 1))).1) + 1 = ((p + m + 1 : Nat) : Int) + (Utf.good (LexW.tpl l (p + m + 1))).1 + 1 by omega]
          exact h3
      · refine ⟨fun o X hg _ _ => ?_, fun o _ _ => ?_⟩
        · rw [a1] at hg; cases hg
        · rw [a1]; exact a2 o
    · have e1 := RefP.tq_stop l p h
      have e2 : LexW.tpl l p = [] := List.eq_nil_of_length_eq_zero (by omega)
      refine ⟨fun o X _ _ hX => ?_, fun o hg _ => ?_⟩
      · rw [e1, e2, List.append_nil] at hX; exact hX
      · rw [e2] at hg; cases hg
theorem LexW.four_ge (T : Nat → Int → Bool) (b : List Int) : ∀ (k i : Nat) (n : Int) {p q : Nat} {r : Option Nat} {nr : Int}, LexW.four T b k i n p = (r, nr, q) → p ≤ q := by
  intro k
  induction k with
  | zero => intro i n p q r nr h; rw [LexW.four] at h; cases h; exact Nat.le_refl _
  | succ k ih =>
    intro i n p q r nr h
    rw [LexW.four] at h
    split at h
    · split at h
      · split at h
        · have := ih _ _ h; omega
        · cases h; exact Nat.le_refl _
      · cases h; exact Nat.le_refl _
    · cases h; exact Nat.le_refl _
theorem LexW.four_add (T : Nat → Int → Bool) (b : List Int) : ∀ (k i : Nat) (n : Int) {p q : Nat} {nr : Int}, LexW.four T b k i n p = (none, nr, q) → q = p + k := by
  intro k
  induction k with
  | zero => intro i n p q nr h; rw [LexW.four] at h; cases h; rfl
  | succ k ih =>
    intro i n p q nr h
    rw [LexW.four] at h
    split at h
    · split at h
      · split at h
        · have := ih _ _ h; omega
        · cases h
      · cases h
    · cases h
theorem LexW.escTo_small (j : Nat) : LexW.escTo.getD j 0 < 128 := by
  match j with
  | 0 | 1 | 2 | 3 | 4 | 5 | 6 | 7 => decide
  | n + 8 => exact (by decide : (0 : Int) < 128)
/-- How much an escape takes up, and how little it stands for. -/
theorem LexW.escape_len {b : List Int} {p q : Nat} {n : Int} (h : LexW.escape b p = (none, n, q)) : p + 4 ≤ q ∨ (p + 1 ≤ q ∧ n < 128) := by
  unfold LexW.escape at h
  by_cases hpl : p < b.length
  · rw [if_pos hpl] at h
    by_cases h0 : 0 ≤ LexW.idx (LexW.at_ b p) LexW.escFrom
    · rw [if_pos h0] at h
      cases h
      exact .inr ⟨Nat.le_refl _, LexW.escTo_small _⟩
    · rw [if_neg h0] at h
      unfold LexW.uesc at h
      have hex : LexW.exactly [117] b p = if LexW.at_ b p = 117 then (none, p + 1) else (some (p + 1), p) := by rw [RefP.ev_exactly1, if_pos hpl]
      by_cases h1 : LexW.at_ b p = 117
      · rw [if_pos h1] at hex
        simp only [hex, Option.isSome_none, Bool.false_eq_true, if_false] at h
        rcases h3 : LexW.four LexW.T1 b 4 0 0 (p + 1) with ⟨r3, hi, q3⟩
        cases r3 with
        | some e =>
          simp only [h3, Option.isSome_some, if_true] at h
          cases h
        | none =>
          have g3 := LexW.four_add _ _ _ _ _ h3
          unfold LexW.tail2 at h
          rcases h6 : LexW.exactly [92, 117] b q3 with ⟨r6, q6⟩
          have g6 := LexW.exactly_ge _ h6
          rcases h7 : LexW.four LexW.T2 b 4 0 0 q6 with ⟨r7, lo, q7⟩
          have g7 := LexW.four_ge _ _ _ _ _ h7
          simp only [h3, h6, h7] at h
          refine .inl ?_
          repeat' split at h
          all_goals (simp only [Prod.mk.injEq] at h; omega)
      · rw [if_neg h1] at hex
        simp only [hex, Option.isSome_some, if_true] at h
        cases h
  · rw [if_neg hpl] at h
    cases h
theorem LexW.escape_gt {b : List Int} {p q : Nat} {n : Int} (h : LexW.escape b p = (none, n, q)) : p + 1 ≤ q := by
  rcases LexW.escape_len h with h | ⟨h, _⟩ <;> omega
theorem RefP.put_len (o : List Int) (hl : o.length + 4 < 140737488355328) {b : List Int} {p q : Nat} {n : Int} (h : LexW.escape b p = (none, n, q)) : ∃ r, utf_Put.f o n = some r ∧ caliperref01_Put.f o n = some r ∧ r.1.length + p ≤ o.length + q := by
  have hd := LexW.escape_len h
  by_cases hs : Utf.Scalar n
  · refine ⟨_, Pure.put_yes hl hs, Pure.rput_yes hl hs, ?_⟩
    have h4 := (Utf.enc_length n).2
    have h1 : n < 128 → (Utf.enc n).length ≤ 1 := by
      intro hn
      unfold Utf.enc
      rw [if_pos hn]
      exact Nat.le_refl _
    simp only [List.length_append]
    rcases hd with hd | ⟨hd, hn⟩
    · omega
    · have := h1 hn
      omega
  · refine ⟨_, Pure.put_no hs, Pure.rput_no hs, ?_⟩
    simp only [List.length_nil]
    omega
theorem RefP.text_ev (l : List Int) (hm : l.length < 140737488355300) (hby : ∀ p, 0 ≤ LexW.at_ l p ∧ LexW.at_ l p ≤ 255) : ∀ (n : Nat) (o : List Int) (p : Nat) (r : Option Nat) (out : List Int) (q : Nat), p ≤ l.length → o.length ≤ p → LexW.text l n o p = some (r, out, q) → Ev (fun k => caliperref04_text.l0 k l (p : Int) o) (RefW.toT (r, out, q)) := by
  intro n
  induction n with
  | zero => intro o p r out q _ _ h; cases h
  | succ n ih =>
    intro o p r out q hp ho h
    have hle : p ≤ LexW.tq l p := LexW.le_pass _ _ _ _ rfl
    have hql : LexW.tq l p ≤ l.length := LexW.pass_le _ _ _ _ rfl hp
    have hlen : (LexW.tpl l p).length = LexW.tq l p - p := by unfold LexW.tpl; rw [List.length_drop, List.length_take]; omega
    have hend := RefP.tq_end l _ p rfl
    have hgr := Utf.good_range (LexW.tpl l p)
    obtain ⟨run1, run2⟩ := RefP.runs l hm _ p rfl hp
    rw [LexW.text, Pure.utf_Points.good_k (LexW.tpl l p) (by omega) _ (by omega)] at h
    simp only [Option.bind_some] at h
    rw [if_pos hgr] at h
    have hb : o.length + (LexW.tpl l p).length < 140737488355328 := by omega
    by_cases hw : (Utf.good (LexW.tpl l p)).2 = true
    · rw [if_neg (by rw [hw]; rintro ⟨h, _⟩; cases h)] at h
      refine run1 o _ hw hb ?_
      by_cases hc : LexW.tq l p < l.length ∧ 32 ≤ LexW.at_ l (LexW.tq l p)
      · rw [if_pos hc, if_pos hb] at h
        by_cases h34 : LexW.at_ l (LexW.tq l p) = 34
        · rw [if_pos h34] at h
          cases h
          refine Ev.step (f := fun _ => some (strOfNums (o ++ LexW.tpl l p), ((LexW.tq l p + 1 : Nat) : Int), 0)) (fun k => ?_) (Ev.now _)
          rw [caliperref04_text.l0, if_pos (by omega), if_pos (by omega), RefP.rd_at, if_pos h34, RefP.w641 (by omega)]
        · rw [if_neg h34] at h
          have h92 : LexW.at_ l (LexW.tq l p) = 92 := by
            by_cases h92 : LexW.at_ l (LexW.tq l p) = 92
            · exact h92
            · exact absurd ⟨hc.1, RefP.plain_iff.mpr ⟨hc.2, h34, h92⟩⟩ hend
          have hes := fun k hk => RefP.escape l (by omega) hby (LexW.tq l p + 1) hc.1 k hk
          rcases he : LexW.escape l (LexW.tq l p + 1) with ⟨r8, n8, q8⟩
          rw [he] at hes
          simp only [he] at h
          have hq8 := LexW.escape_le he hc.1
          refine Ev.step (f := fun k => (caliperref04_escape.f k l ((LexW.tq l p + 1 : Nat) : Int)).bind fun b => if b.2.2 > 0 then some ((⟨#[]⟩ : ByteArray), 0, b.2.2) else (caliperref01_Put.f (o ++ LexW.tpl l p) b.1).bind fun c => caliperref04_text.l0 k l b.2.1 c.1) (fun k => ?_) (Ev.bind ⟨51, hes⟩ ?_)
          · rw [caliperref04_text.l0, if_pos (by omega), if_pos (by omega), RefP.rd_at, if_neg h34, if_neg (by omega), if_pos h92, RefP.w641 (by omega)]
          · cases r8 with
            | some e =>
              simp only [Option.isSome_some, if_true, Option.some.injEq, Prod.mk.injEq] at h
              obtain ⟨e1, e2, e3⟩ := h
              subst e1; subst e2; subst e3
              have := LexW.escape_pos he
              refine Ev.congr (f := fun _ => some ((⟨#[]⟩ : ByteArray), 0, (e : Int))) (fun k => ?_) (Ev.now _)
              show (if (e : Int) > 0 then _ else _) = _
              exact if_pos (by omega)
            | none =>
              simp only [Option.isSome_none, Bool.false_eq_true, if_false] at h
              have hgt := LexW.escape_gt he
              obtain ⟨⟨o3, e3⟩, p1, p2, p3⟩ := RefP.put_len (o ++ LexW.tpl l p) (by rw [List.length_append]; omega) he
              rw [p1] at h
              simp only [Option.bind_some] at h
              rw [List.length_append] at p3
              dsimp only at p3
              refine Ev.congr (fun k => ?_) (ih o3 q8 r out q hq8 (by omega) h)
              show (if (0 : Int) > 0 then _ else (caliperref01_Put.f (o ++ LexW.tpl l p) n8).bind _) = _
              rw [if_neg (by decide), p2]
              rfl
      · rw [if_neg hc] at h
        cases h
        refine Ev.step (f := fun _ => some ((⟨#[]⟩ : ByteArray), 0, ((LexW.tq l p + 1 : Nat) : Int))) (fun k => ?_) (Ev.now _)
        rw [caliperref04_text.l0]
        by_cases h1 : LexW.tq l p < l.length
        · have h2 : LexW.at_ l (LexW.tq l p) < 32 := by
            by_cases h2 : LexW.at_ l (LexW.tq l p) < 32
            · exact h2
            · exact absurd ⟨h1, by omega⟩ hc
          rw [if_pos (by omega), if_pos (by omega), RefP.rd_at, if_neg (by omega), if_pos h2, RefP.w641 (by omega)]
        · rw [if_neg (by omega), RefP.w641 (by omega)]
    · have hw2 := Bool.eq_false_iff.mpr hw
      have h3 := run2 o hw2 hb
      by_cases hb2 : LexW.tq l p < l.length ∨ (Utf.good (LexW.tpl l p)).1 < (LexW.tpl l p).length
      · rw [if_pos ⟨hw2, hb2⟩] at h
        cases h
        show Ev _ ((⟨#[]⟩ : ByteArray), 0, ((p + (Utf.good (LexW.tpl l p)).1.toNat + 1 : Nat) : Int))
        rw [show ((p + (Utf.good (LexW.tpl l p)).1.toNat + 1 : Nat) : Int) = (p : Int) + (Utf.good (LexW.tpl l p)).1 + 1 by omega]
        exact h3
      · rw [if_neg (fun h => hb2 h.2), if_neg (by rintro ⟨a, _⟩; exact hb2 (.inl a))] at h
        cases h
        show Ev _ ((⟨#[]⟩ : ByteArray), 0, ((LexW.tq l p + 1 : Nat) : Int))
        rw [show ((LexW.tq l p + 1 : Nat) : Int) = (p : Int) + (Utf.good (LexW.tpl l p)).1 + 1 by omega]
        exact h3
theorem RefP.text (l : List Int) (hm : l.length < 140737488355300) (hby : ∀ p, 0 ≤ LexW.at_ l p ∧ LexW.at_ l p ≤ 255) (n p : Nat) (r : Option Nat) (out : List Int) (q : Nat) (hp : p ≤ l.length) (h : LexW.text l n [] p = some (r, out, q)) : ∃ k', caliperref04_text.f k' l (p : Int) = some (RefW.toT (r, out, q)) := by
  obtain ⟨k, hk⟩ := (RefP.text_ev l hm hby n [] p r out q hp (by simp) h).rounds
  exact ⟨k, hk⟩
/-- Text always answers: every round passes a byte. -/
theorem LexW.text_total (l : List Int) (hm : l.length < 140737488355300) : ∀ (n : Nat) (o : List Int) (p : Nat), p ≤ l.length → o.length ≤ p → l.length - p < n → ∃ r, LexW.text l n o p = some r := by
  intro n
  induction n with
  | zero => intro o p _ _ h; omega
  | succ n ih =>
    intro o p hp ho hn
    have hle : p ≤ LexW.tq l p := LexW.le_pass _ _ _ _ rfl
    have hql : LexW.tq l p ≤ l.length := LexW.pass_le _ _ _ _ rfl hp
    have hlen : (LexW.tpl l p).length = LexW.tq l p - p := by unfold LexW.tpl; rw [List.length_drop, List.length_take]; omega
    have hgr := Utf.good_range (LexW.tpl l p)
    rw [LexW.text, Pure.utf_Points.good_k (LexW.tpl l p) (by omega) _ (by omega)]
    simp only [Option.bind_some]
    rw [if_pos hgr]
    split
    · exact ⟨_, rfl⟩
    · split
      · rename_i hc
        rw [if_pos (by omega)]
        split
        · exact ⟨_, rfl⟩
        · rcases he : LexW.escape l (LexW.tq l p + 1) with ⟨r8, n8, q8⟩
          have hq8 := LexW.escape_le he hc.1
          cases r8 with
          | some e => simp only [Option.isSome_some, if_true]; exact ⟨_, rfl⟩
          | none =>
            simp only [Option.isSome_none, Bool.false_eq_true, if_false]
            have hgt := LexW.escape_gt he
            obtain ⟨⟨o3, e3⟩, p1, p2, p3⟩ := RefP.put_len (o ++ LexW.tpl l p) (by rw [List.length_append]; omega) he
            rw [List.length_append] at p3
            dsimp only at p3
            rw [p1]
            simp only [Option.bind_some]
            exact ih o3 q8 hq8 (by omega) (by omega)
      · exact ⟨_, rfl⟩
theorem LexW.next_total (l : List Int) (hm : l.length < 140737488355300) (a : Int) : ∃ r, LexW.next l (l.length + 1) a = some r := by
  unfold LexW.next
  split
  · exact ⟨_, rfl⟩
  · split
    · exact ⟨_, rfl⟩
    · have hp : LexW.pass LexW.blank l a.toNat ≤ l.length := LexW.pass_le _ _ _ _ rfl (by omega)
      have hsw : ∃ s, LexW.sw l (l.length + 1) (LexW.pass LexW.blank l a.toNat) = some s := by
        unfold LexW.sw
        repeat' split
        all_goals first | exact ⟨_, rfl⟩ | skip
        obtain ⟨r, hr⟩ := LexW.text_total l hm (l.length + 1) [] (LexW.pass LexW.blank l a.toNat + 1) (by omega) (by simp) (by omega)
        rw [hr]
        exact ⟨_, rfl⟩
      obtain ⟨s, hs⟩ := hsw
      unfold LexW.token
      rw [hs]
      simp only [Option.bind_some]
      split
      · simp only [Option.bind_some]
        split <;> exact ⟨_, rfl⟩
      · exact ⟨_, rfl⟩

end Go.Proofs.YthoobepfkfjgnaaDoor.PL

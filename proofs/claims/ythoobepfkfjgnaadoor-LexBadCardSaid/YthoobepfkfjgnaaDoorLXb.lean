import Derived.Test.YthoobepfkfjgnaaDoorPLx0
import Derived.Test.YthoobepfkfjgnaaDoorLXa
import Derived.Test.YthoobepfkfjgnaaDoorPLx2
import Derived.Test.YthoobepfkfjgnaaDoorLexW
import Derived.Lib.SmallJoins
import Derived.WalkLawsBesides
import Derived.Outline
import Derived.StillTailTactics
import Derived.Test.YthoobepfkfjgnaaDoorMore
import Derived.Lib.Bytealg
namespace Go.Proofs.YthoobepfkfjgnaaDoor.PL
open Go.RowKit Go.Proofs.YthoobepfkfjgnaaDoorW.PrintWords Go.Proofs.YthoobepfkfjgnaaDoorW.PrintLast Go.Proofs.YthoobepfkfjgnaaDoorW.PrintMore
attribute [local go_sem] max2_int min2_int max_two min_two max_three min_three max_four min_four
set_option linter.unusedVariables false
set_option linter.unusedSimpArgs false
-- GIVEN plain quiet
theorem LexT.i58 (s : ByteArray) (c : Int) (w : World) :
    Calls Tryd.prog 41 #[.string s, .int .u8 c] w fun e w' => e = .returned (.int .i64 (Lib.indexByte s.data.toList c.toNat.toUInt8)) ∧ w' = w := by
  have h58 := @run_callFunc_extern Tryd.prog 58 _ Extern.BytealgIndexByte.indexByte Tryd.func58 (by kernel_rfl) (by kernel_rfl) (by kernel_rfl) (by kernel_rfl)
  go_enter Tryd.func41, Tryd.ntmps41
  go_wp2
  try rw [h58]
  rw [Lib.run_indexByteString]
  simp only [Result.andThen]
  rw [Oper.upon_value]
  go_wp2
  go_ret
  exact ⟨rfl, rfl⟩
theorem LexT.i23 (s : ByteArray) (c : Int) (w : World) :
    Calls Tryd.prog 23 #[.string s, .int .u8 c] w fun e w' => e = .returned (.int .i64 (Lib.indexByte s.data.toList c.toNat.toUInt8)) ∧ Drawn0 w w' := by
  go_enter Tryd.func23, Tryd.ntmps23
  go_wp2_with (go_at_call 41; (with_reducible refine (LexT.i58 s c _).mono ?_); rintro e w1 ⟨rfl, rfl⟩)
  go_ret
  exact ⟨rfl, Drawn0.refl _⟩
theorem LexT.idx_eq (l : List UInt8) (c : Int) (h0 : 0 ≤ c) (h1 : c ≤ 255) : Lib.indexByte l c.toNat.toUInt8 = LexW.idx c (l.map fun x => (x.toNat : Int)) := by
  have hc : ∀ x : UInt8, (x == c.toNat.toUInt8) = decide ((x.toNat : Int) = c) := by
    intro x
    rw [Bool.eq_iff_iff, beq_iff_eq, decide_eq_true_iff]
    have h2 : (c.toNat.toUInt8).toNat = c.toNat := by simp; omega
    constructor
    · rintro rfl; rw [h2]; omega
    · intro h
      apply UInt8.toNat_inj.1
      rw [h2]; omega
  induction l with
  | nil => rfl
  | cons x l ih =>
    have hge := Lib.indexByte_ge l c.toNat.toUInt8
    rw [Lib.indexByte, List.map_cons, LexW.idx, hc]
    rw [ih] at hge ⊢
    obtain ⟨y, hy⟩ : ∃ y, y = LexW.idx c (l.map fun x => (x.toNat : Int)) := ⟨_, rfl⟩
    rw [← hy] at hge ⊢
    by_cases h1 : (x.toNat : Int) = c
    · rw [if_pos (by simpa using h1), if_pos h1]
    · rw [if_neg (by simpa using h1), if_neg h1]
      by_cases h2 : y = -1
      · rw [if_pos (by simp [h2]), if_pos (by omega)]
      · rw [if_neg (by simpa using h2), if_neg (by omega)]
theorem LexT.hex_all : (List.range 256).all (fun n => Lib.indexByte [48, 49, 50, 51, 52, 53, 54, 55, 56, 57, 97, 98, 99, 100, 101, 102] (UInt8.ofNat (Go.bits .or .u8 (n : Int) (Go.bits .and .u8 32 (-Go.bits .and .u8 ((n : Int) / 64) 1 % 256))).toNat) == LexW.hex (n : Int)) = true := by kernel_rfl
theorem LexT.hex_eq (c : Int) (h0 : 0 ≤ c) (h1 : c ≤ 255) : Lib.indexByte [48, 49, 50, 51, 52, 53, 54, 55, 56, 57, 97, 98, 99, 100, 101, 102] (UInt8.ofNat (Go.bits .or .u8 c (Go.bits .and .u8 32 (-Go.bits .and .u8 (c / 64) 1 % 256))).toNat) = LexW.hex c := by
  have h := List.all_eq_true.1 LexT.hex_all c.toNat (List.mem_range.2 (by omega))
  rw [show ((c.toNat : Nat) : Int) = c by omega] at h
  exact eq_of_beq h
set_option maxHeartbeats 4000000 in
set_option maxRecDepth 100000 in
theorem lex_hex.calls (c : Int) (h0 : 0 ≤ c) (h1 : c ≤ 255) (w : World) :
    Calls Tryd.prog 69 #[.int .u8 c] w fun e w' => e = .returned (.int .i64 (LexW.hex c)) ∧ Drawn0 w w' := by
  go_enter Tryd.func69, Tryd.ntmps69
  go_wp2_with (go_at_call 23; (with_reducible refine (LexT.i23 _ _ _).mono ?_); rintro e w1 ⟨rfl, hd⟩)
  go_ret
  exact ⟨congrArg (fun x => Ending.returned (.int .i64 x)) (LexT.hex_eq c h0 h1), hd⟩

-- GIVEN plain making
/-- '[]byte(s)' as More.conv_bytes, its block told. -/
theorem LexT.conv_bytes {P : Program} {ops : Array Oper} {rest : List Oper} {o : Oper} {a : Act} {Q : Exit → Act → World → Prop} {W : World} (hgd : o.guard = none)
    (src dst e : TypeId) (x : Operand) (ho : o.op = .convert src dst x) (s : ByteArray) (hx : a.eval x = .string s) (hs : P.underlying src = some .string) (hd : P.underlying dst = some (.slice e)) (he : P.underlying e = some (.int .u8))
    (hn : s.size ≤ 9223372036854775807)
    (h : ∀ (n c : Nat) (w1 : World), n = W.heap.size → s.size ≤ c → Kd.C (Kd.int .u8) w1 (some ⟨n, 0, none⟩) (bytesOf s).length (bytesOf s) → Below W.heap.size W w1 → wpList P ops Q rest (a.put o.dst (.slice (some ⟨n, 0, none⟩) (bytesOf s).length c)) w1) :
    wpList P ops Q (o :: rest) a W := by
  have hrun := Lib.run_convert_string_bytes (P := P) W src dst e s hs hd he
  have hl := bytesOf_length s
  refine Kd.event_run hgd (v := .slice (some ⟨W.heap.size, 0, none⟩) (bytesOf s).length (grownCap W s.size 0 e)) (w1 := Lib.bytesWorld W e s) ?_ (h W.heap.size _ _ rfl ?_ ?_ (More.below_bytes (Below.refl _ _) e s))
  · rw [hl]
    simp [execOp, ho, hx, hrun, Result.andThen]
  · exact grownCap_ge W s.size 0 e
  · refine Kd.C_of_reads (d := (0 : Int)) (h1 := fun _ => rfl) ⟨rfl, by omega, fun _ => ⟨_, rfl, fun j hj => ?_⟩⟩
    rw [add_plain, Lib.bytesWorld_cell W e s j (by omega)]
    congr 2
    unfold bytesOf
    rw [List.getD_eq_getElem?_getD, List.getD_eq_getElem?_getD, List.getElem?_map]
    have hj2 : j < s.data.toList.length := by simpa [bytesOf] using hj
    rw [List.getElem?_eq_getElem hj2]
    rfl
set_option maxHeartbeats 4000000 in
set_option maxRecDepth 100000 in
theorem lex_scanner_exactly.calls (g : Nat) (b : List Int) (s : ByteArray) (p q : Nat) (r : Option Nat) (w0 w : World) (hI : LexS w0 w g b p) (hB : Below w0.heap.size w0 w) (hpl : p ≤ b.length) (hm : b.length < 9223372036854775807) (hs : s.size < 9223372036854775807) (h : LexW.exactly (bytesOf s) b p = (r, q)) :
    Calls Tryd.prog 29 #[.pointer (some ⟨g, 0, none⟩), .string s] w fun e w' => ∃ v, e = .returned v ∧ BadE w' v (r.map fun (n : Nat) => (n : Int)) ∧ LexS w0 w' g b q ∧ Below w0.heap.size w0 w' ∧ KeepBut w w' g none := by
  have hl := bytesOf_length s
  obtain ⟨l, hle⟩ : ∃ l, l = bytesOf s := ⟨_, rfl⟩
  rw [← hle] at h hl
  have HE := Aside0.mk hle
  clear hle
  have hmf : ∀ (fn : Fn) (first cap : Array Value) (w : World), (Instr.makeFunc fn first cap).run Tryd.prog w = .ok (.func fn first cap) w := fun _ _ _ _ => rfl
  have HI := Aside0.mk hI
  have HK := Aside0.mk (KeepBut.refl w g none)
  have HB := Aside0.mk hB
  clear hI hB
  go_enter Tryd.func29, Tryd.ntmps29
  go_wp2_with (first | ((with_reducible refine gate_dst (N := 9) rfl ?_); refine LexT.conv_bytes rfl 9 22 5 (.tmp 8) rfl s rfl Tryd.underlying9 Tryd.underlying22 Tryd.underlying5 (by omega) ?_; intro n c w1 hn hc hR hb; rw [← HE.out] at hR ⊢; have HC := Aside0.mk hR; have HN := Aside0.mk (show n ≠ g by rw [hn]; exact Nat.ne_of_gt HI.out.lt); have n0_ := Aside0.mk (keep_from HK.out (KeepBut.of_below hb g none)); have n1_ := Aside0.mk (below_step HB.out hb); have n2_ := Aside0.mk (HI.out.below hb); clear HK HB HI hb hR hn; have HK := n0_; have HB := n1_; have HI := n2_; clear n0_ n1_ n2_))
  have HI0 := HI
  have HK0 := HK
  have HB0 := HB
  clear HI HK HB
  go_loopg [11] l.length (fun kq v wr => ∃ (i p1 : Nat), v = .int .i64 i ∧ i ≤ l.length ∧ kq = l.length - i ∧ p1 ≤ b.length ∧ Aside0 (LexW.exactly (l.drop i) b p1 = (r, q)) ∧ Aside0 (LexS w0 wr g b p1) ∧ Aside0 (Below w0.heap.size w0 wr) ∧ Aside0 (KeepBut w wr g none) ∧ Aside0 (Kd.C (Kd.int .u8) wr (some ⟨n, 0, none⟩) l.length l))
  case atStart => exact ⟨0, p, rfl, Nat.zero_le _, rfl, hpl, ⟨h⟩, HI0, HB0, HK0, HC⟩
  case round =>
    clear HI0 HK0 HB0 HC h hpl hc
    obtain ⟨i, p1, rfl, hi, hk, hp1, HX, HI, HB, HK, HC⟩ := hrel
    by_cases hlt : i < l.length
    · obtain ⟨ad, e1, hx⟩ := Kd.at_int HC.out (i : Int) (by omega) (by omega)
      cases e1
      rw [show rd l (i : Int) = l[i] by unfold rd; rw [Int.toNat_natCast, List.getD_eq_getElem?_getD, List.getElem?_eq_getElem hlt]; rfl] at hx
      rw [Int.toNat_natCast, add_plain] at hx
      have hex := HX.out
      rw [List.drop_eq_getElem_cons hlt, LexW.exactly] at hex
      obtain ⟨ch, hch⟩ : ∃ ch, ch = l[i] := ⟨_, rfl⟩
      rw [← hch] at hx hex
      clear hch HX
      rcases hmu : LexW.must (fun x => x == ch) b p1 with ⟨r1, q1⟩
      rw [hmu] at hex
      have hq1 := LexW.must_le hmu hp1
      have hkg : wr.heap.size ≠ g := Nat.ne_of_gt HI.out.lt
      have ha2 : (wr.alloc (.cells #[.int .u8 ch] 5)).cell? ⟨wr.heap.size, 0, none⟩ = some (.int .u8 ch) := (blk_cell (show (wr.alloc (.cells #[.int .u8 ch] 5)).heap[wr.heap.size]? = some (.cells #[.int .u8 ch] 5 (0, 0)) by simpa using heap_alloc_new wr _) 0).trans rfl
      have hk2 : KeepBut wr (wr.alloc (.cells #[.int .u8 ch] 5)) g none := keep_alloc (KeepBut.refl _ _ _) _
      have hi2 : LexS w0 (wr.alloc (.cells #[.int .u8 ch] 5)) g b p1 := HI.out.alloc _
      have hb2 : Below w0.heap.size w0 (wr.alloc (.cells #[.int .u8 ch] 5)) := below_alloc HB.out _
      have HA2 := Aside0.mk ha2
      have HK2 := Aside0.mk hk2
      have HI2 := Aside0.mk hi2
      have HB2 := Aside0.mk hb2
      clear ha2 hk2 hi2 hb2
      cases r1 with
      | none =>
        simp only [Option.isSome_none, Bool.false_eq_true, if_false] at hex
        have HX := Aside0.mk hex
        clear hex
        go_wp2_with (first | (go_at_call 43; (with_reducible refine (lex_scanner_must.calls_eq g b p1 ch ⟨wr.heap.size, 0, none⟩ w0 _ HA2.out hkg HI2.out HB2.out hp1 hm).mono ?_); rintro e w2 ⟨v1, rfl, he, hi, hb, hk⟩; rw [hmu] at he hi; (obtain rfl : v1 = _ := he); have HI3 := Aside0.mk hi; have HB3 := Aside0.mk hb; have HK3 := Aside0.mk (keep_from HK.out (keep_from HK2.out hk)); have HC3 := Aside0.mk (Kd.C_keep 0 HC.out (keep_from HK2.out hk) (by intro ad e _; cases e; exact HN.out)); clear hi hb hk))
        go_roundg (l.length - (i + 1))
        case measure => omega
        case rel => exact ⟨i + 1, q1, by go_num, by omega, rfl, hq1, HX, HI3, HB3, HK3, HC3⟩
      | some e1 =>
        simp only [Option.isSome_some, if_true] at hex
        cases hex
        go_wp2_with (first | (go_at_call 43; (with_reducible refine (lex_scanner_must.calls_eq g b p1 ch ⟨wr.heap.size, 0, none⟩ w0 _ HA2.out hkg HI2.out HB2.out hp1 hm).mono ?_); rintro e w2 ⟨v1, rfl, he, hi, hb, hk⟩; rw [hmu] at he hi; obtain ⟨pe, rfl, hpe⟩ := he; have HE3 := Aside0.mk (show BadE w2 _ (some _) from ⟨pe, rfl, hpe⟩); clear hpe; have HI3 := Aside0.mk hi; have HB3 := Aside0.mk hb; have HK3 := Aside0.mk (keep_from HK.out (keep_from HK2.out hk)); clear hi hb hk))
        go_ret
        exact ⟨_, rfl, HE3.out, HI3.out, HB3.out, HK3.out⟩
    · obtain rfl : i = l.length := by omega
      have hex := HX.out
      rw [List.drop_eq_nil_of_le (Nat.le_refl _), LexW.exactly] at hex
      cases hex
      go_wp2
      go_ret
      exact ⟨_, rfl, rfl, HI.out, HB.out, HK.out⟩

-- GIVEN plain making
set_option maxHeartbeats 4000000 in
set_option maxRecDepth 100000 in
theorem LexT.t1 (i : Nat) (hi : i < 4) (n : Int) (W : World) : Calls Tryd.prog 62 #[.int .i64 i, .int .i64 n] W fun e W' => e = .returned (.bool (LexW.T1 i n)) ∧ Below W.heap.size W W' := by
  unfold LexW.T1
  obtain rfl | rfl | rfl | rfl : i = 0 ∨ i = 1 ∨ i = 2 ∨ i = 3 := by omega
  · simp only [show ((0 : Nat) != 1) = true from rfl, Bool.true_or]
    go_enter Tryd.func62, Tryd.ntmps62
    go_wp2
    go_ret
    exact ⟨rfl, Below.refl _ _⟩
  · simp only [show ((1 : Nat) != 1) = false from rfl, Bool.false_or]
    by_cases h1 : n < 220
    · rw [decide_eq_true h1, Bool.true_or]
      have b1 : decide (n < 220) = true := decide_eq_true h1
      go_enter Tryd.func62, Tryd.ntmps62
      go_wp2
      go_ret
      exact ⟨rfl, Below.refl _ _⟩
    · rw [decide_eq_false h1, Bool.false_or]
      have b1 : decide (n < 220) = false := decide_eq_false h1
      go_enter Tryd.func62, Tryd.ntmps62
      go_wp2
      go_ret
      exact ⟨rfl, Below.refl _ _⟩
  · simp only [show ((2 : Nat) != 1) = true from rfl, Bool.true_or]
    go_enter Tryd.func62, Tryd.ntmps62
    go_wp2
    go_ret
    exact ⟨rfl, Below.refl _ _⟩
  · simp only [show ((3 : Nat) != 1) = true from rfl, Bool.true_or]
    go_enter Tryd.func62, Tryd.ntmps62
    go_wp2
    go_ret
    exact ⟨rfl, Below.refl _ _⟩
set_option maxHeartbeats 4000000 in
set_option maxRecDepth 100000 in
theorem LexT.t2 (i : Nat) (hi : i < 4) (n : Int) (W : World) : Calls Tryd.prog 63 #[.int .i64 i, .int .i64 n] W fun e W' => e = .returned (.bool (LexW.T2 i n)) ∧ Below W.heap.size W W' := by
  unfold LexW.T2
  obtain rfl | rfl | rfl | rfl : i = 0 ∨ i = 1 ∨ i = 2 ∨ i = 3 := by omega
  · by_cases h1 : n = 13
    · subst h1
      go_enter Tryd.func63, Tryd.ntmps63
      go_wp2
      go_ret
      exact ⟨rfl, Below.refl _ _⟩
    · have b1 : (n == 13) = false := by simp [h1]
      rw [b1]
      go_enter Tryd.func63, Tryd.ntmps63
      go_wp2
      go_ret
      exact ⟨rfl, Below.refl _ _⟩
  · by_cases h1 : n ≥ 220
    · rw [decide_eq_true h1]
      have b1 : decide (220 ≤ n) = true := decide_eq_true h1
      go_enter Tryd.func63, Tryd.ntmps63
      go_wp2
      go_ret
      exact ⟨rfl, Below.refl _ _⟩
    · rw [decide_eq_false h1]
      have b1 : decide (220 ≤ n) = false := decide_eq_false h1
      go_enter Tryd.func63, Tryd.ntmps63
      go_wp2
      go_ret
      exact ⟨rfl, Below.refl _ _⟩
  · simp only [show decide ((2 : Nat) > 1) = true from rfl, Bool.true_or]
    go_enter Tryd.func63, Tryd.ntmps63
    go_wp2
    go_ret
    exact ⟨rfl, Below.refl _ _⟩
  · simp only [show decide ((3 : Nat) > 1) = true from rfl, Bool.true_or]
    go_enter Tryd.func63, Tryd.ntmps63
    go_wp2
    go_ret
    exact ⟨rfl, Below.refl _ _⟩
theorem LexT.or16 (n d : Int) (hn0 : 0 ≤ n) (hn1 : n < 1000000) (hd0 : 0 ≤ d) (hd1 : d < 16) : Go.bits .or .i64 (n * 16) d = n * 16 + d :=
  bits_join .i64 62 (by decide) (fun x h0 h1 => by rw [IntKind.wrap_i64]; omega) 4 (n * 16) d (by omega) (by omega) (by omega) hd0 (by omega) (by omega)
theorem LexT.hex_lt (c : Int) : -1 ≤ LexW.hex c ∧ LexW.hex c < 16 := by unfold LexW.hex; split; omega; split; omega; split; omega; decide
set_option maxHeartbeats 4000000 in
set_option maxRecDepth 100000 in
theorem lex_scanner_four.calls_1 (g : Nat) (b : List Int) (p q : Nat) (r : Option Nat) (nr : Int) (w0 w : World) (hI : LexS w0 w g b p) (hB : Below w0.heap.size w0 w) (hpl : p ≤ b.length) (hm : b.length < 9223372036854775807) (hby : ∀ p, 0 ≤ LexW.at_ b p ∧ LexW.at_ b p ≤ 255) (h : LexW.four LexW.T1 b 4 0 0 p = (r, nr, q)) :
    Calls Tryd.prog 61 #[.pointer (some ⟨g, 0, none⟩), .func (.func 62) #[] #[]] w fun e w' => ∃ v, e = .returned (.tuple #[.int .i64 nr, v]) ∧ BadE w' v (r.map fun (n : Nat) => (n : Int)) ∧ LexS w0 w' g b q ∧ Below w0.heap.size w0 w' ∧ KeepBut w w' g none := by
  have HI0 := Aside0.mk hI
  have HB0 := Aside0.mk hB
  clear hI hB
  go_enter Tryd.func61, Tryd.ntmps61
  go_wp2
  go_loopg [6, 11] 4 (fun kq v6 v11 wr => ∃ (i p1 : Nat) (n : Int), v6 = .int .i64 n ∧ v11 = .int .i64 i ∧ kq = 4 - i ∧ i ≤ 4 ∧ p1 ≤ b.length ∧ 0 ≤ n ∧ Aside0 (i = 0 ∧ n = 0 ∨ i = 1 ∧ n < 16 ∨ i = 2 ∧ n < 256 ∨ i = 3 ∧ n < 4096 ∨ i = 4) ∧ Aside0 (LexW.four LexW.T1 b (4 - i) i n p1 = (r, nr, q)) ∧ Aside0 (LexS w0 wr g b p1) ∧ Aside0 (Below w0.heap.size w0 wr) ∧ Aside0 (KeepBut w wr g none))
  case atStart => exact ⟨0, p, 0, rfl, rfl, rfl, by omega, hpl, by omega, ⟨.inl ⟨rfl, rfl⟩⟩, ⟨h⟩, HI0, HB0, ⟨KeepBut.refl _ _ _⟩⟩
  case round =>
    clear HI0 HB0 h hpl
    obtain ⟨i, p1, n, rfl, rfl, hk, hi, hp1, hn0, HN, HX, HI, HB, HK⟩ := hrel
    by_cases hi4 : i < 4
    · have hn1 : n < 4096 := by have := HN.out; omega
      have hN2 := HN.out
      have hx := HX.out
      rw [show 4 - i = (3 - i) + 1 by omega, LexW.four] at hx
      have hpk := LexW.peek_f b p1
      clear HX HN
      by_cases hp : p1 < b.length
      · rw [if_pos hp] at hx
        rw [if_pos hp, decide_eq_true hp] at hpk
        have HPK := Aside0.mk hpk
        clear hpk
        have hdl := LexT.hex_lt (LexW.at_ b p1)
        obtain ⟨d, hdd⟩ : ∃ d, d = LexW.hex (LexW.at_ b p1) := ⟨_, rfl⟩
        rw [← hdd] at hx hdl
        have HDD := Aside0.mk hdd
        clear hdd
        by_cases hd0 : 0 ≤ d
        · rw [if_pos hd0] at hx
          have hor := LexT.or16 n d hn0 (by omega) hd0 hdl.2
          have hdb : decide (d < 0) = false := decide_eq_false (by omega)
          by_cases ht : LexW.T1 i (n * 16 + d) = true
          · rw [if_pos ht] at hx
            have HX := Aside0.mk hx
            have HN := Aside0.mk (show i + 1 = 0 ∧ n * 16 + d = 0 ∨ i + 1 = 1 ∧ n * 16 + d < 16 ∨ i + 1 = 2 ∧ n * 16 + d < 256 ∨ i + 1 = 3 ∧ n * 16 + d < 4096 ∨ i + 1 = 4 by omega)
            have HD0 := Aside0.mk (show 0 ≤ n * 16 + d by omega)
            clear hx hN2
            go_wp2_with (first | (go_at_call 28; (with_reducible refine (lexs_peek.calls g b p1 _ _ _ w0 _ HI.out HB.out HPK.out).mono ?_); rintro e w1 ⟨rfl, hi, hb, hk⟩; have n0_ := Aside0.mk (keep_from HK.out hk); have n1_ := Aside0.mk hb; have n2_ := Aside0.mk hi; clear HK HB HI hi hb hk; have HK := n0_; have HB := n1_; have HI := n2_; clear n0_ n1_ n2_) | (go_at_call 69; (with_reducible refine (lex_hex.calls (LexW.at_ b p1) (hby _).1 (hby _).2 _).mono ?_); rintro e w1 ⟨rfl, hd⟩; have hb := hd.below; clear hd; rw [← HDD.out]; have n0_ := Aside0.mk (keep_from HK.out (KeepBut.of_below hb g none)); have n1_ := Aside0.mk (below_step HB.out hb); have n2_ := Aside0.mk (HI.out.below hb); clear HK HB HI hb; have HK := n0_; have HB := n1_; have HI := n2_; clear n0_ n1_ n2_) | (go_at_call 62; (try rw [hor]); (with_reducible refine (LexT.t1 i hi4 (n * 16 + d) _).mono ?_); rintro e w1 ⟨rfl, hb⟩; rw [ht]; have n0_ := Aside0.mk (keep_from HK.out (KeepBut.of_below hb g none)); have n1_ := Aside0.mk (below_step HB.out hb); have n2_ := Aside0.mk (HI.out.below hb); clear HK HB HI hb; have HK := n0_; have HB := n1_; have HI := n2_; clear n0_ n1_ n2_; obtain ⟨A0, c0, HG, hg, HS, hcp⟩ := HI.out; have hc1 := cellLexS_1 HG; have hf1 := blk_frozen HG 1; clear HG hg HS))
            go_roundg (4 - (i + 1))
            case measure => omega
            case rel => exact ⟨i + 1, p1 + 1, n * 16 + d, by first | rfl | rw [hor], by go_num, rfl, by omega, by omega, HD0.out, HN, ⟨by rw [show 4 - (i + 1) = 3 - i by omega]; exact HX.out⟩, ⟨HI.out.set_1 _⟩, ⟨below_set HB.out HI.out.ge⟩, ⟨HK.out.set_ _ _⟩⟩
          · rw [if_neg ht] at hx
            replace ht := Bool.eq_false_iff.mpr ht
            obtain ⟨e1_, e2_⟩ := Prod.mk.inj hx; obtain ⟨e2_, e3_⟩ := Prod.mk.inj e2_; subst e1_; subst e2_; subst e3_; clear hx
            clear hN2
            go_wp2_with (first | (go_at_call 28; (with_reducible refine (lexs_peek.calls g b p1 _ _ _ w0 _ HI.out HB.out HPK.out).mono ?_); rintro e w1 ⟨rfl, hi, hb, hk⟩; have n0_ := Aside0.mk (keep_from HK.out hk); have n1_ := Aside0.mk hb; have n2_ := Aside0.mk hi; clear HK HB HI hi hb hk; have HK := n0_; have HB := n1_; have HI := n2_; clear n0_ n1_ n2_) | (go_at_call 69; (with_reducible refine (lex_hex.calls (LexW.at_ b p1) (hby _).1 (hby _).2 _).mono ?_); rintro e w1 ⟨rfl, hd⟩; have hb := hd.below; clear hd; rw [← HDD.out]; have n0_ := Aside0.mk (keep_from HK.out (KeepBut.of_below hb g none)); have n1_ := Aside0.mk (below_step HB.out hb); have n2_ := Aside0.mk (HI.out.below hb); clear HK HB HI hb; have HK := n0_; have HB := n1_; have HI := n2_; clear n0_ n1_ n2_) | (go_at_call 62; (try rw [hor]); (with_reducible refine (LexT.t1 i hi4 (n * 16 + d) _).mono ?_); rintro e w1 ⟨rfl, hb⟩; rw [ht]; have n0_ := Aside0.mk (keep_from HK.out (KeepBut.of_below hb g none)); have n1_ := Aside0.mk (below_step HB.out hb); have n2_ := Aside0.mk (HI.out.below hb); clear HK HB HI hb; have HK := n0_; have HB := n1_; have HI := n2_; clear n0_ n1_ n2_) | (go_at_call 33; (with_reducible refine (lex_scanner_fail.calls g b p1 (by omega) w0 _ HI.out HB.out).mono ?_); rintro e w1 ⟨v1, rfl, he, hi, hb, hk⟩; have HE := Aside0.mk he; clear he; have n0_ := Aside0.mk (keep_from HK.out hk); have n1_ := Aside0.mk hb; have n2_ := Aside0.mk hi; clear HK HB HI hi hb hk; have HK := n0_; have HB := n1_; have HI := n2_; clear n0_ n1_ n2_))
            go_ret2
            exact ⟨_, rfl, HE.out, HI.out, HB.out, HK.out⟩
        · rw [if_neg hd0] at hx
          have hdb : decide (d < 0) = true := decide_eq_true (by omega)
          obtain ⟨e1_, e2_⟩ := Prod.mk.inj hx; obtain ⟨e2_, e3_⟩ := Prod.mk.inj e2_; subst e1_; subst e2_; subst e3_; clear hx
          clear hN2
          go_wp2_with (first | (go_at_call 28; (with_reducible refine (lexs_peek.calls g b p1 _ _ _ w0 _ HI.out HB.out HPK.out).mono ?_); rintro e w1 ⟨rfl, hi, hb, hk⟩; have n0_ := Aside0.mk (keep_from HK.out hk); have n1_ := Aside0.mk hb; have n2_ := Aside0.mk hi; clear HK HB HI hi hb hk; have HK := n0_; have HB := n1_; have HI := n2_; clear n0_ n1_ n2_) | (go_at_call 69; (with_reducible refine (lex_hex.calls (LexW.at_ b p1) (hby _).1 (hby _).2 _).mono ?_); rintro e w1 ⟨rfl, hd⟩; have hb := hd.below; clear hd; rw [← HDD.out]; have n0_ := Aside0.mk (keep_from HK.out (KeepBut.of_below hb g none)); have n1_ := Aside0.mk (below_step HB.out hb); have n2_ := Aside0.mk (HI.out.below hb); clear HK HB HI hb; have HK := n0_; have HB := n1_; have HI := n2_; clear n0_ n1_ n2_) | (go_at_call 33; (with_reducible refine (lex_scanner_fail.calls g b p1 (by omega) w0 _ HI.out HB.out).mono ?_); rintro e w1 ⟨v1, rfl, he, hi, hb, hk⟩; have HE := Aside0.mk he; clear he; have n0_ := Aside0.mk (keep_from HK.out hk); have n1_ := Aside0.mk hb; have n2_ := Aside0.mk hi; clear HK HB HI hi hb hk; have HK := n0_; have HB := n1_; have HI := n2_; clear n0_ n1_ n2_))
          go_ret2
          exact ⟨_, rfl, HE.out, HI.out, HB.out, HK.out⟩
      · rw [if_neg hp] at hx
        rw [if_neg hp, decide_eq_false hp] at hpk
        have HPK := Aside0.mk hpk
        clear hpk
        obtain ⟨e1_, e2_⟩ := Prod.mk.inj hx; obtain ⟨e2_, e3_⟩ := Prod.mk.inj e2_; subst e1_; subst e2_; subst e3_; clear hx
        clear hN2
        go_wp2_with (first | (go_at_call 28; (with_reducible refine (lexs_peek.calls g b p1 _ _ _ w0 _ HI.out HB.out HPK.out).mono ?_); rintro e w1 ⟨rfl, hi, hb, hk⟩; have n0_ := Aside0.mk (keep_from HK.out hk); have n1_ := Aside0.mk hb; have n2_ := Aside0.mk hi; clear HK HB HI hi hb hk; have HK := n0_; have HB := n1_; have HI := n2_; clear n0_ n1_ n2_) | (go_at_call 69; (with_reducible refine (lex_hex.calls 0 (by decide) (by decide) _).mono ?_); rintro e w1 ⟨rfl, hd⟩; have hb := hd.below; clear hd; rw [show LexW.hex 0 = -1 from rfl]; have n0_ := Aside0.mk (keep_from HK.out (KeepBut.of_below hb g none)); have n1_ := Aside0.mk (below_step HB.out hb); have n2_ := Aside0.mk (HI.out.below hb); clear HK HB HI hb; have HK := n0_; have HB := n1_; have HI := n2_; clear n0_ n1_ n2_) | (go_at_call 33; (with_reducible refine (lex_scanner_fail.calls g b p1 (by omega) w0 _ HI.out HB.out).mono ?_); rintro e w1 ⟨v1, rfl, he, hi, hb, hk⟩; have HE := Aside0.mk he; clear he; have n0_ := Aside0.mk (keep_from HK.out hk); have n1_ := Aside0.mk hb; have n2_ := Aside0.mk hi; clear HK HB HI hi hb hk; have HK := n0_; have HB := n1_; have HI := n2_; clear n0_ n1_ n2_))
        go_ret2
        exact ⟨_, rfl, HE.out, HI.out, HB.out, HK.out⟩
    · obtain rfl : i = 4 := by omega
      have hx := HX.out
      rw [show 4 - 4 = 0 from rfl, LexW.four] at hx
      obtain ⟨e1_, e2_⟩ := Prod.mk.inj hx; obtain ⟨e2_, e3_⟩ := Prod.mk.inj e2_; subst e1_; subst e2_; subst e3_; clear hx
      clear HN HX
      go_wp2
      go_ret2
      exact ⟨_, rfl, rfl, HI.out, HB.out, HK.out⟩
set_option maxHeartbeats 4000000 in
set_option maxRecDepth 100000 in
theorem lex_scanner_four.calls_2 (g : Nat) (b : List Int) (p q : Nat) (r : Option Nat) (nr : Int) (w0 w : World) (hI : LexS w0 w g b p) (hB : Below w0.heap.size w0 w) (hpl : p ≤ b.length) (hm : b.length < 9223372036854775807) (hby : ∀ p, 0 ≤ LexW.at_ b p ∧ LexW.at_ b p ≤ 255) (h : LexW.four LexW.T2 b 4 0 0 p = (r, nr, q)) :
    Calls Tryd.prog 61 #[.pointer (some ⟨g, 0, none⟩), .func (.func 63) #[] #[]] w fun e w' => ∃ v, e = .returned (.tuple #[.int .i64 nr, v]) ∧ BadE w' v (r.map fun (n : Nat) => (n : Int)) ∧ LexS w0 w' g b q ∧ Below w0.heap.size w0 w' ∧ KeepBut w w' g none := by
  have HI0 := Aside0.mk hI
  have HB0 := Aside0.mk hB
  clear hI hB
  go_enter Tryd.func61, Tryd.ntmps61
  go_wp2
  go_loopg [6, 11] 4 (fun kq v6 v11 wr => ∃ (i p1 : Nat) (n : Int), v6 = .int .i64 n ∧ v11 = .int .i64 i ∧ kq = 4 - i ∧ i ≤ 4 ∧ p1 ≤ b.length ∧ 0 ≤ n ∧ Aside0 (i = 0 ∧ n = 0 ∨ i = 1 ∧ n < 16 ∨ i = 2 ∧ n < 256 ∨ i = 3 ∧ n < 4096 ∨ i = 4) ∧ Aside0 (LexW.four LexW.T2 b (4 - i) i n p1 = (r, nr, q)) ∧ Aside0 (LexS w0 wr g b p1) ∧ Aside0 (Below w0.heap.size w0 wr) ∧ Aside0 (KeepBut w wr g none))
  case atStart => exact ⟨0, p, 0, rfl, rfl, rfl, by omega, hpl, by omega, ⟨.inl ⟨rfl, rfl⟩⟩, ⟨h⟩, HI0, HB0, ⟨KeepBut.refl _ _ _⟩⟩
  case round =>
    clear HI0 HB0 h hpl
    obtain ⟨i, p1, n, rfl, rfl, hk, hi, hp1, hn0, HN, HX, HI, HB, HK⟩ := hrel
    by_cases hi4 : i < 4
    · have hn1 : n < 4096 := by have := HN.out; omega
      have hN2 := HN.out
      have hx := HX.out
      rw [show 4 - i = (3 - i) + 1 by omega, LexW.four] at hx
      have hpk := LexW.peek_f b p1
      clear HX HN
      by_cases hp : p1 < b.length
      · rw [if_pos hp] at hx
        rw [if_pos hp, decide_eq_true hp] at hpk
        have HPK := Aside0.mk hpk
        clear hpk
        have hdl := LexT.hex_lt (LexW.at_ b p1)
        obtain ⟨d, hdd⟩ : ∃ d, d = LexW.hex (LexW.at_ b p1) := ⟨_, rfl⟩
        rw [← hdd] at hx hdl
        have HDD := Aside0.mk hdd
        clear hdd
        by_cases hd0 : 0 ≤ d
        · rw [if_pos hd0] at hx
          have hor := LexT.or16 n d hn0 (by omega) hd0 hdl.2
          have hdb : decide (d < 0) = false := decide_eq_false (by omega)
          by_cases ht : LexW.T2 i (n * 16 + d) = true
          · rw [if_pos ht] at hx
            have HX := Aside0.mk hx
            have HN := Aside0.mk (show i + 1 = 0 ∧ n * 16 + d = 0 ∨ i + 1 = 1 ∧ n * 16 + d < 16 ∨ i + 1 = 2 ∧ n * 16 + d < 256 ∨ i + 1 = 3 ∧ n * 16 + d < 4096 ∨ i + 1 = 4 by omega)
            have HD0 := Aside0.mk (show 0 ≤ n * 16 + d by omega)
            clear hx hN2
            go_wp2_with (first | (go_at_call 28; (with_reducible refine (lexs_peek.calls g b p1 _ _ _ w0 _ HI.out HB.out HPK.out).mono ?_); rintro e w1 ⟨rfl, hi, hb, hk⟩; have n0_ := Aside0.mk (keep_from HK.out hk); have n1_ := Aside0.mk hb; have n2_ := Aside0.mk hi; clear HK HB HI hi hb hk; have HK := n0_; have HB := n1_; have HI := n2_; clear n0_ n1_ n2_) | (go_at_call 69; (with_reducible refine (lex_hex.calls (LexW.at_ b p1) (hby _).1 (hby _).2 _).mono ?_); rintro e w1 ⟨rfl, hd⟩; have hb := hd.below; clear hd; rw [← HDD.out]; have n0_ := Aside0.mk (keep_from HK.out (KeepBut.of_below hb g none)); have n1_ := Aside0.mk (below_step HB.out hb); have n2_ := Aside0.mk (HI.out.below hb); clear HK HB HI hb; have HK := n0_; have HB := n1_; have HI := n2_; clear n0_ n1_ n2_) | (go_at_call 63; (try rw [hor]); (with_reducible refine (LexT.t2 i hi4 (n * 16 + d) _).mono ?_); rintro e w1 ⟨rfl, hb⟩; rw [ht]; have n0_ := Aside0.mk (keep_from HK.out (KeepBut.of_below hb g none)); have n1_ := Aside0.mk (below_step HB.out hb); have n2_ := Aside0.mk (HI.out.below hb); clear HK HB HI hb; have HK := n0_; have HB := n1_; have HI := n2_; clear n0_ n1_ n2_; obtain ⟨A0, c0, HG, hg, HS, hcp⟩ := HI.out; have hc1 := cellLexS_1 HG; have hf1 := blk_frozen HG 1; clear HG hg HS))
            go_roundg (4 - (i + 1))
            case measure => omega
            case rel => exact ⟨i + 1, p1 + 1, n * 16 + d, by first | rfl | rw [hor], by go_num, rfl, by omega, by omega, HD0.out, HN, ⟨by rw [show 4 - (i + 1) = 3 - i by omega]; exact HX.out⟩, ⟨HI.out.set_1 _⟩, ⟨below_set HB.out HI.out.ge⟩, ⟨HK.out.set_ _ _⟩⟩
          · rw [if_neg ht] at hx
            replace ht := Bool.eq_false_iff.mpr ht
            obtain ⟨e1_, e2_⟩ := Prod.mk.inj hx; obtain ⟨e2_, e3_⟩ := Prod.mk.inj e2_; subst e1_; subst e2_; subst e3_; clear hx
            clear hN2
            go_wp2_with (first | (go_at_call 28; (with_reducible refine (lexs_peek.calls g b p1 _ _ _ w0 _ HI.out HB.out HPK.out).mono ?_); rintro e w1 ⟨rfl, hi, hb, hk⟩; have n0_ := Aside0.mk (keep_from HK.out hk); have n1_ := Aside0.mk hb; have n2_ := Aside0.mk hi; clear HK HB HI hi hb hk; have HK := n0_; have HB := n1_; have HI := n2_; clear n0_ n1_ n2_) | (go_at_call 69; (with_reducible refine (lex_hex.calls (LexW.at_ b p1) (hby _).1 (hby _).2 _).mono ?_); rintro e w1 ⟨rfl, hd⟩; have hb := hd.below; clear hd; rw [← HDD.out]; have n0_ := Aside0.mk (keep_from HK.out (KeepBut.of_below hb g none)); have n1_ := Aside0.mk (below_step HB.out hb); have n2_ := Aside0.mk (HI.out.below hb); clear HK HB HI hb; have HK := n0_; have HB := n1_; have HI := n2_; clear n0_ n1_ n2_) | (go_at_call 63; (try rw [hor]); (with_reducible refine (LexT.t2 i hi4 (n * 16 + d) _).mono ?_); rintro e w1 ⟨rfl, hb⟩; rw [ht]; have n0_ := Aside0.mk (keep_from HK.out (KeepBut.of_below hb g none)); have n1_ := Aside0.mk (below_step HB.out hb); have n2_ := Aside0.mk (HI.out.below hb); clear HK HB HI hb; have HK := n0_; have HB := n1_; have HI := n2_; clear n0_ n1_ n2_) | (go_at_call 33; (with_reducible refine (lex_scanner_fail.calls g b p1 (by omega) w0 _ HI.out HB.out).mono ?_); rintro e w1 ⟨v1, rfl, he, hi, hb, hk⟩; have HE := Aside0.mk he; clear he; have n0_ := Aside0.mk (keep_from HK.out hk); have n1_ := Aside0.mk hb; have n2_ := Aside0.mk hi; clear HK HB HI hi hb hk; have HK := n0_; have HB := n1_; have HI := n2_; clear n0_ n1_ n2_))
            go_ret2
            exact ⟨_, rfl, HE.out, HI.out, HB.out, HK.out⟩
        · rw [if_neg hd0] at hx
          have hdb : decide (d < 0) = true := decide_eq_true (by omega)
          obtain ⟨e1_, e2_⟩ := Prod.mk.inj hx; obtain ⟨e2_, e3_⟩ := Prod.mk.inj e2_; subst e1_; subst e2_; subst e3_; clear hx
          clear hN2
          go_wp2_with (first | (go_at_call 28; (with_reducible refine (lexs_peek.calls g b p1 _ _ _ w0 _ HI.out HB.out HPK.out).mono ?_); rintro e w1 ⟨rfl, hi, hb, hk⟩; have n0_ := Aside0.mk (keep_from HK.out hk); have n1_ := Aside0.mk hb; have n2_ := Aside0.mk hi; clear HK HB HI hi hb hk; have HK := n0_; have HB := n1_; have HI := n2_; clear n0_ n1_ n2_) | (go_at_call 69; (with_reducible refine (lex_hex.calls (LexW.at_ b p1) (hby _).1 (hby _).2 _).mono ?_); rintro e w1 ⟨rfl, hd⟩; have hb := hd.below; clear hd; rw [← HDD.out]; have n0_ := Aside0.mk (keep_from HK.out (KeepBut.of_below hb g none)); have n1_ := Aside0.mk (below_step HB.out hb); have n2_ := Aside0.mk (HI.out.below hb); clear HK HB HI hb; have HK := n0_; have HB := n1_; have HI := n2_; clear n0_ n1_ n2_) | (go_at_call 33; (with_reducible refine (lex_scanner_fail.calls g b p1 (by omega) w0 _ HI.out HB.out).mono ?_); rintro e w1 ⟨v1, rfl, he, hi, hb, hk⟩; have HE := Aside0.mk he; clear he; have n0_ := Aside0.mk (keep_from HK.out hk); have n1_ := Aside0.mk hb; have n2_ := Aside0.mk hi; clear HK HB HI hi hb hk; have HK := n0_; have HB := n1_; have HI := n2_; clear n0_ n1_ n2_))
          go_ret2
          exact ⟨_, rfl, HE.out, HI.out, HB.out, HK.out⟩
      · rw [if_neg hp] at hx
        rw [if_neg hp, decide_eq_false hp] at hpk
        have HPK := Aside0.mk hpk
        clear hpk
        obtain ⟨e1_, e2_⟩ := Prod.mk.inj hx; obtain ⟨e2_, e3_⟩ := Prod.mk.inj e2_; subst e1_; subst e2_; subst e3_; clear hx
        clear hN2
        go_wp2_with (first | (go_at_call 28; (with_reducible refine (lexs_peek.calls g b p1 _ _ _ w0 _ HI.out HB.out HPK.out).mono ?_); rintro e w1 ⟨rfl, hi, hb, hk⟩; have n0_ := Aside0.mk (keep_from HK.out hk); have n1_ := Aside0.mk hb; have n2_ := Aside0.mk hi; clear HK HB HI hi hb hk; have HK := n0_; have HB := n1_; have HI := n2_; clear n0_ n1_ n2_) | (go_at_call 69; (with_reducible refine (lex_hex.calls 0 (by decide) (by decide) _).mono ?_); rintro e w1 ⟨rfl, hd⟩; have hb := hd.below; clear hd; rw [show LexW.hex 0 = -1 from rfl]; have n0_ := Aside0.mk (keep_from HK.out (KeepBut.of_below hb g none)); have n1_ := Aside0.mk (below_step HB.out hb); have n2_ := Aside0.mk (HI.out.below hb); clear HK HB HI hb; have HK := n0_; have HB := n1_; have HI := n2_; clear n0_ n1_ n2_) | (go_at_call 33; (with_reducible refine (lex_scanner_fail.calls g b p1 (by omega) w0 _ HI.out HB.out).mono ?_); rintro e w1 ⟨v1, rfl, he, hi, hb, hk⟩; have HE := Aside0.mk he; clear he; have n0_ := Aside0.mk (keep_from HK.out hk); have n1_ := Aside0.mk hb; have n2_ := Aside0.mk hi; clear HK HB HI hi hb hk; have HK := n0_; have HB := n1_; have HI := n2_; clear n0_ n1_ n2_))
        go_ret2
        exact ⟨_, rfl, HE.out, HI.out, HB.out, HK.out⟩
    · obtain rfl : i = 4 := by omega
      have hx := HX.out
      rw [show 4 - 4 = 0 from rfl, LexW.four] at hx
      obtain ⟨e1_, e2_⟩ := Prod.mk.inj hx; obtain ⟨e2_, e3_⟩ := Prod.mk.inj e2_; subst e1_; subst e2_; subst e3_; clear hx
      clear HN HX
      go_wp2
      go_ret2
      exact ⟨_, rfl, rfl, HI.out, HB.out, HK.out⟩

-- GIVEN plain making
theorem LexW.exactly_le : ∀ (l : List Int) {b : List Int} {p q : Nat} {r : Option Nat}, LexW.exactly l b p = (r, q) → p ≤ b.length → q ≤ b.length := by
  intro l
  induction l with
  | nil => intro b p q r h hp; rw [LexW.exactly] at h; cases h; exact hp
  | cons c l ih =>
    intro b p q r h hp
    rw [LexW.exactly] at h
    rcases hmu : LexW.must (fun x => x == c) b p with ⟨r1, q1⟩
    rw [hmu] at h
    have := LexW.must_le hmu hp
    split at h
    · cases h; exact this
    · exact ih h this
theorem LexW.four_le (T : Nat → Int → Bool) (b : List Int) : ∀ (k i : Nat) (n : Int) {p q : Nat} {r : Option Nat} {nr : Int}, LexW.four T b k i n p = (r, nr, q) → p ≤ b.length → q ≤ b.length := by
  intro k
  induction k with
  | zero => intro i n p q r nr h hp; rw [LexW.four] at h; cases h; exact hp
  | succ k ih =>
    intro i n p q r nr h hp
    rw [LexW.four] at h
    split at h
    · split at h
      · split at h
        · exact ih _ _ h (by omega)
        · cases h; exact hp
      · cases h; exact hp
    · cases h; exact hp
theorem LexT.esc_idx (c : Int) (h0 : 0 ≤ c) (h1 : c ≤ 255) : Lib.indexByte [34, 92, 47, 98, 102, 110, 114, 116] (UInt8.ofNat c.toNat) = LexW.idx c LexW.escFrom := LexT.idx_eq [34, 92, 47, 98, 102, 110, 114, 116] c h0 h1
theorem LexW.idx_range (c : Int) : ∀ l : List Int, -1 ≤ LexW.idx c l ∧ LexW.idx c l < l.length := by
  intro l
  induction l with
  | nil => rw [LexW.idx]; simp
  | cons x l ih => rw [LexW.idx, List.length_cons]; split; omega; split <;> omega
theorem LexW.four_range (T : Nat → Int → Bool) (b : List Int) : ∀ (k i : Nat) (n : Int) {p q : Nat} {r : Option Nat} {nr : Int}, LexW.four T b k i n p = (r, nr, q) → 0 ≤ n → 0 ≤ nr ∧ nr < (n + 1) * 16 ^ k := by
  intro k
  induction k with
  | zero => intro i n p q r nr h hn; rw [LexW.four] at h; cases h; omega
  | succ k ih =>
    intro i n p q r nr h hn
    have hp : (0 : Int) < 16 ^ (k + 1) := Int.pow_pos (by decide)
    have hz : (0 : Int) < (n + 1) * 16 ^ (k + 1) := Int.mul_pos (by omega) hp
    rw [LexW.four] at h
    split at h
    · split at h
      · rename_i h2
        split at h
        · have h3 := LexT.hex_lt (LexW.at_ b p)
          obtain ⟨i1, i2⟩ := ih _ _ h (by omega)
          refine ⟨i1, Int.lt_of_lt_of_le i2 ?_⟩
          rw [Int.pow_succ, ← Int.mul_assoc, Int.mul_right_comm]
          exact Int.mul_le_mul_of_nonneg_right (by omega) (Int.le_of_lt (Int.pow_pos (by decide)))
        · cases h; omega
      · cases h; omega
    · cases h; omega
theorem LexW.inj3 {r r' : Option Nat} {n n' : Int} {q q' : Nat} (h : (r, n, q) = (r', n', q')) : r = r' ∧ n = n' ∧ q = q' := by cases h; exact ⟨rfl, rfl, rfl⟩
theorem LexT.escv {x y : Int} {v : Value} (h : x = y) : Ending.returned (.tuple #[.int .i64 x, v]) = Ending.returned (.tuple #[.int .i64 y, v]) := by rw [h]
theorem LexW.four_step {T : Nat → Int → Bool} {b : List Int} {k i : Nat} {n nr : Int} {p q : Nat} (h : LexW.four T b (k + 1) i n p = (none, nr, q)) : p < b.length ∧ 0 ≤ LexW.hex (LexW.at_ b p) ∧ T i (n * 16 + LexW.hex (LexW.at_ b p)) = true ∧ LexW.four T b k (i + 1) (n * 16 + LexW.hex (LexW.at_ b p)) (p + 1) = (none, nr, q) := by
  rw [LexW.four] at h
  split at h
  · split at h
    · split at h
      · exact ⟨by assumption, by assumption, by assumption, h⟩
      · cases h
    · cases h
  · cases h
theorem LexW.four_all {T : Nat → Int → Bool} {b : List Int} {nr : Int} {p q : Nat} (h : LexW.four T b 4 0 0 p = (none, nr, q)) : ∃ a b c d : Int, 0 ≤ a ∧ a < 16 ∧ 0 ≤ b ∧ b < 16 ∧ 0 ≤ c ∧ c < 16 ∧ 0 ≤ d ∧ d < 16 ∧ T 0 a = true ∧ T 1 (a * 16 + b) = true ∧ nr = ((a * 16 + b) * 16 + c) * 16 + d := by
  obtain ⟨_, h1, t1, h⟩ := LexW.four_step h
  obtain ⟨_, h2, t2, h⟩ := LexW.four_step h
  obtain ⟨_, h3, t3, h⟩ := LexW.four_step h
  obtain ⟨_, h4, t4, h⟩ := LexW.four_step h
  rw [LexW.four] at h
  simp only [Prod.mk.injEq, true_and] at h
  refine ⟨_, _, _, _, h1, (LexT.hex_lt _).2, h2, (LexT.hex_lt _).2, h3, (LexT.hex_lt _).2, h4, (LexT.hex_lt _).2, ?_, ?_, ?_⟩
  · simpa using t1
  · simpa using t2
  · rw [← h.1]; simp
theorem LexW.pair_f {b : List Int} {hi lo : Int} {p q p2 q2 : Nat} (h : LexW.four LexW.T1 b 4 0 0 p = (none, hi, q)) (h1 : ¬ hi < 55296) (h2 : ¬ hi > 57343) (h3 : LexW.four LexW.T2 b 4 0 0 p2 = (none, lo, q2)) : utf_Pair.f hi lo = some (LexW.pairOf hi lo, 0) := by
  obtain ⟨a, b1, c, d, a0, a1, b0, b2, c0, c1, d0, d1, t0, t1, e⟩ := LexW.four_all h
  obtain ⟨a', b1', c', d', a0', a1', b0', b2', c0', c1', d0', d1', t0', t1', e'⟩ := LexW.four_all h3
  have k1 : a * 16 + b1 < 220 ∨ a * 16 + b1 > 223 := by simpa [LexW.T1] using t1
  have k2 : a' = 13 := by simpa [LexW.T2] using t0'
  have k3 : a' * 16 + b1' ≥ 220 := by simpa [LexW.T2] using t1'
  clear t0 t1 t0' t1' h h3
  unfold utf_Pair.f LexW.pairOf
  rw [if_neg h1, if_neg (by omega), if_neg (by omega), if_neg (by omega)]
  have e1 : wrap64 (wrap64 (hi - 55296) * 1024) = (hi - 55296) * 1024 := by unfold wrap64; omega
  have e2 : wrap64 (wrap64 (lo - 55296) - 1024) = lo - 56320 := by unfold wrap64; omega
  rw [e1, e2]
  have e3 : Go.bits .or .i64 ((hi - 55296) * 1024) (lo - 56320) = (hi - 55296) * 1024 + (lo - 56320) :=
    bits_join .i64 62 (by decide) (fun x h0 h1 => by rw [IntKind.wrap_i64]; omega) 10 ((hi - 55296) * 1024) (lo - 56320) (by omega) (by omega) (by omega) (by omega) (by omega) (by omega)
  rw [e3]
  have e4 : wrap64 (65536 + ((hi - 55296) * 1024 + (lo - 56320))) = 65536 + (hi - 55296) * 1024 + (lo - 56320) := by unfold wrap64; omega
  rw [e4]
set_option maxHeartbeats 4000000 in
set_option maxRecDepth 100000 in
theorem lex_scanner_escape.calls (g : Nat) (b : List Int) (p q : Nat) (r : Option Nat) (nr : Int) (w0 w : World) (hI : LexS w0 w g b p) (hB : Below w0.heap.size w0 w) (hpl : p ≤ b.length) (hm : b.length < 9223372036854775807) (hby : ∀ p, 0 ≤ LexW.at_ b p ∧ LexW.at_ b p ≤ 255) (h : LexW.escape b p = (r, nr, q)) :
    Calls Tryd.prog 48 #[.pointer (some ⟨g, 0, none⟩)] w fun e w' => ∃ v, e = .returned (.tuple #[.int .i64 nr, v]) ∧ BadE w' v (r.map fun (n : Nat) => (n : Int)) ∧ LexS w0 w' g b q ∧ Below w0.heap.size w0 w' ∧ KeepBut w w' g none := by
  have HI := Aside0.mk hI
  have HK := Aside0.mk (KeepBut.refl w g none)
  have HB := Aside0.mk hB
  clear hI hB
  have hpk := LexW.peek_f b p
  have HBY := Aside0.mk hby
  unfold LexW.escape at h
  by_cases hp : p < b.length
  · rw [if_pos hp] at h
    rw [if_pos hp, decide_eq_true hp] at hpk
    have HPK := Aside0.mk hpk
    clear hpk
    have hix := LexT.esc_idx (LexW.at_ b p) (hby p).1 (hby p).2
    have hrg := LexW.idx_range (LexW.at_ b p) LexW.escFrom
    rw [show LexW.escFrom.length = 8 from rfl] at hrg
    obtain ⟨j, hj⟩ : ∃ j, j = LexW.idx (LexW.at_ b p) LexW.escFrom := ⟨_, rfl⟩
    rw [← hj] at hix h hrg
    have HJ := Aside0.mk hj
    clear hj hby
    by_cases h0 : 0 ≤ j
    · rw [if_pos h0] at h
      obtain ⟨e1, e2, e3⟩ := LexW.inj3 h
      subst e1; subst e2; subst e3
      clear h
      have hbt : bt (⟨#[34, 92, 47, 8, 12, 10, 13, 9]⟩ : ByteArray) j = LexW.escTo.getD j.toNat 0 := by
        obtain rfl | rfl | rfl | rfl | rfl | rfl | rfl | rfl : j = 0 ∨ j = 1 ∨ j = 2 ∨ j = 3 ∨ j = 4 ∨ j = 5 ∨ j = 6 ∨ j = 7 := by omega
        all_goals kernel_rfl
      have hrb : 0 ≤ LexW.escTo.getD j.toNat 0 ∧ LexW.escTo.getD j.toNat 0 ≤ 255 := by
        obtain rfl | rfl | rfl | rfl | rfl | rfl | rfl | rfl : j = 0 ∨ j = 1 ∨ j = 2 ∨ j = 3 ∨ j = 4 ∨ j = 5 ∨ j = 6 ∨ j = 7 := by omega
        all_goals decide
      rw [← hbt] at hrb ⊢
      have hwr : wrap64 (bt (⟨#[34, 92, 47, 8, 12, 10, 13, 9]⟩ : ByteArray) j) = bt (⟨#[34, 92, 47, 8, 12, 10, 13, 9]⟩ : ByteArray) j := by unfold wrap64; omega
      have HWR := Aside0.mk hwr
      have q8 : j < (8 : Int) := by omega
      have hx8 := bt_at (⟨#[34, 92, 47, 8, 12, 10, 13, 9]⟩ : ByteArray) j
      have p8b : decide (0 ≤ j) = true := decide_eq_true h0
      have p8 := eq_true h0
      replace q8 := eq_true q8
      clear hbt hrb hwr h0 hrg
      go_enter Tryd.func48, Tryd.ntmps48
      go_wp2_with (first | (go_at_call 28; (with_reducible refine (lexs_peek.calls g b p _ _ _ w0 _ HI.out HB.out HPK.out).mono ?_); rintro e w1 ⟨rfl, hi, hb, hk⟩; have n0_ := Aside0.mk (keep_from HK.out hk); have n1_ := Aside0.mk hb; have n2_ := Aside0.mk hi; clear HK HB HI hi hb hk; have HK := n0_; have HB := n1_; have HI := n2_; clear n0_ n1_ n2_) | (go_at_call 23; (with_reducible refine (LexT.i23 _ (LexW.at_ b p) _).mono ?_); rintro e w1 ⟨rfl, hd⟩; have hb := hd.below; clear hd; (try rw [hix]); have n0_ := Aside0.mk (keep_from HK.out (KeepBut.of_below hb g none)); have n1_ := Aside0.mk (below_step HB.out hb); have n2_ := Aside0.mk (HI.out.below hb); clear HK HB HI hb; have HK := n0_; have HB := n1_; have HI := n2_; clear n0_ n1_ n2_; obtain ⟨A0, c0, HG, hg, HS, hcp⟩ := HI.out; have hc1 := cellLexS_1 HG; have hf1 := blk_frozen HG 1; clear HG hg HS))
      go_ret2
      exact ⟨_, LexT.escv (by first | rfl | exact HWR.out), rfl, HI.out.set_1 _, below_set HB.out HI.out.ge, HK.out.set_ _ _⟩
    · rw [if_neg h0] at h
      have hjb : decide (0 ≤ j) = false := decide_eq_false h0
      clear h0
      unfold LexW.uesc at h
      rcases h2 : LexW.exactly [117] b p with ⟨r2, q2⟩
      have l2 := LexW.exactly_le _ h2 hpl
      have H2 := Aside0.mk (show LexW.exactly (bytesOf (⟨#[117]⟩ : ByteArray)) b p = (r2, q2) from h2)
      simp only [h2] at h
      cases r2 with
      | some e2 =>
        simp only [Option.isSome_some, if_true] at h
        obtain ⟨e1, e2, e3⟩ := LexW.inj3 h
        subst e1; subst e2; subst e3
        clear h
        go_enter Tryd.func48, Tryd.ntmps48
        go_wp2_with (first | (go_at_call 28; (with_reducible refine (lexs_peek.calls g b p _ _ _ w0 _ HI.out HB.out HPK.out).mono ?_); rintro e w1 ⟨rfl, hi, hb, hk⟩; have n0_ := Aside0.mk (keep_from HK.out hk); have n1_ := Aside0.mk hb; have n2_ := Aside0.mk hi; clear HK HB HI hi hb hk; have HK := n0_; have HB := n1_; have HI := n2_; clear n0_ n1_ n2_) | (go_at_call 23; (with_reducible refine (LexT.i23 _ (LexW.at_ b p) _).mono ?_); rintro e w1 ⟨rfl, hd⟩; have hb := hd.below; clear hd; (try rw [hix]); have n0_ := Aside0.mk (keep_from HK.out (KeepBut.of_below hb g none)); have n1_ := Aside0.mk (below_step HB.out hb); have n2_ := Aside0.mk (HI.out.below hb); clear HK HB HI hb; have HK := n0_; have HB := n1_; have HI := n2_; clear n0_ n1_ n2_) | (go_at_call 29; (with_reducible refine (lex_scanner_exactly.calls g b (⟨#[117]⟩ : ByteArray) _ _ _ w0 _ HI.out HB.out (by assumption) hm (by decide) H2.out).mono ?_); rintro e w1 ⟨v1, rfl, he, hi, hb, hk⟩; obtain ⟨pe, rfl, hpe⟩ := he; have HE := Aside0.mk (show BadE _ _ (some _) from ⟨pe, rfl, hpe⟩); clear hpe; have n0_ := Aside0.mk (keep_from HK.out hk); have n1_ := Aside0.mk hb; have n2_ := Aside0.mk hi; clear HK HB HI hi hb hk; have HK := n0_; have HB := n1_; have HI := n2_; clear n0_ n1_ n2_))
        go_ret2
        exact ⟨_, rfl, HE.out, HI.out, HB.out, HK.out⟩
      | none =>
        simp only [Option.isSome_none, Bool.false_eq_true, if_false] at h
        rcases h3 : LexW.four LexW.T1 b 4 0 0 q2 with ⟨r3, hi, q3⟩
        have l3 := LexW.four_le _ _ _ _ _ h3 l2
        have g3 := LexW.four_range _ _ _ _ _ h3 (by decide)
        simp only [h3] at h
        cases r3 with
        | some e3 =>
          simp only [Option.isSome_some, if_true] at h
          obtain ⟨e1, e2, e3⟩ := LexW.inj3 h
          subst e1; subst e2; subst e3
          clear h
          go_enter Tryd.func48, Tryd.ntmps48
          go_wp2_with (first | (go_at_call 28; (with_reducible refine (lexs_peek.calls g b p _ _ _ w0 _ HI.out HB.out HPK.out).mono ?_); rintro e w1 ⟨rfl, hi, hb, hk⟩; have n0_ := Aside0.mk (keep_from HK.out hk); have n1_ := Aside0.mk hb; have n2_ := Aside0.mk hi; clear HK HB HI hi hb hk; have HK := n0_; have HB := n1_; have HI := n2_; clear n0_ n1_ n2_) | (go_at_call 23; (with_reducible refine (LexT.i23 _ (LexW.at_ b p) _).mono ?_); rintro e w1 ⟨rfl, hd⟩; have hb := hd.below; clear hd; (try rw [hix]); have n0_ := Aside0.mk (keep_from HK.out (KeepBut.of_below hb g none)); have n1_ := Aside0.mk (below_step HB.out hb); have n2_ := Aside0.mk (HI.out.below hb); clear HK HB HI hb; have HK := n0_; have HB := n1_; have HI := n2_; clear n0_ n1_ n2_) | (go_at_call 29; (with_reducible refine (lex_scanner_exactly.calls g b (⟨#[117]⟩ : ByteArray) _ _ _ w0 _ HI.out HB.out (by assumption) hm (by decide) H2.out).mono ?_); rintro e w1 ⟨v1, rfl, he, hi, hb, hk⟩; (obtain rfl : v1 = _ := he); have n0_ := Aside0.mk (keep_from HK.out hk); have n1_ := Aside0.mk hb; have n2_ := Aside0.mk hi; clear HK HB HI hi hb hk; have HK := n0_; have HB := n1_; have HI := n2_; clear n0_ n1_ n2_) | (go_at_call 61; (with_reducible refine (lex_scanner_four.calls_1 g b _ _ _ _ w0 _ HI.out HB.out (by assumption) hm HBY.out h3).mono ?_); rintro e w1 ⟨v1, rfl, he, hi, hb, hk⟩; obtain ⟨pe, rfl, hpe⟩ := he; have HE := Aside0.mk (show BadE _ _ (some _) from ⟨pe, rfl, hpe⟩); clear hpe; have n0_ := Aside0.mk (keep_from HK.out hk); have n1_ := Aside0.mk hb; have n2_ := Aside0.mk hi; clear HK HB HI hi hb hk; have HK := n0_; have HB := n1_; have HI := n2_; clear n0_ n1_ n2_))
          go_ret2
          exact ⟨_, rfl, HE.out, HI.out, HB.out, HK.out⟩
        | none =>
          simp only [Option.isSome_none, Bool.false_eq_true, if_false] at h
          by_cases h4 : hi < 55296
          · rw [if_pos h4] at h
            have b4 : decide (hi < 55296) = true := decide_eq_true h4
            obtain ⟨e1, e2, e3⟩ := LexW.inj3 h
            subst e1; subst e2; subst e3
            clear h
            go_enter Tryd.func48, Tryd.ntmps48
            go_wp2_with (first | (go_at_call 28; (with_reducible refine (lexs_peek.calls g b p _ _ _ w0 _ HI.out HB.out HPK.out).mono ?_); rintro e w1 ⟨rfl, hi, hb, hk⟩; have n0_ := Aside0.mk (keep_from HK.out hk); have n1_ := Aside0.mk hb; have n2_ := Aside0.mk hi; clear HK HB HI hi hb hk; have HK := n0_; have HB := n1_; have HI := n2_; clear n0_ n1_ n2_) | (go_at_call 23; (with_reducible refine (LexT.i23 _ (LexW.at_ b p) _).mono ?_); rintro e w1 ⟨rfl, hd⟩; have hb := hd.below; clear hd; (try rw [hix]); have n0_ := Aside0.mk (keep_from HK.out (KeepBut.of_below hb g none)); have n1_ := Aside0.mk (below_step HB.out hb); have n2_ := Aside0.mk (HI.out.below hb); clear HK HB HI hb; have HK := n0_; have HB := n1_; have HI := n2_; clear n0_ n1_ n2_) | (go_at_call 29; (with_reducible refine (lex_scanner_exactly.calls g b (⟨#[117]⟩ : ByteArray) _ _ _ w0 _ HI.out HB.out (by assumption) hm (by decide) H2.out).mono ?_); rintro e w1 ⟨v1, rfl, he, hi, hb, hk⟩; (obtain rfl : v1 = _ := he); have n0_ := Aside0.mk (keep_from HK.out hk); have n1_ := Aside0.mk hb; have n2_ := Aside0.mk hi; clear HK HB HI hi hb hk; have HK := n0_; have HB := n1_; have HI := n2_; clear n0_ n1_ n2_) | (go_at_call 61; (with_reducible refine (lex_scanner_four.calls_1 g b _ _ _ _ w0 _ HI.out HB.out (by assumption) hm HBY.out h3).mono ?_); rintro e w1 ⟨v1, rfl, he, hi, hb, hk⟩; (obtain rfl : v1 = _ := he); have n0_ := Aside0.mk (keep_from HK.out hk); have n1_ := Aside0.mk hb; have n2_ := Aside0.mk hi; clear HK HB HI hi hb hk; have HK := n0_; have HB := n1_; have HI := n2_; clear n0_ n1_ n2_))
            go_ret2
            exact ⟨_, rfl, rfl, HI.out, HB.out, HK.out⟩
          · rw [if_neg h4] at h
            have b4 : decide (hi < 55296) = false := decide_eq_false h4
            by_cases h5 : hi > 57343
            · rw [if_pos h5] at h
              have b5 : decide (57343 < hi) = true := decide_eq_true h5
              obtain ⟨e1, e2, e3⟩ := LexW.inj3 h
              subst e1; subst e2; subst e3
              clear h
              go_enter Tryd.func48, Tryd.ntmps48
              go_wp2_with (first | (go_at_call 28; (with_reducible refine (lexs_peek.calls g b p _ _ _ w0 _ HI.out HB.out HPK.out).mono ?_); rintro e w1 ⟨rfl, hi, hb, hk⟩; have n0_ := Aside0.mk (keep_from HK.out hk); have n1_ := Aside0.mk hb; have n2_ := Aside0.mk hi; clear HK HB HI hi hb hk; have HK := n0_; have HB := n1_; have HI := n2_; clear n0_ n1_ n2_) | (go_at_call 23; (with_reducible refine (LexT.i23 _ (LexW.at_ b p) _).mono ?_); rintro e w1 ⟨rfl, hd⟩; have hb := hd.below; clear hd; (try rw [hix]); have n0_ := Aside0.mk (keep_from HK.out (KeepBut.of_below hb g none)); have n1_ := Aside0.mk (below_step HB.out hb); have n2_ := Aside0.mk (HI.out.below hb); clear HK HB HI hb; have HK := n0_; have HB := n1_; have HI := n2_; clear n0_ n1_ n2_) | (go_at_call 29; (with_reducible refine (lex_scanner_exactly.calls g b (⟨#[117]⟩ : ByteArray) _ _ _ w0 _ HI.out HB.out (by assumption) hm (by decide) H2.out).mono ?_); rintro e w1 ⟨v1, rfl, he, hi, hb, hk⟩; (obtain rfl : v1 = _ := he); have n0_ := Aside0.mk (keep_from HK.out hk); have n1_ := Aside0.mk hb; have n2_ := Aside0.mk hi; clear HK HB HI hi hb hk; have HK := n0_; have HB := n1_; have HI := n2_; clear n0_ n1_ n2_) | (go_at_call 61; (with_reducible refine (lex_scanner_four.calls_1 g b _ _ _ _ w0 _ HI.out HB.out (by assumption) hm HBY.out h3).mono ?_); rintro e w1 ⟨v1, rfl, he, hi, hb, hk⟩; (obtain rfl : v1 = _ := he); have n0_ := Aside0.mk (keep_from HK.out hk); have n1_ := Aside0.mk hb; have n2_ := Aside0.mk hi; clear HK HB HI hi hb hk; have HK := n0_; have HB := n1_; have HI := n2_; clear n0_ n1_ n2_))
              go_ret2
              exact ⟨_, rfl, rfl, HI.out, HB.out, HK.out⟩
            · rw [if_neg h5] at h
              have b5 : decide (57343 < hi) = false := decide_eq_false h5
              unfold LexW.tail2 at h
              rcases h6 : LexW.exactly [92, 117] b q3 with ⟨r6, q6⟩
              have l6 := LexW.exactly_le _ h6 l3
              have H6 := Aside0.mk (show LexW.exactly (bytesOf (⟨#[92, 117]⟩ : ByteArray)) b q3 = (r6, q6) from h6)
              simp only [h6] at h
              cases r6 with
              | some e6 =>
                simp only [Option.isSome_some, if_true] at h
                obtain ⟨e1, e2, e3⟩ := LexW.inj3 h
                subst e1; subst e2; subst e3
                clear h
                go_enter Tryd.func48, Tryd.ntmps48
                go_wp2_with (first | (go_at_call 28; (with_reducible refine (lexs_peek.calls g b p _ _ _ w0 _ HI.out HB.out HPK.out).mono ?_); rintro e w1 ⟨rfl, hi, hb, hk⟩; have n0_ := Aside0.mk (keep_from HK.out hk); have n1_ := Aside0.mk hb; have n2_ := Aside0.mk hi; clear HK HB HI hi hb hk; have HK := n0_; have HB := n1_; have HI := n2_; clear n0_ n1_ n2_) | (go_at_call 23; (with_reducible refine (LexT.i23 _ (LexW.at_ b p) _).mono ?_); rintro e w1 ⟨rfl, hd⟩; have hb := hd.below; clear hd; (try rw [hix]); have n0_ := Aside0.mk (keep_from HK.out (KeepBut.of_below hb g none)); have n1_ := Aside0.mk (below_step HB.out hb); have n2_ := Aside0.mk (HI.out.below hb); clear HK HB HI hb; have HK := n0_; have HB := n1_; have HI := n2_; clear n0_ n1_ n2_) | (go_at_call 29; (with_reducible refine (lex_scanner_exactly.calls g b (⟨#[117]⟩ : ByteArray) _ _ _ w0 _ HI.out HB.out (by assumption) hm (by decide) H2.out).mono ?_); rintro e w1 ⟨v1, rfl, he, hi, hb, hk⟩; (obtain rfl : v1 = _ := he); have n0_ := Aside0.mk (keep_from HK.out hk); have n1_ := Aside0.mk hb; have n2_ := Aside0.mk hi; clear HK HB HI hi hb hk; have HK := n0_; have HB := n1_; have HI := n2_; clear n0_ n1_ n2_) | (go_at_call 61; (with_reducible refine (lex_scanner_four.calls_1 g b _ _ _ _ w0 _ HI.out HB.out (by assumption) hm HBY.out h3).mono ?_); rintro e w1 ⟨v1, rfl, he, hi, hb, hk⟩; (obtain rfl : v1 = _ := he); have n0_ := Aside0.mk (keep_from HK.out hk); have n1_ := Aside0.mk hb; have n2_ := Aside0.mk hi; clear HK HB HI hi hb hk; have HK := n0_; have HB := n1_; have HI := n2_; clear n0_ n1_ n2_) | (go_at_call 29; (with_reducible refine (lex_scanner_exactly.calls g b (⟨#[92, 117]⟩ : ByteArray) _ _ _ w0 _ HI.out HB.out (by assumption) hm (by decide) H6.out).mono ?_); rintro e w1 ⟨v1, rfl, he, hi, hb, hk⟩; obtain ⟨pe, rfl, hpe⟩ := he; have HE := Aside0.mk (show BadE _ _ (some _) from ⟨pe, rfl, hpe⟩); clear hpe; have n0_ := Aside0.mk (keep_from HK.out hk); have n1_ := Aside0.mk hb; have n2_ := Aside0.mk hi; clear HK HB HI hi hb hk; have HK := n0_; have HB := n1_; have HI := n2_; clear n0_ n1_ n2_))
                go_ret2
                exact ⟨_, rfl, HE.out, HI.out, HB.out, HK.out⟩
              | none =>
                simp only [Option.isSome_none, Bool.false_eq_true, if_false] at h
                rcases h7 : LexW.four LexW.T2 b 4 0 0 q6 with ⟨r7, lo, q7⟩
                simp only [h7] at h
                cases r7 with
                | some e7 =>
                  simp only [Option.isSome_some, if_true] at h
                  obtain ⟨e1, e2, e3⟩ := LexW.inj3 h
                  subst e1; subst e2; subst e3
                  clear h
                  go_enter Tryd.func48, Tryd.ntmps48
                  go_wp2_with (first | (go_at_call 28; (with_reducible refine (lexs_peek.calls g b p _ _ _ w0 _ HI.out HB.out HPK.out).mono ?_); rintro e w1 ⟨rfl, hi, hb, hk⟩; have n0_ := Aside0.mk (keep_from HK.out hk); have n1_ := Aside0.mk hb; have n2_ := Aside0.mk hi; clear HK HB HI hi hb hk; have HK := n0_; have HB := n1_; have HI := n2_; clear n0_ n1_ n2_) | (go_at_call 23; (with_reducible refine (LexT.i23 _ (LexW.at_ b p) _).mono ?_); rintro e w1 ⟨rfl, hd⟩; have hb := hd.below; clear hd; (try rw [hix]); have n0_ := Aside0.mk (keep_from HK.out (KeepBut.of_below hb g none)); have n1_ := Aside0.mk (below_step HB.out hb); have n2_ := Aside0.mk (HI.out.below hb); clear HK HB HI hb; have HK := n0_; have HB := n1_; have HI := n2_; clear n0_ n1_ n2_) | (go_at_call 29; (with_reducible refine (lex_scanner_exactly.calls g b (⟨#[117]⟩ : ByteArray) _ _ _ w0 _ HI.out HB.out (by assumption) hm (by decide) H2.out).mono ?_); rintro e w1 ⟨v1, rfl, he, hi, hb, hk⟩; (obtain rfl : v1 = _ := he); have n0_ := Aside0.mk (keep_from HK.out hk); have n1_ := Aside0.mk hb; have n2_ := Aside0.mk hi; clear HK HB HI hi hb hk; have HK := n0_; have HB := n1_; have HI := n2_; clear n0_ n1_ n2_) | (go_at_call 61; (with_reducible refine (lex_scanner_four.calls_1 g b _ _ _ _ w0 _ HI.out HB.out (by assumption) hm HBY.out h3).mono ?_); rintro e w1 ⟨v1, rfl, he, hi, hb, hk⟩; (obtain rfl : v1 = _ := he); have n0_ := Aside0.mk (keep_from HK.out hk); have n1_ := Aside0.mk hb; have n2_ := Aside0.mk hi; clear HK HB HI hi hb hk; have HK := n0_; have HB := n1_; have HI := n2_; clear n0_ n1_ n2_) | (go_at_call 29; (with_reducible refine (lex_scanner_exactly.calls g b (⟨#[92, 117]⟩ : ByteArray) _ _ _ w0 _ HI.out HB.out (by assumption) hm (by decide) H6.out).mono ?_); rintro e w1 ⟨v1, rfl, he, hi, hb, hk⟩; (obtain rfl : v1 = _ := he); have n0_ := Aside0.mk (keep_from HK.out hk); have n1_ := Aside0.mk hb; have n2_ := Aside0.mk hi; clear HK HB HI hi hb hk; have HK := n0_; have HB := n1_; have HI := n2_; clear n0_ n1_ n2_) | (go_at_call 61; (with_reducible refine (lex_scanner_four.calls_2 g b _ _ _ _ w0 _ HI.out HB.out (by assumption) hm HBY.out h7).mono ?_); rintro e w1 ⟨v1, rfl, he, hi, hb, hk⟩; obtain ⟨pe, rfl, hpe⟩ := he; have HE := Aside0.mk (show BadE _ _ (some _) from ⟨pe, rfl, hpe⟩); clear hpe; have n0_ := Aside0.mk (keep_from HK.out hk); have n1_ := Aside0.mk hb; have n2_ := Aside0.mk hi; clear HK HB HI hi hb hk; have HK := n0_; have HB := n1_; have HI := n2_; clear n0_ n1_ n2_))
                  go_ret2
                  exact ⟨_, rfl, HE.out, HI.out, HB.out, HK.out⟩
                | none =>
                  simp only [Option.isSome_none, Bool.false_eq_true, if_false] at h
                  have HPR := Aside0.mk (LexW.pair_f h3 h4 h5 h7)
                  obtain ⟨e1, e2, e3⟩ := LexW.inj3 h
                  subst e1; subst e2; subst e3
                  clear h
                  go_enter Tryd.func48, Tryd.ntmps48
                  go_wp2_with (first | (go_at_call 28; (with_reducible refine (lexs_peek.calls g b p _ _ _ w0 _ HI.out HB.out HPK.out).mono ?_); rintro e w1 ⟨rfl, hi, hb, hk⟩; have n0_ := Aside0.mk (keep_from HK.out hk); have n1_ := Aside0.mk hb; have n2_ := Aside0.mk hi; clear HK HB HI hi hb hk; have HK := n0_; have HB := n1_; have HI := n2_; clear n0_ n1_ n2_) | (go_at_call 23; (with_reducible refine (LexT.i23 _ (LexW.at_ b p) _).mono ?_); rintro e w1 ⟨rfl, hd⟩; have hb := hd.below; clear hd; (try rw [hix]); have n0_ := Aside0.mk (keep_from HK.out (KeepBut.of_below hb g none)); have n1_ := Aside0.mk (below_step HB.out hb); have n2_ := Aside0.mk (HI.out.below hb); clear HK HB HI hb; have HK := n0_; have HB := n1_; have HI := n2_; clear n0_ n1_ n2_) | (go_at_call 29; (with_reducible refine (lex_scanner_exactly.calls g b (⟨#[117]⟩ : ByteArray) _ _ _ w0 _ HI.out HB.out (by assumption) hm (by decide) H2.out).mono ?_); rintro e w1 ⟨v1, rfl, he, hi, hb, hk⟩; (obtain rfl : v1 = _ := he); have n0_ := Aside0.mk (keep_from HK.out hk); have n1_ := Aside0.mk hb; have n2_ := Aside0.mk hi; clear HK HB HI hi hb hk; have HK := n0_; have HB := n1_; have HI := n2_; clear n0_ n1_ n2_) | (go_at_call 61; (with_reducible refine (lex_scanner_four.calls_1 g b _ _ _ _ w0 _ HI.out HB.out (by assumption) hm HBY.out h3).mono ?_); rintro e w1 ⟨v1, rfl, he, hi, hb, hk⟩; (obtain rfl : v1 = _ := he); have n0_ := Aside0.mk (keep_from HK.out hk); have n1_ := Aside0.mk hb; have n2_ := Aside0.mk hi; clear HK HB HI hi hb hk; have HK := n0_; have HB := n1_; have HI := n2_; clear n0_ n1_ n2_) | (go_at_call 29; (with_reducible refine (lex_scanner_exactly.calls g b (⟨#[92, 117]⟩ : ByteArray) _ _ _ w0 _ HI.out HB.out (by assumption) hm (by decide) H6.out).mono ?_); rintro e w1 ⟨v1, rfl, he, hi, hb, hk⟩; (obtain rfl : v1 = _ := he); have n0_ := Aside0.mk (keep_from HK.out hk); have n1_ := Aside0.mk hb; have n2_ := Aside0.mk hi; clear HK HB HI hi hb hk; have HK := n0_; have HB := n1_; have HI := n2_; clear n0_ n1_ n2_) | (go_at_call 61; (with_reducible refine (lex_scanner_four.calls_2 g b _ _ _ _ w0 _ HI.out HB.out (by assumption) hm HBY.out h7).mono ?_); rintro e w1 ⟨v1, rfl, he, hi, hb, hk⟩; (obtain rfl : v1 = _ := he); have n0_ := Aside0.mk (keep_from HK.out hk); have n1_ := Aside0.mk hb; have n2_ := Aside0.mk hi; clear HK HB HI hi hb hk; have HK := n0_; have HB := n1_; have HI := n2_; clear n0_ n1_ n2_) | (go_at_call 64; (with_reducible refine (utf_Pair.calls hi lo _ 0 _ HPR.out).mono ?_); rintro e w1 ⟨rfl, hd⟩; have hb := hd.below; clear hd; have n0_ := Aside0.mk (keep_from HK.out (KeepBut.of_below hb g none)); have n1_ := Aside0.mk (below_step HB.out hb); have n2_ := Aside0.mk (HI.out.below hb); clear HK HB HI hb; have HK := n0_; have HB := n1_; have HI := n2_; clear n0_ n1_ n2_))
                  go_ret2
                  exact ⟨_, rfl, rfl, HI.out, HB.out, HK.out⟩
  · rw [if_neg hp] at h
    rw [if_neg hp, decide_eq_false hp] at hpk
    have HPK := Aside0.mk hpk
    clear hpk
    obtain ⟨e1, e2, e3⟩ := LexW.inj3 h
    subst e1; subst e2; subst e3
    clear h
    go_enter Tryd.func48, Tryd.ntmps48
    go_wp2_with (first | (go_at_call 28; (with_reducible refine (lexs_peek.calls g b p _ _ _ w0 _ HI.out HB.out HPK.out).mono ?_); rintro e w1 ⟨rfl, hi, hb, hk⟩; have n0_ := Aside0.mk (keep_from HK.out hk); have n1_ := Aside0.mk hb; have n2_ := Aside0.mk hi; clear HK HB HI hi hb hk; have HK := n0_; have HB := n1_; have HI := n2_; clear n0_ n1_ n2_) | (go_at_call 33; (with_reducible refine (lex_scanner_fail.calls g b p (by omega) w0 _ HI.out HB.out).mono ?_); rintro e w1 ⟨v1, rfl, he, hi, hb, hk⟩; have HE := Aside0.mk he; clear he; have n0_ := Aside0.mk (keep_from HK.out hk); have n1_ := Aside0.mk hb; have n2_ := Aside0.mk hi; clear HK HB HI hi hb hk; have HK := n0_; have HB := n1_; have HI := n2_; clear n0_ n1_ n2_))
    go_ret2
    exact ⟨_, rfl, HE.out, HI.out, HB.out, HK.out⟩

end Go.Proofs.YthoobepfkfjgnaaDoor.PL

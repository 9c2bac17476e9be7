/- What the six pure statements on UTF-8 share: bits of int, the heads, what the printed Good answers. -/
import Derived.Test.YthoobepfkfjgnaaPUx3
import Derived.Test.YthoobepfkfjgnaaPUx1
namespace Go.Proofs.Ythoobepfkfjgnaa.Pure
open Go.RowKit Go.Proofs.Ythoobepfkfjgnaa.PU Go.Proofs.YthoobepfkfjgnaaW.PrintWords Go.Proofs.YthoobepfkfjgnaaW.PrintLast

theorem wraps_i64 (n : Int) (h0 : 0 ≤ n) (h1 : n < 2 ^ 62) : IntKind.i64.wrap n = n := by rw [IntKind.wrap_i64]; omega
theorem wrap64_id {n : Int} (h0 : -9223372036854775808 ≤ n) (h1 : n ≤ 9223372036854775807) : wrap64 n = n := by unfold wrap64; omega
theorem and_mask (i : Nat) (hi : i ≤ 62) (x : Int) (h0 : 0 ≤ x) (h1 : x < 2 ^ 62) : Go.bits .and .i64 x (2 ^ i - 1) = x % 2 ^ i := bits_mask .i64 62 (by decide) wraps_i64 i hi x h0 h1
theorem and63 {x : Int} (h0 : 0 ≤ x) (h1 : x < 2 ^ 62) : Go.bits .and .i64 x 63 = x % 64 := and_mask 6 (by decide) x h0 h1
theorem and31 {x : Int} (h0 : 0 ≤ x) (h1 : x < 2 ^ 62) : Go.bits .and .i64 x 31 = x % 32 := and_mask 5 (by decide) x h0 h1
theorem and15 {x : Int} (h0 : 0 ≤ x) (h1 : x < 2 ^ 62) : Go.bits .and .i64 x 15 = x % 16 := and_mask 4 (by decide) x h0 h1
theorem and7 {x : Int} (h0 : 0 ≤ x) (h1 : x < 2 ^ 62) : Go.bits .and .i64 x 7 = x % 8 := and_mask 3 (by decide) x h0 h1
theorem and1023 {x : Int} (h0 : 0 ≤ x) (h1 : x < 2 ^ 62) : Go.bits .and .i64 x 1023 = x % 1024 := and_mask 10 (by decide) x h0 h1
theorem or_add (i : Nat) {x y : Int} (hx0 : 0 ≤ x) (hx : x % 2 ^ i = 0) (hx1 : x < 2 ^ 62) (hy0 : 0 ≤ y) (hy : y < 2 ^ i) (hy1 : y < 2 ^ 62) : Go.bits .or .i64 x y = x + y := bits_join .i64 62 (by decide) wraps_i64 i x y hx0 hx hx1 hy0 hy hy1

theorem heads_ev : Ev (fun k => caliperlaw01_heads.f k) true := Ev.of caliperlaw01_heads.mono (k := 20) (by decide +kernel)
theorem good_ev (l : List Int) (hl : l.length ≤ 9223372036854775807) : Ev (fun k => utf_Good.f k l) (Utf.good l) := ⟨l.length + 2, fun k hk => utf_Points.good_k l hl k (by omega)⟩
theorem bytes_of {l : List Int} (h : ∀ x ∈ l, (Lit.int .u8 x).wf = true) : Utf.Bytes l := by
  intro x hx
  have := h x hx
  simp only [Lit.wf, IntKind.min, IntKind.max, IntKind.signed, IntKind.bits, Bool.and_eq_true] at this
  simp at this
  omega
theorem int_of {x : Int} (h : (Lit.int .i64 x).wf = true) : -9223372036854775808 ≤ x ∧ x ≤ 9223372036854775807 := by
  simp only [Lit.wf, IntKind.min, IntKind.max, IntKind.signed, IntKind.bits, Bool.and_eq_true, decide_eq_true_eq, if_true] at h
  simp at h
  omega
theorem points_ok {l : List Int} (h : Utf.Bytes l) : utf_Points.ok l = true := List.all_eq_true.2 fun x hx => by simpa using h x hx
end Go.Proofs.Ythoobepfkfjgnaa.Pure

/- What Put, Pair, Split answer: the printed functions as the document's, for the pure statements. -/
import Derived.Test.YthoobepfkfjgnaaPUx12
import Derived.Test.YthoobepfkfjgnaaPUx12
import Derived.Test.YthoobepfkfjgnaaPUx2
import Derived.Test.YthoobepfkfjgnaaPUx12
import Derived.Test.YthoobepfkfjgnaaPUx5
import Derived.Test.YthoobepfkfjgnaaPUx13
import Derived.Test.YthoobepfkfjgnaaPUx13
import Derived.Test.YthoobepfkfjgnaaBase
namespace Go.Proofs.Ythoobepfkfjgnaa.Pure
open Go.RowKit Go.Proofs.Ythoobepfkfjgnaa.PU Go.Proofs.YthoobepfkfjgnaaW.PrintWords Go.Proofs.YthoobepfkfjgnaaW.PrintLast Go.Proofs.YthoobepfkfjgnaaW.PrintMore

theorem shr_pow (x : Int) (n : Nat) (hn : n ≤ 64) : shr .i64 x (n : Int) = x / 2 ^ n := by
  unfold shr
  rw [Int.toNat_natCast, Nat.min_eq_left (by simpa [IntKind.bits] using hn)]
theorem tail_eq {p : Int} (h0 : 0 ≤ p) (h1 : p ≤ 1114111) :
    utf_Put.T p 0 = 128 + p % 64 ∧ utf_Put.T p 6 = 128 + p / 64 % 64 ∧ utf_Put.T p 12 = 128 + p / 4096 % 64 := by
  have e0 : shr .i64 p 0 = p := by rw [show (0 : Int) = ((0 : Nat) : Int) from rfl, shr_pow p 0 (by decide)]; omega
  have e6 : shr .i64 p 6 = p / 64 := by rw [show (6 : Int) = ((6 : Nat) : Int) from rfl, shr_pow p 6 (by decide)]; rfl
  have e12 : shr .i64 p 12 = p / 4096 := by rw [show (12 : Int) = ((12 : Nat) : Int) from rfl, shr_pow p 12 (by decide)]; rfl
  unfold utf_Put.T
  rw [e0, e6, e12, and63 h0 (by omega), and63 (by omega) (by omega), and63 (by omega) (by omega)]
  rw [or_add 6 (by decide) (by decide) (by decide) (by omega) (by omega) (by omega), or_add 6 (by decide) (by decide) (by decide) (by omega) (by omega) (by omega), or_add 6 (by decide) (by decide) (by decide) (by omega) (by omega) (by omega)]
  omega
theorem lead_eq {p : Int} (h0 : 0 ≤ p) (h1 : p ≤ 1114111) :
    (p < 2048 → Go.bits .or .i64 192 (p / 64) % 256 = 192 + p / 64) ∧ (p < 65536 → Go.bits .or .i64 224 (p / 4096) % 256 = 224 + p / 4096) ∧ Go.bits .or .i64 240 (p / 262144) % 256 = 240 + p / 262144 := by
  refine ⟨fun h => ?_, fun h => ?_, ?_⟩
  · rw [or_add 5 (by decide) (by decide) (by decide) (by omega) (by omega) (by omega)]; omega
  · rw [or_add 4 (by decide) (by decide) (by decide) (by omega) (by omega) (by omega)]; omega
  · rw [or_add 3 (by decide) (by decide) (by decide) (by omega) (by omega) (by omega)]; omega
theorem cont_eq {p : Int} (h0 : 0 ≤ p) (h1 : p ≤ 1114111) :
    Go.bits .or .i64 128 (Go.bits .and .i64 p 63) % 256 = 128 + p % 64 ∧ Go.bits .or .i64 128 (Go.bits .and .i64 (p / 64) 63) % 256 = 128 + p / 64 % 64 ∧ Go.bits .or .i64 128 (Go.bits .and .i64 (p / 4096) 63) % 256 = 128 + p / 4096 % 64 := by
  rw [and63 h0 (by omega), and63 (by omega) (by omega), and63 (by omega) (by omega)]
  rw [or_add 6 (by decide) (by decide) (by decide) (by omega) (by omega) (by omega), or_add 6 (by decide) (by decide) (by decide) (by omega) (by omega) (by omega), or_add 6 (by decide) (by decide) (by decide) (by omega) (by omega) (by omega)]
  omega
theorem scalar_f {p : Int} : (Utf.Scalar p → utf_scalar.f p = some true) ∧ (¬ Utf.Scalar p → utf_scalar.f p = some false) := by
  unfold utf_scalar.f Utf.Scalar
  by_cases h1 : p ≥ 0
  · rw [if_pos h1]
    by_cases h2 : p ≤ 1114111
    · rw [if_pos h2]
      by_cases h3 : p < 55296
      · rw [if_pos h3]; exact ⟨fun _ => rfl, fun h => absurd (.inl ⟨h1, h3⟩) h⟩
      · rw [if_neg h3]; exact ⟨fun h => by simp; omega, fun h => by simp; omega⟩
    · rw [if_neg h2]; exact ⟨fun h => by omega, fun _ => rfl⟩
  · rw [if_neg h1]; exact ⟨fun h => by omega, fun _ => rfl⟩
theorem put_yes {l : List Int} (hl : l.length + 4 < 140737488355328) {p : Int} (h : Utf.Scalar p) : utf_Put.f l p = some (l ++ Utf.enc p, 0) := by
  have hp := h
  unfold Utf.Scalar at hp
  obtain ⟨t0, t6, t12⟩ := tail_eq (p := p) (by omega) (by omega)
  obtain ⟨a1, a2, a3⟩ := lead_eq (p := p) (by omega) (by omega)
  unfold utf_Put.f
  rw [scalar_f.1 h]
  simp only [Option.bind_some, if_true]
  unfold utf_joined.f
  rcases Utf.enc_cases h with ⟨a, b, e⟩ | ⟨a, b, e⟩ | ⟨a, b, e⟩ | ⟨a, b, e⟩ <;> rw [e]
  · rw [if_pos b, if_pos (by simp; omega)]; rfl
  · rw [if_neg (by omega), if_pos b, if_pos (by simp; omega), t0, a1 b]; rfl
  · rw [if_neg (by omega), if_neg (by omega), if_pos b, if_pos (by simp; omega), t0, t6, a2 b]; rfl
  · rw [if_neg (by omega), if_neg (by omega), if_neg (by omega), if_pos (by simp; omega), t0, t6, t12, a3]; rfl
theorem put_no {l : List Int} {p : Int} (h : ¬ Utf.Scalar p) : utf_Put.f l p = some ([], 2) := by
  unfold utf_Put.f
  rw [scalar_f.2 h]
  rfl
theorem rscalar_f {p : Int} : (Utf.Scalar p → caliperref01_Scalar.f p = some true) ∧ (¬ Utf.Scalar p → caliperref01_Scalar.f p = some false) := by
  unfold caliperref01_Scalar.f Utf.Scalar
  by_cases h1 : p ≥ 0
  · rw [if_pos h1]
    by_cases h2 : p ≤ 1114111
    · rw [if_pos h2]
      by_cases h3 : p < 55296
      · rw [if_pos h3]; exact ⟨fun _ => rfl, fun h => absurd (.inl ⟨h1, h3⟩) h⟩
      · rw [if_neg h3]; exact ⟨fun h => by simp; omega, fun h => by simp; omega⟩
    · rw [if_neg h2]; exact ⟨fun h => by omega, fun _ => rfl⟩
  · rw [if_neg h1]; exact ⟨fun h => by omega, fun _ => rfl⟩
theorem rbytes_f {p : Int} (h : Utf.Scalar p) : caliperref01_bytes.f p = some (Utf.enc p) := by
  have hp := h
  unfold Utf.Scalar at hp
  obtain ⟨t0, t6, t12⟩ := cont_eq (p := p) (by omega) (by omega)
  obtain ⟨a1, a2, a3⟩ := lead_eq (p := p) (by omega) (by omega)
  unfold caliperref01_bytes.f
  rcases Utf.enc_cases h with ⟨a, b, e⟩ | ⟨a, b, e⟩ | ⟨a, b, e⟩ | ⟨a, b, e⟩ <;> rw [e]
  · rw [if_pos b, show p % 256 = p by omega]
  · rw [if_neg (by omega), if_pos b, t0, a1 b]
  · rw [if_neg (by omega), if_neg (by omega), if_pos b, t0, t6, a2 b]
  · rw [if_neg (by omega), if_neg (by omega), if_neg (by omega), t0, t6, t12, a3]
theorem rput_yes {l : List Int} (hl : l.length + 4 < 140737488355328) {p : Int} (h : Utf.Scalar p) : caliperref01_Put.f l p = some (l ++ Utf.enc p, 0) := by
  have h4 := Utf.enc_length_le p
  unfold caliperref01_Put.f caliperref01_Copy.f
  rw [rscalar_f.1 h, rbytes_f h]
  simp only [Option.bind_some, if_true]
  rw [if_pos (by simp; omega)]
  simp only [Option.bind_some, List.nil_append]
  rw [if_pos (by omega)]
theorem rput_no {l : List Int} {p : Int} (h : ¬ Utf.Scalar p) : caliperref01_Put.f l p = some ([], 2) := by
  unfold caliperref01_Put.f
  rw [rscalar_f.2 h]
  rfl
theorem same_refl (l : List Int) : caliperref01_Same.f l l = some true := by unfold caliperref01_Same.f; rw [beq_self_eq_true]
theorem pair_eq (a b : Int) (_ha : -9223372036854775808 ≤ a ∧ a ≤ 9223372036854775807) (_hb : -9223372036854775808 ≤ b ∧ b ≤ 9223372036854775807) : ∃ r, utf_Pair.f a b = some r ∧ caliperref01_Pair.f a b = some r := by
  unfold utf_Pair.f caliperref01_Pair.f
  by_cases h1 : a < 55296
  · rw [if_pos h1, if_pos h1]; exact ⟨_, rfl, rfl⟩
  · rw [if_neg h1, if_neg h1]
    by_cases h2 : a ≥ 56320
    · rw [if_pos h2, if_pos (show a > 56319 by omega)]; exact ⟨_, rfl, rfl⟩
    · rw [if_neg h2, if_neg (show ¬ a > 56319 by omega)]
      by_cases h3 : b < 56320
      · rw [if_pos h3, if_pos h3]; exact ⟨_, rfl, rfl⟩
      · rw [if_neg h3, if_neg h3]
        by_cases h4 : b ≥ 57344
        · rw [if_pos h4, if_pos (show b > 57343 by omega)]; exact ⟨_, rfl, rfl⟩
        · rw [if_neg h4, if_neg (show ¬ b > 57343 by omega)]
          refine ⟨_, rfl, ?_⟩
          have a1 : wrap64 (a - 55296) = a - 55296 := wrap64_id (by omega) (by omega)
          have a2 : wrap64 ((a - 55296) * 1024) = (a - 55296) * 1024 := wrap64_id (by omega) (by omega)
          have a3 : wrap64 (b - 55296) = b - 55296 := wrap64_id (by omega) (by omega)
          have a4 : wrap64 (b - 55296 - 1024) = b - 56320 := by rw [wrap64_id (by omega) (by omega)]; omega
          have a5 : wrap64 (b - 56320) = b - 56320 := wrap64_id (by omega) (by omega)
          have a6 : wrap64 (65536 + (a - 55296) * 1024) = 65536 + (a - 55296) * 1024 := wrap64_id (by omega) (by omega)
          rw [a1, a2, a3, a4, a5, a6, or_add 10 (by omega) (by omega) (by omega) (by omega) (by omega) (by omega)]
          congr 3
          omega
theorem split_eq (a : Int) : ∃ r, utf_Split.f a = some r ∧ caliperref01_Split.f a = some r := by
  unfold utf_Split.f caliperref01_Split.f
  by_cases h1 : a < 65536
  · rw [if_pos h1, if_pos h1]; exact ⟨_, rfl, rfl⟩
  · rw [if_neg h1, if_neg h1]
    by_cases h2 : a > 1114111
    · rw [if_pos h2, if_pos h2]; exact ⟨_, rfl, rfl⟩
    · rw [if_neg h2, if_neg h2]
      refine ⟨_, rfl, ?_⟩
      have a1 : wrap64 (a - 65536) = a - 65536 := wrap64_id (by omega) (by omega)
      have a2 : Int.tdiv (a - 65536) 1024 = (a - 65536) / 1024 := by rw [Int.tdiv_eq_ediv_of_nonneg (by omega)]
      have a3 : Int.tmod (a - 65536) 1024 = (a - 65536) % 1024 := by rw [Int.tmod_eq_emod_of_nonneg (by omega)]
      rw [a1, a2, a3, and1023 (by omega) (by omega), wrap64_id (n := (a - 65536) / 1024) (by omega) (by omega)]

end Go.Proofs.Ythoobepfkfjgnaa.Pure

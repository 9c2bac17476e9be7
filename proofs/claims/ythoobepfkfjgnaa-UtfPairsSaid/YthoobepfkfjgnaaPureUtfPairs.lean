/- UtfPairs, the pure statement: two surrogates make a code point, and a code point two surrogates. -/
import Derived.Test.YthoobepfkfjgnaaPUx5
import Derived.Test.YthoobepfkfjgnaaBase
namespace Go.Proofs.Ythoobepfkfjgnaa.Pure
open Go.RowKit Go.Proofs.Ythoobepfkfjgnaa.PU Go.Proofs.YthoobepfkfjgnaaW.PrintWords Go.Proofs.YthoobepfkfjgnaaW.PrintLast

theorem UtfPairs : caliperlaw01_UtfPairs.Pure := by
  intro p hp
  have hp := int_of hp
  obtain ⟨K, hh⟩ := heads_ev
  refine ⟨K + 1, ?_⟩
  have hh := hh K (Nat.le_refl _)
  have key : ∀ b : Bool, (b = true ↔ (p < 65536 ∨ 1114111 < p)) → ((utf_Split.f p).bind fun s => caliperlaw01_UtfPairs.j0 (K + 1) p s.1 s.2.1 s.2.2 b) = some true := by
    intro b hb
    by_cases h1 : p < 65536
    · obtain rfl : b = true := hb.2 (.inl h1)
      unfold utf_Split.f
      rw [if_pos h1]
      simp only [Option.bind_some, caliperlaw01_UtfPairs.j0]
      simp [hh]
    · by_cases h2 : 1114111 < p
      · obtain rfl : b = true := hb.2 (.inr h2)
        unfold utf_Split.f
        rw [if_neg h1, if_pos h2]
        simp only [Option.bind_some, caliperlaw01_UtfPairs.j0]
        simp [hh]
      · obtain rfl : b = false := by cases b; rfl; exact absurd (hb.1 rfl) (by omega)
        unfold utf_Split.f
        rw [if_neg h1, if_neg (by omega)]
        simp only [Option.bind_some, caliperlaw01_UtfPairs.j0]
        have e0 : wrap64 (p - 65536) = p - 65536 := wrap64_id (by omega) (by omega)
        have e1 : Go.bits .and .i64 (p - 65536) 1023 = (p - 65536) % 1024 := and1023 (by omega) (by omega)
        have e2 : wrap64 (55296 + (p - 65536) / 1024) = 55296 + (p - 65536) / 1024 := wrap64_id (by omega) (by omega)
        have e3 : wrap64 (56320 + (p - 65536) % 1024) = 56320 + (p - 65536) % 1024 := wrap64_id (by omega) (by omega)
        rw [e0, e1, e2, e3]
        generalize hh1 : 55296 + (p - 65536) / 1024 = h
        generalize hl1 : 56320 + (p - 65536) % 1024 = l
        have f1 : utf_Pair.f h l = some (p, 0) := by
          unfold utf_Pair.f
          rw [if_neg (by omega), if_neg (by omega), if_neg (by omega), if_neg (by omega)]
          have a1 : wrap64 (h - 55296) = h - 55296 := wrap64_id (by omega) (by omega)
          have a2 : wrap64 ((h - 55296) * 1024) = (h - 55296) * 1024 := wrap64_id (by omega) (by omega)
          have a3 : wrap64 (l - 55296) = l - 55296 := wrap64_id (by omega) (by omega)
          have a4 : wrap64 (l - 55296 - 1024) = l - 56320 := by rw [wrap64_id (by omega) (by omega)]; omega
          rw [a1, a2, a3, a4, or_add 10 (by omega) (by omega) (by omega) (by omega) (by omega) (by omega), wrap64_id (by omega) (by omega)]
          congr 2
          omega
        have f2 : utf_Pair.f l h = some (0, 11) := by
          unfold utf_Pair.f
          rw [if_neg (by omega), if_pos (by omega)]
        rw [f1, f2]
        simp [hh]
  unfold caliperlaw01_UtfPairs.f
  by_cases h1 : p < 65536
  · rw [← key true (by simp [h1])]
    congr 1
    funext s
    rw [if_pos h1]
  · rw [← key (decide (p > 1114111)) (by simp [h1])]
    congr 1
    funext s
    rw [if_neg h1]
end Go.Proofs.Ythoobepfkfjgnaa.Pure

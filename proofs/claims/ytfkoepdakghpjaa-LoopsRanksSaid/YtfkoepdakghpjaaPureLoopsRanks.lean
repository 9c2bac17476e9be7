/- LoopsRanks answers true. -/
import Derived.Test.YtfkoepdakghpjaaQc
import Derived.Test.YtfkoepdakghpjaaPGx7
namespace Go.Proofs.Ytfkoepdakghpjaa.Pure
open Go.RowKit Go.Proofs.YtfkoepdakghpjaaW.PrintWords Go.Proofs.YtfkoepdakghpjaaW.PrintMore Go.Proofs.Ytfkoepdakghpjaa.Lp Go.Proofs.Ytfkoepdakghpjaa.Qs Go.Proofs.Ytfkoepdakghpjaa.Qr Go.Proofs.Ytfkoepdakghpjaa.Qc
set_option linter.unusedVariables false
theorem LoopsRanks (n : Int) (l : List PG.S31) (hn : (Lit.int .i64 n).wf = true) (hl : l.length ≤ 9223372036854775807) : ∃ k, PG.caliperlaw15_LoopsRanks.f k n l = some true := by
  have hd : Evt (fun k => PG.caliperlaw15_LoopsRanks.j0 k n l true) true := by
    refine Evt.succ (h := fun k => (PG.caliperlaw15_heads.f k).bind fun t => some t) (fun k => ?_) heads_bind
    simp only [PG.caliperlaw15_LoopsRanks.j0]
    rfl
  refine Evt.one (g := fun k => PG.caliperlaw15_LoopsRanks.f k n l) ?_
  unfold PG.caliperlaw15_LoopsRanks.f
  by_cases h1 : n > 300
  · simp only [if_pos h1]
    exact hd
  · simp only [if_neg h1]
    by_cases h2 : (l.length : Int) > 300
    · rw [decide_eq_true h2]
      exact hd
    · rw [decide_eq_false h2]
      have fin : ∀ (a : List Int) (b : Bool), a.length ≤ 9223372036854775807 → PG.loops_Ranks.f n l = some (a, b) → Evt (fun k => PG.caliperref15_Ranks.f k n l) (a, b) → Evt (fun k => PG.caliperlaw15_LoopsRanks.j0 k n l false) true := by
        intro a b ha hr href
        refine Evt.succ (h := fun k => (PG.caliperref15_Ranks.f k n l).bind fun bt => (PG.caliperref01_Ints.f k a bt.1).bind fun t => if t = true then (if (b == bt.2) = true then ((PG.caliperlaw15_heads.f k).bind fun t => some t) else some false) else some false) (fun k => ?_) ?_
        · simp only [PG.caliperlaw15_LoopsRanks.j0]
          rw [if_neg (by decide), hr]
          rfl
        · refine Evt.bind (h := fun k bt => (PG.caliperref01_Ints.f k a bt.1).bind fun t => if t = true then (if (b == bt.2) = true then ((PG.caliperlaw15_heads.f k).bind fun t => some t) else some false) else some false) href ?_
          refine Evt.bind (h := fun k t => if t = true then (if (b == b) = true then ((PG.caliperlaw15_heads.f k).bind fun t => some t) else some false) else some false) (ints_same a ha) ?_
          simp only [beq_self_eq_true, if_true]
          exact heads_bind
      rcases both n l (by omega) (by omega) with ⟨c, h3, h4, h5⟩ | ⟨s, h3, h4, h5⟩
      · exact fin [] false (by simp) (Ranks_inl (by omega) (by omega) h3) h5
      · refine fin _ true ?_ (Ranks_inr (by omega) (by omega) h3) h5
        rw [List.length_map]
        unfold Lp.nums
        simp
        omega
end Go.Proofs.Ytfkoepdakghpjaa.Pure

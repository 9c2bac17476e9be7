/- LoopsParts answers true. -/
import Derived.Test.YtfkoepdakghpjaaQp
import Derived.Test.YtfkoepdakghpjaaPGx10
namespace Go.Proofs.Ytfkoepdakghpjaa.Pure
open Go.RowKit Go.Proofs.YtfkoepdakghpjaaW.PrintWords Go.Proofs.YtfkoepdakghpjaaW.PrintMore Go.Proofs.Ytfkoepdakghpjaa.Qs Go.Proofs.Ytfkoepdakghpjaa.Qr Go.Proofs.Ytfkoepdakghpjaa.Qc Go.Proofs.Ytfkoepdakghpjaa.Qp
set_option linter.unusedVariables false
theorem LoopsParts (n : Int) (l : List PG.S31) (hn : (Lit.int .i64 n).wf = true) (hl : l.length ≤ 9223372036854775807) : ∃ k, PG.caliperlaw15_LoopsParts.f k n l = some true := by
  have hd : Evt (fun k => PG.caliperlaw15_LoopsParts.j0 k n l true) true := by
    refine Evt.succ (h := fun k => (PG.caliperlaw15_heads.f k).bind fun t => some t) (fun k => ?_) heads_bind
    simp only [PG.caliperlaw15_LoopsParts.j0]
    rfl
  refine Evt.one (g := fun k => PG.caliperlaw15_LoopsParts.f k n l) ?_
  unfold PG.caliperlaw15_LoopsParts.f
  by_cases h1 : n > 60
  · simp only [if_pos h1]
    exact hd
  · simp only [if_neg h1]
    by_cases h2 : (l.length : Int) > 200
    · rw [decide_eq_true h2]
      exact hd
    · rw [decide_eq_false h2]
      obtain ⟨P, h3, h4⟩ := parts_f n l (by omega) (by omega)
      have h5 := parts_ref n l (by omega) (by omega) P h4
      have hlen : ((Lp.nums n).map P).length ≤ 9223372036854775807 := by
        rw [List.length_map]
        simp [Lp.nums]
        omega
      refine Evt.succ (h := fun k => (PG.caliperref15_Parts.f k n l).bind fun t => (PG.caliperref01_Ints.f k ((Lp.nums n).map P) t).bind fun t2 => if t2 = true then ((PG.caliperlaw15_heads.f k).bind fun t => some t) else some false) (fun k => ?_) ?_
      · simp only [PG.caliperlaw15_LoopsParts.j0]
        rw [if_neg (by decide), h3]
        rfl
      · refine Evt.bind (h := fun k t => (PG.caliperref01_Ints.f k ((Lp.nums n).map P) t).bind fun t2 => if t2 = true then ((PG.caliperlaw15_heads.f k).bind fun t => some t) else some false) h5 ?_
        refine Evt.bind (h := fun k t2 => if t2 = true then ((PG.caliperlaw15_heads.f k).bind fun t => some t) else some false) (ints_same _ hlen) ?_
        simp only [if_true]
        exact heads_bind
end Go.Proofs.Ytfkoepdakghpjaa.Pure

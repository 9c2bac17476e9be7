/- LoopsFinds answers true. -/
import Derived.Test.YtfkoepdakghpjaaQc
import Derived.Test.YtfkoepdakghpjaaPGx15
namespace Go.Proofs.Ytfkoepdakghpjaa.Pure
open Go.RowKit Go.Proofs.YtfkoepdakghpjaaW.PrintWords Go.Proofs.YtfkoepdakghpjaaW.PrintMore Go.Proofs.Ytfkoepdakghpjaa.Lp Go.Proofs.Ytfkoepdakghpjaa.Qs Go.Proofs.Ytfkoepdakghpjaa.Qr Go.Proofs.Ytfkoepdakghpjaa.Qc
set_option linter.unusedVariables false
theorem LoopsFinds (n : Int) (l : List PG.S31) (p : List Int) (hn : (Lit.int .i64 n).wf = true) (hl : l.length ≤ 9223372036854775807) (hp : ∀ x ∈ p, (Lit.int .i64 x).wf = true) (hpl : p.length ≤ 9223372036854775807) : ∃ k, PG.caliperlaw15_LoopsFinds.f k n l p = some true := by
  have hd : Evt (fun k => PG.caliperlaw15_LoopsFinds.j0 k n l p true) true := by
    refine Evt.succ (h := fun k => (PG.caliperlaw15_heads.f k).bind fun t => some t) (fun k => ?_) heads_bind
    simp only [PG.caliperlaw15_LoopsFinds.j0]
    rfl
  refine Evt.one (g := fun k => PG.caliperlaw15_LoopsFinds.f k n l p) ?_
  unfold PG.caliperlaw15_LoopsFinds.f
  by_cases h1 : n > 300
  · simp only [if_pos h1]
    exact hd
  · simp only [if_neg h1]
    by_cases h2 : (l.length : Int) > 300
    · rw [decide_eq_true h2]
      exact hd
    · rw [decide_eq_false h2]
      have hok : PG.Rl.okI p = true := by
        unfold PG.Rl.okI
        rw [List.all_eq_true]
        intro x hx
        have := hp x hx
        have e0 : IntKind.i64.min = -9223372036854775808 := by decide
        have e1 : IntKind.i64.max = 9223372036854775807 := by decide
        simpa [Lit.wf, e0, e1] using this
      have hreal : PG.loops_Real.f n l p = some (PG.Rl.real (PG.Gr.of n l) p p.length) := by
        unfold PG.loops_Real.f
        rw [if_pos ⟨by omega, by omega, hok⟩]
      have fin : ∀ (a : List Int) (b : Bool), PG.loops_Cycle.f n l = some (a, b) → (∃ rs, Evt (fun k => PG.caliperref15_Ranks.f k n l) (rs, !b)) → Evt (fun k => PG.caliperlaw15_LoopsFinds.j1 k n l a b false) true → Evt (fun k => PG.caliperlaw15_LoopsFinds.j0 k n l p false) true := by
        rintro a b hr ⟨rs, href⟩ hj
        have hany : Evt (fun k => PG.caliperref15_Any.f k n l) b := by
          unfold PG.caliperref15_Any.f
          refine Evt.bind (h := fun k bt => some (!bt.2)) href ?_
          simp only [Bool.not_not]
          exact Evt.const _
        refine Evt.succ (h := fun k => (PG.caliperref15_Any.f k n l).bind fun t => if (b != t) = true then PG.caliperlaw15_LoopsFinds.j1 k n l a b true else ((PG.caliperref15_Real.f k n l p).bind fun t2 => PG.caliperlaw15_LoopsFinds.j1 k n l a b (PG.Rl.real (PG.Gr.of n l) p p.length != t2))) (fun k => ?_) ?_
        · simp only [PG.caliperlaw15_LoopsFinds.j0]
          rw [if_neg (by decide), hr, hreal]
          rfl
        · refine Evt.bind (h := fun k t => if (b != t) = true then PG.caliperlaw15_LoopsFinds.j1 k n l a b true else ((PG.caliperref15_Real.f k n l p).bind fun t2 => PG.caliperlaw15_LoopsFinds.j1 k n l a b (PG.Rl.real (PG.Gr.of n l) p p.length != t2))) hany ?_
          have hbb : (b != b) = false := by simp
          simp only [hbb, Bool.false_eq_true, if_false]
          refine Evt.bind (h := fun k t2 => PG.caliperlaw15_LoopsFinds.j1 k n l a b (PG.Rl.real (PG.Gr.of n l) p p.length != t2)) (real_ok n l p (by omega) hpl) ?_
          have hrr : (PG.Rl.real (PG.Gr.of n l) p p.length != PG.Rl.real (PG.Gr.of n l) p p.length) = false := by simp
          simp only [hrr]
          exact hj
      rcases both n l (by omega) (by omega) with ⟨c, h3, ⟨h4, h4l⟩, h5⟩ | ⟨s, h3, h4, h5⟩
      · refine fin c true (Cycle_inl (by omega) (by omega) h3 h4) ⟨_, h5⟩ ?_
        have hcl : c.length ≤ 9223372036854775807 := by omega
        refine Evt.succ (h := fun k => (PG.caliperref15_Real.f k n l c).bind fun t => if t = true then ((PG.caliperlaw15_heads.f k).bind fun t => some t) else some false) (fun k => ?_) ?_
        · simp only [PG.caliperlaw15_LoopsFinds.j1]
          rw [if_neg (by decide), if_pos trivial]
        · have hr := real_ok n l c (by omega) hcl
          rw [real_cyc h4 c.length (Nat.le_refl _)] at hr
          refine Evt.bind (h := fun k t => if t = true then ((PG.caliperlaw15_heads.f k).bind fun t => some t) else some false) hr ?_
          simp only [if_true]
          exact heads_bind
      · refine fin [] false (Cycle_inr (by omega) (by omega) h3) ⟨_, h5⟩ ?_
        refine Evt.succ (h := fun k => (PG.caliperlaw15_heads.f k).bind fun t => some t) (fun k => ?_) heads_bind
        simp only [PG.caliperlaw15_LoopsFinds.j1]
        rw [if_neg (by decide), if_neg (by decide), if_pos (by simp)]
end Go.Proofs.Ytfkoepdakghpjaa.Pure

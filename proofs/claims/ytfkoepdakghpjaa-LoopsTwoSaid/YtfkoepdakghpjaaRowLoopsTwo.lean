/- The row of LoopsTwoSaid: the law answers true, out of the pure statement and the contract. -/
import Derived.Test.YtfkoepdakghpjaaRows
import Derived.Test.YtfkoepdakghpjaaPGx11
import Derived.Test.YtfkoepdakghpjaaLe
import Derived.Test.YtfkoepdakghpjaaPureLoopsTwo
import Derived.WalkKit
import Derived.ProofKit
import Derived.OpenShut
import Derived.ChangeOld
import Derived.Below
import Derived.SizedLaws
namespace Go.Proofs.Ytfkoepdakghpjaa.loopsTwo
open Go.ChangeShapes Go.WideShapes Go.ChangeAt Go.RowKit Go.Proofs.YtfkoepdakghpjaaW.PrintWords
set_option linter.unusedVariables false
theorem own : ownKnob Try.prog.godebug = none := by kernel_rfl
theorem laidOut : laidOutB Try.prog = true := by kernel_rfl
set_option maxRecDepth 100000 in
theorem lifted (os : Os) (started : os.Started) (H : Type) (enc : TypeId × Value → H) :
    ReturnsInHanded {} Try.checked os 5 .any (Rows.loopsTwoSpec.pre6 enc Try.prog Try.f5 Rows.loopsTwoRow.domain false) (Rows.loopsTwoSpec.post enc Try.prog Try.f5 false true false false) := by
  refine returnsInHanded_of_change_sized (C := Try.checked) own started (by kernel_rfl) Try.func5
    (ChangeSpec.witness6 (enc := enc) (C := Try.checked) false ⟨#[], #[.int .i64 0, .slice none 0 0], []⟩ 8 (by kernel_rfl) (by kernel_rfl) (by kernel_rfl) (by kernel_rfl)) ?_
  intro W base args ds gs before hval0 hW hcnd hsz0 _
  have hval : ∀ (j : Nat) t v, Try.f5.params[j]? = some t → args[j]? = some v → Value.okWide Try.prog W .any base t v := hval0
  have hW' := hW
  obtain ⟨p, q, hA0, hV, rfl, hfz, hnd⟩ := hW
  have hA : DataW.TrodAll enc Try.prog W 0 (fun _ => true) true Try.f5.params.toList args.toList ds p := hA0
  rw [Try.params5] at hA hval
  obtain ⟨v0, vs0, d0, ds0, p0, q0, hargs, rfl, rfl, h0, r0⟩ := trodAll_cons hA
  obtain ⟨v1, vs1, d1, ds1, p1, q1, rfl, rfl, rfl, h1, r1⟩ := trodAll_cons r0
  obtain ⟨rfl, rfl, rfl⟩ := trodAll_nil r1
  obtain rfl : args = #[v0, v1] := by cases args; simp_all
  obtain ⟨rfl, rfl⟩ := trodVars_none hV
  obtain ⟨n, rfl, rfl, rfl, wn⟩ := open_int Try.underlying3 (hval 0 3 v0 rfl rfl) h0
  obtain ⟨A1, len1, cap1, rfl⟩ := okWide_slice Try.underlying22 (hval 1 22 v1 rfl rfl)
  have k1 := h1
  have lt1 : ∀ x ∈ p1, x.block < W.heap.size := by obtain ⟨m, hm⟩ := k1; exact DataW.trod_lt m _ _ _ hm
  obtain ⟨l, hll, hlc, hC⟩ : ∃ l : List PG.S31, l.length = len1 ∧ len1 ≤ cap1 ∧ Kd.C PG.k31 W A1 len1 l := by
    obtain ⟨fuel, hf⟩ := h1
    obtain ⟨A', len', cap', hcs, hc, l, hl, hC⟩ := PG.open_edges hf
    simp [Value.cells] at hcs
    obtain ⟨rfl, rfl, rfl⟩ := hcs
    exact ⟨l, hl, hc, hC⟩
  subst hll
  clear hA0 hval0 hsz0
  obtain ⟨k, hk⟩ := Pure.LoopsTwo n l wn (Kd.C_max hC)
  refine (PG.caliperlaw15_LoopsTwo.calls k n A1 cap1 l true W hC hlc hk).mono fun e W' ⟨he, hd⟩ => ?_
  have bel : Below W.heap.size W W' := by first | exact hd | exact hd.below
  subst he
  exact ⟨_, rfl, _, _, _, [], _, [], hW', trodAll_mk1 (shut_bool Try.underlying4 _), (trodAll_cons_mk (shut_int Try.underlying3 wn) (trodAll_cons_mk (Below.trod laidOut (by kernel_rfl) (of_decide_eq_true (by kernel_rfl)) k1 bel lt1) trodAll_mk0)), rfl, bel.frame _, fun h => by cases h⟩
theorem over : Rows.loopsTwoRow.holds Try.pinned (OpenSpec.ofChange Rows.loopsTwoSpec) :=
  OpenClaim.holds_of_wide 5 Try.f5 rfl rfl rfl rfl rfl rfl rfl ⟨rfl, rfl, rfl, rfl, rfl⟩ rfl rfl rfl rfl rfl (by kernel_rfl) Try.func5 (by kernel_rfl)
    (of_decide_eq_true (by kernel_rfl)) (by unfold Func.isWrapper; first | (rw [if_pos (by decide +kernel)]; kernel_rfl) | (rw [if_neg (by decide +kernel)]; exact ⟨rfl, rfl⟩))
    (fun os started H enc _ => lifted os started H enc)
theorem proved : Rows.LoopsTwoSaid := over
end Go.Proofs.Ytfkoepdakghpjaa.loopsTwo
namespace Go.Proofs.Ytfkoepdakghpjaa
/-- The row, under a short name, for the claim. -/
theorem loopsTwo_holds : Rows.LoopsTwoSaid := loopsTwo.proved
#print axioms loopsTwo_holds
end Go.Proofs.Ytfkoepdakghpjaa

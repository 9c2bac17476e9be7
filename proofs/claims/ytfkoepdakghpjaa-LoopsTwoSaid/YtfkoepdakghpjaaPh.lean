/- heads answers true. -/
import Derived.Test.YtfkoepdakghpjaaPGx5
namespace Go.Proofs.Ytfkoepdakghpjaa.Pure
open Go.Proofs.YtfkoepdakghpjaaW.PrintWords
theorem heads40 : PG.caliperlaw15_heads.f 40 = some true := by decide +kernel
theorem heads (k : Nat) (hk : 40 ≤ k) : PG.caliperlaw15_heads.f k = some true := by
  obtain ⟨j, rfl⟩ : ∃ j, k = 40 + j := ⟨k - 40, by omega⟩
  induction j with
  | zero => exact heads40
  | succ j ih => exact PG.caliperlaw15_heads.mono (40 + j) _ (ih (by omega))
end Go.Proofs.Ytfkoepdakghpjaa.Pure

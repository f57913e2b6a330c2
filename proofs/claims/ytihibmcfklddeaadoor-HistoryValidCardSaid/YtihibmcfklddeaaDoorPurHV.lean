/- HistoryValid in plain words. -/
import Derived.Test.YtihibmcfklddeaaDoorPurHB
import Derived.Test.YtihibmcfklddeaaDoorPSx3
namespace Go.Proofs.YtihibmcfklddeaaDoor.PS
set_option linter.unusedVariables false
set_option linter.unusedSimpArgs false
open Go.RowKit Go.Proofs.YtihibmcfklddeaaDoorW.PrintWords Go.Proofs.YtihibmcfklddeaaDoorW.PrintLast Go.Proofs.YtihibmcfklddeaaDoorW.PrintMore Go.Proofs.YtihibmcfklddeaaDoor.PE Go.Proofs.YtihibmcfklddeaaDoor.HL
theorem HistoryValid (a : Int) (l : List ByteArray) (h1 : l.length ≤ 140737488351232) (h2 : ∀ x ∈ l, x.size ≤ 140737488351232) : jobshelllaw43_HistoryValid.f a l = some true := by
  unfold jobshelllaw43_HistoryValid.f
  rw [small_f a l h1 h2, Option.bind_some]
  cases hs : smallP l with
  | false => rw [if_neg (by decide)]; exact awake_b
  | true =>
    unfold history_Valid.f jobshellref43_Valid.f
    rw [if_pos rfl, if_pos (small_sm hs)]
    simp only [Option.bind_some, if_true]
    exact awake_b
end Go.Proofs.YtihibmcfklddeaaDoor.PS

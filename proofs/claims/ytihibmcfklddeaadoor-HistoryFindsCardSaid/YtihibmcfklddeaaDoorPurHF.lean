/- HistoryFinds in plain words. -/
import Derived.Test.YtihibmcfklddeaaDoorPurHB
import Derived.Test.YtihibmcfklddeaaDoorPSx7
namespace Go.Proofs.YtihibmcfklddeaaDoor.PS
set_option linter.unusedVariables false
set_option linter.unusedSimpArgs false
open Go.RowKit Go.Proofs.YtihibmcfklddeaaDoorW.PrintWords Go.Proofs.YtihibmcfklddeaaDoorW.PrintLast Go.Proofs.YtihibmcfklddeaaDoorW.PrintMore Go.Proofs.YtihibmcfklddeaaDoor.PE Go.Proofs.YtihibmcfklddeaaDoor.HL
theorem HistoryFinds (a : Int) (l : List ByteArray) (n : Int) (s : ByteArray) (h1 : l.length ≤ 140737488351232) (h2 : ∀ x ∈ l, x.size ≤ 140737488351232) (hn : n ≤ 9223372036854775807) (_ : s.size ≤ 140737488351232) : ∃ k, jobshelllaw43_HistoryFinds.f k a l n s = some true := by
  refine ⟨1, ?_⟩
  unfold jobshelllaw43_HistoryFinds.f
  rw [ok_f a l h1 h2, Option.bind_some]
  cases ho : (smallP l && (validP a l == 0)) with
  | false =>
    rw [if_neg (by decide)]
    simp only [jobshelllaw43_HistoryFinds.j0, if_true]
    exact awake_b
  | true =>
    obtain ⟨hs, hr, _⟩ := ok_parts ho
    rw [if_pos rfl]
    simp only [jobshelllaw43_HistoryFinds.j0]
    by_cases hx : (s.size : Int) > 500
    · rw [if_pos (decide_eq_true hx)]
      exact awake_b
    · rw [if_neg (by simpa using hx)]
      unfold history_Get.f jobshellref43_Get.f history_Begins.f jobshellref43_Begins.f history_Contains.f jobshellref43_Contains.f history_Save.f jobshellref43_Save.f
      have hc : rngB a = true ∧ smB l = true ∧ s.size ≤ 1000000 := ⟨hr, hs, by omega⟩
      have hg : rngB a = true ∧ smB l = true ∧ n ≤ 9223372036854775807 := ⟨hr, hs, hn⟩
      have hv : rngB a = true ∧ smB l = true := ⟨hr, hs⟩
      simp only [if_pos hc, if_pos hg, if_pos hv, Option.bind_some, if_true, beq_self_eq_true]
      exact awake_b
end Go.Proofs.YtihibmcfklddeaaDoor.PS

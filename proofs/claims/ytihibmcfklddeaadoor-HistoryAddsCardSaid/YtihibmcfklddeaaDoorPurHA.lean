/- HistoryAdds in plain words. -/
import Derived.Test.YtihibmcfklddeaaDoorPurHB
import Derived.Test.YtihibmcfklddeaaDoorPSx5
namespace Go.Proofs.YtihibmcfklddeaaDoor.PS
set_option linter.unusedVariables false
set_option linter.unusedSimpArgs false
open Go.RowKit Go.Proofs.YtihibmcfklddeaaDoorW.PrintWords Go.Proofs.YtihibmcfklddeaaDoorW.PrintLast Go.Proofs.YtihibmcfklddeaaDoorW.PrintMore Go.Proofs.YtihibmcfklddeaaDoor.PE Go.Proofs.YtihibmcfklddeaaDoor.HL
theorem HistoryAdds (a : Int) (l : List ByteArray) (x : ByteArray) (h1 : l.length ≤ 140737488351232) (h2 : ∀ x ∈ l, x.size ≤ 140737488351232) (_ : x.size ≤ 140737488351232) : ∃ k, jobshelllaw43_HistoryAdds.f k a l x = some true := by
  refine ⟨1, ?_⟩
  unfold jobshelllaw43_HistoryAdds.f
  rw [ok_f a l h1 h2, Option.bind_some]
  cases ho : (smallP l && (validP a l == 0)) with
  | false =>
    rw [if_neg (by decide)]
    simp only [jobshelllaw43_HistoryAdds.j0, if_true]
    exact awake_b
  | true =>
    obtain ⟨hs, hr, _⟩ := ok_parts ho
    rw [if_pos rfl]
    simp only [jobshelllaw43_HistoryAdds.j0]
    by_cases hx : (x.size : Int) > 5000
    · rw [if_pos (decide_eq_true hx)]
      exact awake_b
    · rw [if_neg (by simpa using hx)]
      unfold history_Add.f jobshellref43_Add.f jobshellref43_Same.f
      have hc : rngB a = true ∧ smB l = true ∧ x.size ≤ 1000000 := ⟨hr, hs, by omega⟩
      rw [if_pos hc]
      simp only [Option.bind_some]
      have hl : (addP a l x).2.1.length ≤ 4611686018427387904 := by
        have := smB_len hs
        unfold addP
        repeat' split
        all_goals simp
        all_goals omega
      rw [if_pos hl, Option.bind_some, if_pos (sameP_iff.2 ⟨rfl, rfl⟩), if_pos trivial]
      exact awake_b
end Go.Proofs.YtihibmcfklddeaaDoor.PS

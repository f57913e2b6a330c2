/- HistoryLoads in plain words. -/
import Derived.Test.YtihibmcfklddeaaDoorPLx3
namespace Go.Proofs.YtihibmcfklddeaaDoor.PL
set_option linter.unusedVariables false
set_option linter.unusedSimpArgs false
open Go.RowKit Go.Proofs.YtihibmcfklddeaaDoorW.PrintWords Go.Proofs.YtihibmcfklddeaaDoorW.PrintLast Go.Proofs.YtihibmcfklddeaaDoorW.PrintMore Go.Proofs.YtihibmcfklddeaaDoor.PE Go.Proofs.YtihibmcfklddeaaDoor.HL
theorem awake_b : ((jobshelllaw43_awake.f).bind fun t => (some t)) = some true := by rw [jobshelllaw43_awake.at_k]; rfl
theorem HistoryLoads (s : ByteArray) (_ : s.size ≤ 140737488351232) : jobshelllaw43_HistoryLoads.f s = some true := by
  unfold jobshelllaw43_HistoryLoads.f
  by_cases hs : (s.size : Int) > 30000
  · rw [if_pos hs]
    exact awake_b
  · rw [if_neg hs]
    unfold history_Load.f jobshellref43_Load.f jobshellref43_Same.f
    have hc : s.size ≤ 100000 := by omega
    have hl : (loadP s).2.1.length ≤ 4611686018427387904 := by
      by_cases h : (loadP s).2.2 = 0
      · have hv := (save_load s h).2.1
        unfold validP at hv
        split at hv
        · cases hv
        · omega
      · have : (loadP s).2.1 = [] := by
          by_cases hx : Lib.hasSuffix s.data.toList [10] = true
          · obtain ⟨p, r, e1, e2, e3⟩ := loadP_is s hx
            rw [e3] at h ⊢
            cases hn : numOf ⟨p.toArray⟩ with
            | none => rfl
            | some n =>
              rw [hn] at h
              simp only at h ⊢
              by_cases hv : validP n (r.map (fun l => ⟨l.toArray⟩)) = 0
              · rw [if_pos hv] at h; exact absurd rfl h
              · rw [if_neg hv]
          · unfold loadP
            rw [if_neg hx]
        rw [this]
        simp
    simp only [if_pos hc, Option.bind_some, if_pos hl, sameP_iff.2 ⟨rfl, rfl⟩, if_true]
    exact awake_b
end Go.Proofs.YtihibmcfklddeaaDoor.PL

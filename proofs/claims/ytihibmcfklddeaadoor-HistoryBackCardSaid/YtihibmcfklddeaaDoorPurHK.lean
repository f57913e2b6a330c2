/- HistoryBack in plain words. -/
import Derived.Test.YtihibmcfklddeaaDoorPurHB
import Derived.Test.YtihibmcfklddeaaDoorHLBack
import Derived.Test.YtihibmcfklddeaaDoorPSx10
namespace Go.Proofs.YtihibmcfklddeaaDoor.PS
set_option linter.unusedVariables false
set_option linter.unusedSimpArgs false
open Go.RowKit Go.Proofs.YtihibmcfklddeaaDoorW.PrintWords Go.Proofs.YtihibmcfklddeaaDoorW.PrintLast Go.Proofs.YtihibmcfklddeaaDoorW.PrintMore Go.Proofs.YtihibmcfklddeaaDoor.PE Go.Proofs.YtihibmcfklddeaaDoor.HL
theorem lines_len : ∀ l : List ByteArray, (linesB l).length = sizes l + l.length
  | [] => rfl
  | x :: r => by
    have h : x.data.toList.length = x.size := rfl
    simp only [linesB, sizes, List.length_append, List.length_cons, lines_len r, h]
    omega
theorem save_size (a : Int) (l : List ByteArray) (h0 : 0 ≤ a) (h1 : a ≤ 4611686018427387904) (h2 : sizes l < 30000) (h3 : l.length ≤ 400) : (saveP a l).size ≤ 100000 := by
  have hi := PV.itoaP_len a
  show (List.toArray _).size ≤ _
  rw [List.size_toArray, List.length_append, List.length_cons, lines_len]
  omega
theorem back_j1 (s : ByteArray) (hs : s.size ≤ 30000) (k : Nat) : jobshelllaw43_HistoryBack.j1 (k + 1) s false = some true := by
  simp only [jobshelllaw43_HistoryBack.j1]
  unfold history_Load.f
  rw [if_neg (by decide), if_pos (by omega), Option.bind_some]
  by_cases hf : (loadP s).2.2 = 0
  · obtain ⟨h1, h2, h3⟩ := save_load s hf
    obtain ⟨r1, r2⟩ := loadP_rng s
    have hv := valid_rng h2
    have hsm : smB (loadP s).2.1 = true := smB_mk (by omega) fun x hx => by have := h3 x hx; omega
    have hc : rngB (loadP s).1 = true ∧ smB (loadP s).2.1 = true := ⟨rngB_iff.2 ⟨r1, by omega⟩, hsm⟩
    rw [if_pos hf]
    unfold history_Save.f history_Valid.f
    rw [if_pos hc, Option.bind_some, if_pos (by rw [toL, toL]; exact h1), if_pos hsm, Option.bind_some, if_pos h2]
    exact awake_b
  · rw [if_neg hf]
    exact awake_b
theorem HistoryBack (a : Int) (l : List ByteArray) (s : ByteArray) (h1 : l.length ≤ 140737488351232) (h2 : ∀ x ∈ l, x.size ≤ 140737488351232) (_ : s.size ≤ 140737488351232) : ∃ k, jobshelllaw43_HistoryBack.f k a l s = some true := by
  refine ⟨2, ?_⟩
  unfold jobshelllaw43_HistoryBack.f
  rw [ok_f a l h1 h2, Option.bind_some]
  cases ho : (smallP l && (validP a l == 0)) with
  | false =>
    rw [if_neg (by decide)]
    simp only [jobshelllaw43_HistoryBack.j0, if_true]
    exact awake_b
  | true =>
    obtain ⟨hs, hr, hv, hz⟩ := ok_parts ho
    obtain ⟨r1, r2⟩ := rngB_iff.1 hr
    rw [if_pos rfl]
    rw [show jobshelllaw43_HistoryBack.j0 2 = jobshelllaw43_HistoryBack.j0 (1 + 1) from rfl]
    simp only [jobshelllaw43_HistoryBack.j0]
    by_cases hx : (s.size : Int) > 30000
    · rw [if_pos (decide_eq_true hx)]
      exact awake_b
    · rw [if_neg (by simpa using hx)]
      unfold history_Save.f history_Load.f jobshellref43_Same.f
      have hl := smB_len hs
      rw [if_pos ⟨hr, hs⟩, Option.bind_some, if_pos (save_size a l r1 r2 hz hl), Option.bind_some, load_save a l hv]
      simp only [if_true]
      rw [if_pos (by omega), Option.bind_some, sameP_iff.2 ⟨rfl, rfl⟩]
      exact back_j1 s (by omega) 0
end Go.Proofs.YtihibmcfklddeaaDoor.PS

/- What the histories' laws share: the guard 'ok', and what it gives. -/
import Derived.Test.YtihibmcfklddeaaDoorPSx2
import Derived.Test.YtihibmcfklddeaaDoorPSx4
namespace Go.Proofs.YtihibmcfklddeaaDoor.PS
set_option linter.unusedVariables false
set_option linter.unusedSimpArgs false
open Go.RowKit Go.Proofs.YtihibmcfklddeaaDoorW.PrintWords Go.Proofs.YtihibmcfklddeaaDoorW.PrintLast Go.Proofs.YtihibmcfklddeaaDoorW.PrintMore Go.Proofs.YtihibmcfklddeaaDoor.PE Go.Proofs.YtihibmcfklddeaaDoor.HL
theorem small_f (a : Int) (l : List ByteArray) (h1 : l.length ≤ 140737488351232) (h2 : ∀ x ∈ l, x.size ≤ 140737488351232) : jobshellref43_Small.f a l = some (smallP l) := by
  unfold jobshellref43_Small.f
  rw [if_pos (szB_mk (by omega) (fun x hx => by have := h2 x hx; omega))]
theorem small_sm {l : List ByteArray} (h : smallP l = true) : smB l = true := by
  unfold smallP at h
  rw [Bool.and_eq_true] at h
  have h1 := of_decide_eq_true h.1
  have h2 := of_decide_eq_true h.2
  refine smB_mk (by omega) fun x hx => ?_
  have : x.size ≤ sizes l := by
    clear h h1 h2
    induction l with
    | nil => cases hx
    | cons y l ih =>
      unfold sizes
      rcases List.mem_cons.1 hx with rfl | hx
      · omega
      · have := ih hx; omega
  omega
theorem ok_f (a : Int) (l : List ByteArray) (h1 : l.length ≤ 140737488351232) (h2 : ∀ x ∈ l, x.size ≤ 140737488351232) : jobshelllaw43_ok.f a l = some (smallP l && (validP a l == 0)) := by
  unfold jobshelllaw43_ok.f
  rw [small_f a l h1 h2, Option.bind_some]
  cases hs : smallP l with
  | false => rfl
  | true =>
    unfold jobshellref43_Valid.f
    rw [if_pos rfl, if_pos (small_sm hs)]
    rfl
theorem valid_rng {a : Int} {l : List ByteArray} (h : validP a l = 0) : 1 ≤ a ∧ a ≤ 2147483519 ∧ l.length ≤ 128 ∧ badFrom none l = 0 := by
  unfold validP at h
  split at h
  · cases h
  split at h
  · cases h
  split at h
  · cases h
  exact ⟨by omega, by omega, by omega, h⟩
theorem ok_parts {a : Int} {l : List ByteArray} (h : (smallP l && (validP a l == 0)) = true) : smB l = true ∧ rngB a = true ∧ validP a l = 0 ∧ sizes l < 30000 := by
  rw [Bool.and_eq_true] at h
  have hv : validP a l = 0 := by simpa using h.2
  obtain ⟨h1, h2, _⟩ := valid_rng hv
  have hs := h.1
  unfold smallP at hs
  rw [Bool.and_eq_true] at hs
  exact ⟨small_sm h.1, rngB_iff.2 ⟨by omega, by omega⟩, hv, of_decide_eq_true hs.2⟩
theorem awake_b : ((jobshelllaw43_awake.f).bind fun t => (some t)) = some true := by rw [jobshelllaw43_awake.at_k]; rfl

end Go.Proofs.YtihibmcfklddeaaDoor.PS

/- What the jobs' laws share: awake, the guard 'ok'. -/
import Derived.Test.YthafbimhmfjcoaaDoorPSx2
import Derived.Test.YthafbimhmfjcoaaDoorPSy0
import Derived.Test.YthafbimhmfjcoaaDoorPSx4
namespace Go.Proofs.YthafbimhmfjcoaaDoor.PS
set_option linter.unusedVariables false
set_option linter.unusedSimpArgs false
open Go.RowKit Go.Proofs.YthafbimhmfjcoaaDoorW.PrintWords Go.Proofs.YthafbimhmfjcoaaDoorW.PrintLast Go.Proofs.YthafbimhmfjcoaaDoorW.PrintMore Go.Proofs.YthafbimhmfjcoaaDoor.PV Go.Proofs.YthafbimhmfjcoaaDoor.PE Go.Proofs.YthafbimhmfjcoaaDoor.JP
theorem awake_ev : Evt (fun k => jobshelllaw36_awake.f k) true := Evt.mono (K := 200) (fun k => jobshelllaw36_awake.mono k) jobshelllaw36_awake.at_k
theorem awake_b : Evt (fun k => (jobshelllaw36_awake.f k).bind fun t => some t) true := Evt.bind awake_ev (Evt.pure' _)
theorem szJ_small {l : List JP.Jb} (h : smallP l = true) : szJ l = true := by
  obtain ⟨_, h2, h3⟩ := small_SmL h
  unfold szJ
  simp only [Bool.and_eq_true, decide_eq_true_eq, List.all_eq_true]
  exact ⟨by omega, fun j hj => by have := h3 j hj; omega⟩
theorem smB_good {l : List JP.Jb} (h : smallP l = true) (hg : JP.Good l) : smB l = true := by
  obtain ⟨_, h2, h3⟩ := small_SmL h
  refine smB_iff.2 ⟨by omega, fun j hj => ?_⟩
  have h4 := h3 j hj
  have h5 := hg.ok j hj
  exact ⟨by omega, by omega, by omega, ⟨by have := h5.num; omega, by have := h5.num; omega⟩, ⟨by have := h5.gid; omega, by have := h5.gid; omega⟩⟩
end Go.Proofs.YthafbimhmfjcoaaDoor.PS
/- JobsValid in plain words. -/
namespace Go.Proofs.YthafbimhmfjcoaaDoor.PS
set_option linter.unusedVariables false
set_option linter.unusedSimpArgs false
open Go.RowKit Go.Proofs.YthafbimhmfjcoaaDoorW.PrintWords Go.Proofs.YthafbimhmfjcoaaDoorW.PrintLast Go.Proofs.YthafbimhmfjcoaaDoorW.PrintMore Go.Proofs.YthafbimhmfjcoaaDoor.PV Go.Proofs.YthafbimhmfjcoaaDoor.PE Go.Proofs.YthafbimhmfjcoaaDoor.JP
theorem valid_l0 (l : List JP.Jb) (hs : smallP l = true) : ∀ (d i : Nat), i + d = l.length → Evt (fun k => jobshelllaw36_JobsValid.l0 k l (i : Int)) true
  | 0, i, hi => by
    refine Evt.shift ?_
    simp only [jobshelllaw36_JobsValid.l0, jobs_Valid.f, jobshellref36_Valid.f, if_pos (szJ_small hs), Option.bind_some]
    exact Evt.ite_neg (by omega) (Evt.ite_pos trivial awake_b)
  | d + 1, i, hi => by
    obtain ⟨_, h2, h3⟩ := small_SmL hs
    have hlt : i < l.length := by omega
    have hj := h3 _ (List.getElem_mem hlt)
    refine Evt.shift ?_
    simp only [jobshelllaw36_JobsValid.l0, jobs_Status.f, jobshellref36_Status.f, rdT l i hlt, up1 i (by omega), if_pos (show l[i].f4.length ≤ 100000 by omega), Option.bind_some]
    exact Evt.ite_pos (by omega) (Evt.ite_pos (by omega) (Evt.ite_pos trivial (valid_l0 l hs d (i + 1) (by omega))))
theorem JobsValid (l : List JP.Jb) : ∃ k, jobshelllaw36_JobsValid.f k l = some true := by
  refine Evt.get ?_
  unfold jobshelllaw36_JobsValid.f jobshellref36_Small.f
  simp only [Option.bind_some]
  by_cases hs : smallP l = true
  · have := valid_l0 l hs l.length 0 (by omega)
    exact Evt.ite_pos hs this
  · exact Evt.ite_neg hs awake_b
end Go.Proofs.YthafbimhmfjcoaaDoor.PS

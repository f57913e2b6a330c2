import Derived.Test.YtphgcpoefpogfaaDoorPurG
import Derived.Test.YtphgcpoefpogfaaDoorPSx18
namespace Go.Proofs.YtphgcpoefpogfaaDoor.PS
open Go.RowKit Go.Proofs.YtphgcpoefpogfaaDoorW.PrintWords Go.Proofs.YtphgcpoefpogfaaDoorW.PrintLast Go.Proofs.YtphgcpoefpogfaaDoorW.PrintMore
set_option linter.unusedSimpArgs false
set_option linter.unusedVariables false

def subL (l : List Tr) : List Tr := l.filter (fun t => t.f0 != 0 && t.f1.toList == [])
theorem tsub_loop (q : List Tr) : ∀ (p acc : List Tr), (p ++ q).length ≤ 1000 → acc.length ≤ p.length → Ev (fun k => trap_Sub.l0 k acc (p ++ q) ((p ++ q).length : Int) (p.length : Int)) (acc ++ subL q) := by
  induction q with
  | nil =>
    intro p acc _ _
    refine Ev.shift ?_
    simp only [trap_Sub.l0, subL, List.filter_nil, List.append_nil]
    exact Ev.ite_neg (by omega) (Ev.pure' _)
  | cons t q ih =>
    intro p acc hlen hacc
    have hl := len_mid p q t
    have hl2 : p.length + 1 + q.length ≤ 1000 := by omega
    have ih' := fun acc h => ih (p ++ [t]) acc (by simpa using hlen) h
    simp only [List.append_assoc, len_snoc, List.cons_append, List.nil_append] at ih'
    refine Ev.shift ?_
    simp only [trap_Sub.l0, rd_mid, wr1 p.length (by omega)]
    refine Ev.ite_pos (by omega) (Ev.ite_pos (by omega) (Ev.ite_pos (by omega) ?_))
    unfold subL
    by_cases h : t.f0 = 0
    · rw [List.filter_cons_of_neg (by simp [h])]
      exact Ev.ite_pos h (ih' acc (by simp; omega))
    · refine Ev.ite_neg h ?_
      by_cases h1 : t.f1.toList = []
      · rw [List.filter_cons_of_pos (by rw [h1]; simp [h])]
        have := ih' (acc ++ [t]) (by simp; omega)
        rw [List.append_assoc] at this
        exact Ev.ite_pos h1 (Ev.ite_pos (by omega) this)
      · rw [List.filter_cons_of_neg (by simp [h1])]
        exact Ev.ite_neg h1 (ih' acc (by simp; omega))
theorem tsub_ev {l : List Tr} (h : l.length ≤ 1000) : Ev (fun k => trap_Sub.f k l) (subL l) := tsub_loop l [] [] (by simpa using h) (by simp)
end Go.Proofs.YtphgcpoefpogfaaDoor.PS

import Derived.Test.YtphgcpoefpogfaaDoorPurE
import Derived.Test.YtphgcpoefpogfaaDoorPSx14
namespace Go.Proofs.YtphgcpoefpogfaaDoor.PS
open Go.RowKit Go.Proofs.YtphgcpoefpogfaaDoorW.PrintWords Go.Proofs.YtphgcpoefpogfaaDoorW.PrintLast Go.Proofs.YtphgcpoefpogfaaDoorW.PrintMore
set_option linter.unusedSimpArgs false
set_option linter.unusedVariables false

/-! ## TrapSettles -/
theorem settles_loop {old l : List Tr} (ho : old.length ≤ 1000) (hl : l.length ≤ 1000) (talks : Bool) (b : List Rq) : ∀ a : List Rq, a ++ b = reqL old l talks → (∀ e ∈ b, e.f0 = 14 ∧ (0 ≤ e.f6 ∧ e.f6 ≤ 2) ∧ e.f5 ≠ 9 ∧ e.f5 ≠ 19) → b.Pairwise (fun x y => x.f5 < y.f5) → (∀ x ∈ a.getLast?, ∀ y ∈ b, x.f5 < y.f5) →
    Ev (fun k => jobshelllaw34_TrapSettles.l0 k old l talks (reqL old l talks) (a.length : Int)) true := by
  have hr := rqs_len (old := old) (l := l) (talks := talks) (d := 20) (n := 1)
  have h20 : (reqL old l talks).length ≤ 20 := hr.2.1
  induction b with
  | nil =>
    intro a ha _ _ _
    rw [List.append_nil] at ha
    refine Ev.shift ?_
    simp only [jobshelllaw34_TrapSettles.l0]
    refine Ev.ite_neg (by rw [← ha]; omega) ((treq_ev hl ho talks).bind ((treq_ev hl hl talks).bind (Ev.ite_pos ?_ (Ev.ite_pos ?_ awake_ev'))))
    · have := (rqs_len (old := old) (l := l) (talks := talks) (d := 20) (n := 1)).2.2
      unfold reqL
      rw [this]
      rfl
    · have := hr.1
      unfold reqL
      omega
  | cons y b ih =>
    intro a ha hb hp hlast
    have hyb := hb y List.mem_cons_self
    rw [List.pairwise_cons] at hp
    have ih' := ih (a ++ [y]) (by rw [← ha]; simp) (fun e he => hb e (List.mem_cons_of_mem _ he)) hp.2 (by simp; exact hp.1)
    rw [len_snoc] at ih'
    have hrd : rd_T40 (reqL old l talks) (a.length : Int) = y := by rw [← ha]; exact rd40_mid a b y
    have hlen : ((reqL old l talks).length : Int) = a.length + 1 + b.length := by rw [← ha]; exact len_mid a b y
    refine Ev.shift ?_
    simp only [jobshelllaw34_TrapSettles.l0, hrd, wr1 a.length (by omega)]
    refine Ev.ite_pos (by omega) (Ev.ite_pos (by omega) (Ev.ite_pos hyb.1 (Ev.ite_neg (by omega) (Ev.ite_neg (by omega) ?_))))
    rcases List.eq_nil_or_concat a with rfl | ⟨a', u, rfl⟩
    · exact Ev.ite_neg (by simp) (Ev.ite_neg hyb.2.2.1 (Ev.ite_neg hyb.2.2.2 ih'))
    · rw [List.concat_eq_append] at *
      have hpl : (((a' ++ [u]).length : Nat) : Int) = a'.length + 1 := by simp
      have hru : rd_T40 (reqL old l talks) (a'.length : Int) = u := by rw [← ha, List.append_assoc]; exact rd40_mid a' _ u
      have hw : wrap64 (((a' ++ [u]).length : Int) - 1) = a'.length := by rw [hpl]; exact wr (by omega) (by omega) |>.trans (by omega)
      have hlt : u.f5 < y.f5 := hlast u (by simp) y List.mem_cons_self
      rw [hw, hru]
      exact Ev.ite_pos (by omega) (Ev.ite_pos (by omega) (Ev.ite_pos (by omega) (Ev.ite_neg (by omega) (Ev.ite_neg hyb.2.2.1 (Ev.ite_neg hyb.2.2.2 ih')))))
theorem TrapSettles (old l : List S30) (talks : Bool) (ho : ∀ t ∈ old, (Lit.int .i64 t.f0).wf = true ∧ t.f1.size ≤ maxLen) (hl : ∀ t ∈ l, (Lit.int .i64 t.f0).wf = true ∧ t.f1.size ≤ maxLen) : ∃ k, jobshelllaw34_TrapSettles.f k old l talks = some true := by
  refine Ev.get ?_
  simp only [jobshelllaw34_TrapSettles.f]
  have aw : ∀ x : Bool, x = true → Ev (fun k => jobshelllaw34_TrapSettles.j0 k old l talks x) true := by
    rintro x rfl
    refine Ev.shift ?_
    simp only [jobshelllaw34_TrapSettles.j0]
    exact Ev.ite_pos (by simp) awake_ev'
  obtain ⟨b, hb, hc⟩ := ok_ev old
  obtain ⟨b2, hb2, hc2⟩ := ok_ev l
  refine hb.bind ?_
  by_cases h1 : b = true
  · refine Ev.ite_pos h1 (hb2.bind ?_)
    cases b2 with
    | false => exact aw _ rfl
    | true =>
      have ho := (hc h1).len
      have hl := (hc2 rfl).len
      refine Ev.shift ?_
      simp only [jobshelllaw34_TrapSettles.j0]
      refine Ev.ite_neg (by simp) ((treq_ev (by omega) (by omega) talks).bind ?_)
      refine settles_loop (by omega) (by omega) talks _ [] rfl ?_ ?_ (by simp)
      · intro e he
        obtain ⟨h1, h2, _, h4, h5, _⟩ := rqs_mem (old := old) (l := l) (talks := talks) (d := 20) (n := 1) he
        exact ⟨h1, h2, h4, h5⟩
      · exact rqs_asc (old := old) (l := l) (talks := talks) (d := 20) (n := 1)
  · exact Ev.ite_neg h1 (aw _ rfl)
end Go.Proofs.YtphgcpoefpogfaaDoor.PS

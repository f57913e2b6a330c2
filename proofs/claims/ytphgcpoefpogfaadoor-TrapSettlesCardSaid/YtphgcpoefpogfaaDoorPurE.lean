import Derived.Test.YtphgcpoefpogfaaDoorPurB
namespace Go.Proofs.YtphgcpoefpogfaaDoor.PS
open Go.RowKit Go.Proofs.YtphgcpoefpogfaaDoorW.PrintWords Go.Proofs.YtphgcpoefpogfaaDoorW.PrintLast Go.Proofs.YtphgcpoefpogfaaDoorW.PrintMore
set_option linter.unusedSimpArgs false
set_option linter.unusedVariables false

/-! ## the disposition of a signal -/
def tk (n : Int) (talks : Bool) : Int := if talks = true then (if n = 2 then 2 else if n = 3 then 1 else if n = 4 then 1 else if n = 5 then 1 else if n = 15 then 1 else if n = 20 then 1 else 0) else 0
def disp (l : List Tr) (n : Int) (talks : Bool) : Int := match look l n with
  | some t => if t.f1.toList = [] then 1 else 2
  | none => tk n talks
theorem tk_rng (n : Int) (talks : Bool) : 0 ≤ tk n talks ∧ tk n talks ≤ 2 := by
  unfold tk
  repeat' split
  all_goals decide
theorem disp_rng (l : List Tr) (n : Int) (talks : Bool) : 0 ≤ disp l n talks ∧ disp l n talks ≤ 2 := by
  unfold disp
  split
  · split <;> decide
  · exact tk_rng n talks
theorem tdisp_loop (n : Int) (talks : Bool) (q : List Tr) : ∀ p : List Tr, (p ++ q).length ≤ 1000 → Ev (fun k => trap_disposition.l0 k n talks (p ++ q) ((p ++ q).length : Int) (p.length : Int)) (disp q n talks) := by
  induction q with
  | nil =>
    intro p _
    refine Ev.shift ?_
    simp only [trap_disposition.l0]
    refine Ev.ite_neg (by simp) (Ev.of_eq fun k => ?_)
    unfold disp look tk
    simp only [List.find?_nil]
    repeat' split
    all_goals first | rfl | contradiction
  | cons t q ih =>
    intro p hlen
    have hl := len_mid p q t
    have hl2 : p.length + 1 + q.length ≤ 1000 := by omega
    have ih' := ih (p ++ [t]) (by simpa using hlen)
    simp only [List.append_assoc, len_snoc, List.cons_append, List.nil_append] at ih'
    refine Ev.shift ?_
    simp only [trap_disposition.l0, rd_mid, wr1 p.length (by omega)]
    refine Ev.ite_pos (by omega) (Ev.ite_pos (by omega) (Ev.ite_pos (by omega) ?_))
    unfold disp
    rw [look_cons]
    by_cases h : t.f0 = n
    · rw [if_pos h]
      refine Ev.ite_pos h (Ev.of_eq fun k => ?_)
      dsimp only
      split <;> rfl
    · rw [if_neg h]
      exact Ev.ite_neg h ih'
theorem tdisp_ev {l : List Tr} (hl : l.length ≤ 1000) (n : Int) (talks : Bool) : Ev (fun k => trap_disposition.f k l n talks) (disp l n talks) := tdisp_loop n talks l [] (by simpa using hl)
/-! ## the requests -/
abbrev Rq := S40
def rq (old l : List Tr) (talks : Bool) (n : Int) : List Rq := if ((Sg.sigName n).toList = [] ∨ n = 9 ∨ n = 19) ∨ disp l n talks = disp old n talks then [] else [⟨14, 0, 0, 0, 0, n, disp l n talks, 0, ⟨#[]⟩, ⟨#[]⟩, [], []⟩]
def rqs (old l : List Tr) (talks : Bool) : Nat → Int → List Rq
  | 0, _ => []
  | d + 1, n => rq old l talks n ++ rqs old l talks d (n + 1)
theorem treq_loop {old l : List Tr} (ho : old.length ≤ 1000) (hl : l.length ≤ 1000) (talks : Bool) (d : Nat) : ∀ (n : Int) (acc : List Rq), n + d = 21 → 1 ≤ n → (acc.length : Int) ≤ n → Ev (fun k => trap_Requests.l0 k old l talks acc n) (acc ++ rqs old l talks d n) := by
  induction d with
  | zero =>
    intro n acc h _ _
    refine Ev.shift ?_
    simp only [trap_Requests.l0, rqs, List.append_nil]
    exact Ev.ite_neg (by omega) (Ev.pure' _)
  | succ d ih =>
    intro n acc h h0 ha
    refine Ev.shift ?_
    simp only [trap_Requests.l0, rqs, signal_Name.f, Option.bind_some, show wrap64 (n + 1) = n + 1 from wr (by omega) (by omega)]
    refine Ev.ite_pos (by omega) ((tdisp_ev hl n talks).bind ?_)
    unfold rq
    by_cases c1 : (Sg.sigName n).toList = []
    · rw [if_pos (.inl (.inl c1))]; exact Ev.ite_pos c1 (ih _ _ (by omega) (by omega) (by omega))
    by_cases c2 : n = 9
    · rw [if_pos (.inl (.inr (.inl c2)))]; exact Ev.ite_neg c1 (Ev.ite_pos c2 (ih _ _ (by omega) (by omega) (by omega)))
    by_cases c3 : n = 19
    · rw [if_pos (.inl (.inr (.inr c3)))]; exact Ev.ite_neg c1 (Ev.ite_neg c2 (Ev.ite_pos c3 (ih _ _ (by omega) (by omega) (by omega))))
    refine Ev.ite_neg c1 (Ev.ite_neg c2 (Ev.ite_neg c3 ((tdisp_ev ho n talks).bind ?_)))
    by_cases c4 : disp l n talks = disp old n talks
    · rw [if_pos (.inr c4)]; exact Ev.ite_pos c4 (ih _ _ (by omega) (by omega) (by omega))
    · rw [if_neg (by rintro ((h | h | h) | h); exact c1 h; exact c2 h; exact c3 h; exact c4 h)]
      refine Ev.ite_neg c4 (Ev.ite_pos (by omega) ?_)
      rw [← List.append_assoc]
      exact ih _ _ (by omega) (by omega) (by simp; omega)
def reqL (old l : List Tr) (talks : Bool) : List Rq := rqs old l talks 20 1
theorem treq_ev {old l : List Tr} (ho : old.length ≤ 1000) (hl : l.length ≤ 1000) (talks : Bool) : Ev (fun k => trap_Requests.f k old l talks) (reqL old l talks) := treq_loop ho hl talks 20 1 [] (by omega) (by omega) (by simp)
theorem rq_mem {old l : List Tr} {talks : Bool} {n : Int} {e : Rq} (h : e ∈ rq old l talks n) : e.f0 = 14 ∧ (0 ≤ e.f6 ∧ e.f6 ≤ 2) ∧ e.f5 = n ∧ n ≠ 9 ∧ n ≠ 19 ∧ e.f10 = [] ∧ e.f11 = [] := by
  unfold rq at h
  split at h
  · cases h
  · rename_i hc
    rw [List.mem_singleton] at h
    subst h
    exact ⟨rfl, disp_rng _ _ _, rfl, fun e => hc (.inl (.inr (.inl e))), fun e => hc (.inl (.inr (.inr e))), rfl, rfl⟩
theorem rqs_mem {old l : List Tr} {talks : Bool} {d : Nat} : ∀ {n : Int} {e : Rq}, e ∈ rqs old l talks d n → e.f0 = 14 ∧ (0 ≤ e.f6 ∧ e.f6 ≤ 2) ∧ n ≤ e.f5 ∧ e.f5 ≠ 9 ∧ e.f5 ≠ 19 ∧ e.f10 = [] ∧ e.f11 = [] := by
  induction d with
  | zero => intro n e h; cases h
  | succ d ih =>
    intro n e h
    rcases List.mem_append.1 h with h | h
    · obtain ⟨h1, h2, h3, h4, h5, h6⟩ := rq_mem h
      exact ⟨h1, h2, by omega, by omega, by omega, h6⟩
    · obtain ⟨h1, h2, h3, h4⟩ := ih h
      exact ⟨h1, h2, by omega, h4⟩
theorem rqs_asc {old l : List Tr} {talks : Bool} {d : Nat} : ∀ {n : Int}, (rqs old l talks d n).Pairwise (fun a b => a.f5 < b.f5) := by
  induction d with
  | zero => intro n; exact List.Pairwise.nil
  | succ d ih =>
    intro n
    refine List.pairwise_append.2 ⟨?_, ih, fun a ha b hb => ?_⟩
    · unfold rq
      split
      · exact List.Pairwise.nil
      · exact List.pairwise_singleton _ _
    · have h1 := (rq_mem ha).2.2.1
      have h2 := (rqs_mem hb).2.2.1
      omega
theorem rqs_len {old l : List Tr} {talks : Bool} {d : Nat} : ∀ {n : Int}, (rqs old l talks d n).length = (rqs l old talks d n).length ∧ (rqs old l talks d n).length ≤ d ∧ rqs l l talks d n = [] := by
  induction d with
  | zero => intro n; exact ⟨rfl, Nat.le_refl _, rfl⟩
  | succ d ih =>
    intro n
    obtain ⟨h1, h2, h3⟩ := ih (n := n + 1)
    simp only [rqs, List.length_append]
    have e1 : (rq old l talks n).length = (rq l old talks n).length ∧ (rq old l talks n).length ≤ 1 := by
      unfold rq
      by_cases c : ((Sg.sigName n).toList = [] ∨ n = 9 ∨ n = 19) ∨ disp l n talks = disp old n talks
      · rw [if_pos c, if_pos (c.imp id Eq.symm)]; exact ⟨rfl, by simp⟩
      · rw [if_neg c, if_neg (fun h => c (h.imp id Eq.symm))]; exact ⟨rfl, by simp⟩
    have e2 : rq l l talks n = [] := if_pos (.inr rfl)
    exact ⟨by omega, by omega, by rw [e2, h3]; rfl⟩
theorem rd40_mid (p q : List Rq) (t : Rq) : rd_T40 (p ++ t :: q) (p.length : Int) = t := by
  unfold rd_T40
  simp
end Go.Proofs.YtphgcpoefpogfaaDoor.PS

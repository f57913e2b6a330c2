import Derived.Test.YtphgcpoefpogfaaDoorPurB
import Derived.Test.YtphgcpoefpogfaaDoorPSx12
namespace Go.Proofs.YtphgcpoefpogfaaDoor.PS
open Go.RowKit Go.Proofs.YtphgcpoefpogfaaDoorW.PrintWords Go.Proofs.YtphgcpoefpogfaaDoorW.PrintLast Go.Proofs.YtphgcpoefpogfaaDoorW.PrintMore
set_option linter.unusedSimpArgs false
set_option linter.unusedVariables false

/-! ## the disposition of a signal -/
def tk (n : Int) (talks : Bool) : Int := if talks = true then (if n = 2 then 2 else if n = 3 then 1 else if n = 4 then 1 else if n = 5 then 1 else if n = 15 then 1 else if n = 20 then 1 else 0) else 0
def disp (l : List Tr) (n : Int) (talks : Bool) : Int := match look l n with
  | some t => if t.f1.toList = [] then 1 else 2
  | none => tk n talks
theorem tk_rng (n : Int) (talks : Bool) : 0 ≤ tk n talks ∧ tk n talks ≤ 2 := by
  unfold tk
  repeat' split
  all_goals decide
theorem disp_rng (l : List Tr) (n : Int) (talks : Bool) : 0 ≤ disp l n talks ∧ disp l n talks ≤ 2 := by
  unfold disp
  split
  · split <;> decide
  · exact tk_rng n talks
theorem tdisp_loop (n : Int) (talks : Bool) (q : List Tr) : ∀ p : List Tr, (p ++ q).length ≤ 1000 → Ev (fun k => trap_disposition.l0 k n talks (p ++ q) ((p ++ q).length : Int) (p.length : Int)) (disp q n talks) := by
  induction q with
  | nil =>
    intro p _
    refine Ev.shift ?_
    simp only [trap_disposition.l0]
    refine Ev.ite_neg (by simp) (Ev.of_eq fun k => ?_)
    unfold disp look tk
    simp only [List.find?_nil]
    repeat' split
    all_goals first | rfl | contradiction
  | cons t q ih =>
    intro p hlen
    have hl := len_mid p q t
    have hl2 : p.length + 1 + q.length ≤ 1000 := by omega
    have ih' := ih (p ++ [t]) (by simpa using hlen)
    simp only [List.append_assoc, len_snoc, List.cons_append, List.nil_append] at ih'
    refine Ev.shift ?_
    simp only [trap_disposition.l0, rd_mid, wr1 p.length (by omega)]
    refine Ev.ite_pos (by omega) (Ev.ite_pos (by omega) (Ev.ite_pos (by omega) ?_))
    unfold disp
    rw [look_cons]
    by_cases h : t.f0 = n
    · rw [if_pos h]
      refine Ev.ite_pos h (Ev.of_eq fun k => ?_)
      dsimp only
      split <;> rfl
    · rw [if_neg h]
      exact Ev.ite_neg h ih'
theorem tdisp_ev {l : List Tr} (hl : l.length ≤ 1000) (n : Int) (talks : Bool) : Ev (fun k => trap_disposition.f k l n talks) (disp l n talks) := tdisp_loop n talks l [] (by simpa using hl)
theorem rdisp_ev {l : List Tr} (hl : l.length ≤ 1000) (n : Int) (talks : Bool) : Ev (fun k => jobshellref34_disposition.f k l n talks) (disp l n talks) := by
  simp only [jobshellref34_disposition.f]
  unfold disp
  cases h : look l n with
  | none =>
    refine (find_none hl h).bind (Ev.ite_neg (by omega) (Ev.shift ?_))
    simp only [jobshellref34_disposition.j0]
    refine Ev.ite_neg (by simp) (Ev.ite_neg (by omega) ?_)
    unfold tk
    by_cases ht : talks = true
    · rw [if_pos ht]
      refine Ev.ite_pos ht (Ev.shift ?_)
      simp only [jobshellref34_disposition.j1]
      by_cases h2 : n = 2
      · rw [if_pos h2]; exact Ev.ite_pos (by simpa using h2) (Ev.pure' _)
      · rw [if_neg h2]
        refine Ev.ite_neg (by simpa using h2) (Ev.ite_pos ht (Ev.of_eq fun k => ?_))
        repeat' split
        all_goals rfl
    · rw [if_neg ht]
      refine Ev.ite_neg ht (Ev.shift ?_)
      simp only [jobshellref34_disposition.j1]
      exact Ev.ite_neg (by simp) (Ev.ite_neg ht (Ev.pure' _))
  | some t =>
    obtain ⟨r, hr, h1, h2, h3⟩ := find_some hl h
    refine hr.bind (Ev.ite_pos (by omega) (Ev.ite_pos h1 (Ev.ite_pos h2 (Ev.shift ?_))))
    simp only [jobshellref34_disposition.j0, h3]
    by_cases he : t.f1.toList = []
    · rw [if_pos he]; exact Ev.ite_pos (by simpa using he) (Ev.pure' _)
    · rw [if_neg he]; exact Ev.ite_neg (by simpa using he) (Ev.ite_pos (by omega) (Ev.pure' _))

/-! ## the requests -/
abbrev Rq := S40
def rq (old l : List Tr) (talks : Bool) (n : Int) : List Rq := if ((Sg.sigName n).toList = [] ∨ n = 9 ∨ n = 19) ∨ disp l n talks = disp old n talks then [] else [⟨14, 0, 0, 0, 0, n, disp l n talks, 0, ⟨#[]⟩, ⟨#[]⟩, [], []⟩]
def rqs (old l : List Tr) (talks : Bool) : Nat → Int → List Rq
  | 0, _ => []
  | d + 1, n => rq old l talks n ++ rqs old l talks d (n + 1)
theorem treq_loop {old l : List Tr} (ho : old.length ≤ 1000) (hl : l.length ≤ 1000) (talks : Bool) (d : Nat) : ∀ (n : Int) (acc : List Rq), n + d = 21 → 1 ≤ n → (acc.length : Int) ≤ n → Ev (fun k => trap_Requests.l0 k old l talks acc n) (acc ++ rqs old l talks d n) := by
  induction d with
  | zero =>
    intro n acc h _ _
    refine Ev.shift ?_
    simp only [trap_Requests.l0, rqs, List.append_nil]
    exact Ev.ite_neg (by omega) (Ev.pure' _)
  | succ d ih =>
    intro n acc h h0 ha
    refine Ev.shift ?_
    simp only [trap_Requests.l0, rqs, signal_Name.f, Option.bind_some, show wrap64 (n + 1) = n + 1 from wr (by omega) (by omega)]
    refine Ev.ite_pos (by omega) ((tdisp_ev hl n talks).bind ?_)
    unfold rq
    by_cases c1 : (Sg.sigName n).toList = []
    · rw [if_pos (.inl (.inl c1))]; exact Ev.ite_pos c1 (ih _ _ (by omega) (by omega) (by omega))
    by_cases c2 : n = 9
    · rw [if_pos (.inl (.inr (.inl c2)))]; exact Ev.ite_neg c1 (Ev.ite_pos c2 (ih _ _ (by omega) (by omega) (by omega)))
    by_cases c3 : n = 19
    · rw [if_pos (.inl (.inr (.inr c3)))]; exact Ev.ite_neg c1 (Ev.ite_neg c2 (Ev.ite_pos c3 (ih _ _ (by omega) (by omega) (by omega))))
    refine Ev.ite_neg c1 (Ev.ite_neg c2 (Ev.ite_neg c3 ((tdisp_ev ho n talks).bind ?_)))
    by_cases c4 : disp l n talks = disp old n talks
    · rw [if_pos (.inr c4)]; exact Ev.ite_pos c4 (ih _ _ (by omega) (by omega) (by omega))
    · rw [if_neg (by rintro ((h | h | h) | h); exact c1 h; exact c2 h; exact c3 h; exact c4 h)]
      refine Ev.ite_neg c4 (Ev.ite_pos (by omega) ?_)
      rw [← List.append_assoc]
      exact ih _ _ (by omega) (by omega) (by simp; omega)
theorem rreq_loop {old l : List Tr} (ho : old.length ≤ 1000) (hl : l.length ≤ 1000) (talks : Bool) (d : Nat) : ∀ (n : Int) (acc : List Rq), n + d = 21 → 1 ≤ n → (acc.length : Int) ≤ n → Ev (fun k => jobshellref34_Requests.l0 k old l talks acc n) (acc ++ rqs old l talks d n) := by
  induction d with
  | zero =>
    intro n acc h _ _
    refine Ev.shift ?_
    simp only [jobshellref34_Requests.l0, rqs, List.append_nil]
    exact Ev.ite_neg (by omega) (Ev.pure' _)
  | succ d ih =>
    intro n acc h h0 ha
    have hw : wrap64 (n + 1) = n + 1 := wr (by omega) (by omega)
    have skip : ∀ x : Bool, x = true → rq old l talks n = [] → Ev (fun k => jobshellref34_Requests.j1 k old l talks acc n x) (acc ++ (rq old l talks n ++ rqs old l talks d (n + 1))) := by
      rintro x rfl e
      rw [e]
      refine Ev.shift ?_
      simp only [jobshellref34_Requests.j1, hw]
      exact Ev.ite_pos (by simp) (ih _ _ (by omega) (by omega) (by omega))
    refine Ev.shift ?_
    simp only [jobshellref34_Requests.l0, rqs, name_ref, Option.bind_some]
    refine Ev.ite_pos (by omega) ?_
    by_cases c1 : (Sg.sigName n).toList = []
    · exact Ev.ite_pos c1 (skip _ rfl (if_pos (.inl (.inl c1))))
    by_cases c2 : n = 9
    · exact Ev.ite_neg c1 (Ev.ite_pos c2 (skip _ rfl (if_pos (.inl (.inr (.inl c2))))))
    refine Ev.ite_neg c1 (Ev.ite_neg c2 ?_)
    by_cases c3 : n = 19
    · exact skip _ (by simpa using c3) (if_pos (.inl (.inr (.inr c3))))
    refine Ev.shift ?_
    simp only [jobshellref34_Requests.j1, hw]
    refine Ev.ite_neg (by simpa using c3) ((rdisp_ev hl n talks).bind ((rdisp_ev ho n talks).bind ?_))
    unfold rq
    by_cases c4 : disp l n talks = disp old n talks
    · rw [if_pos (.inr c4)]; exact Ev.ite_pos c4 (ih _ _ (by omega) (by omega) (by omega))
    · rw [if_neg (by rintro ((h | h | h) | h); exact c1 h; exact c2 h; exact c3 h; exact c4 h)]
      refine Ev.ite_neg c4 ((rdisp_ev hl n talks).bind (Ev.ite_pos (by omega) ?_))
      rw [← List.append_assoc]
      exact ih _ _ (by omega) (by omega) (by simp; omega)
def reqL (old l : List Tr) (talks : Bool) : List Rq := rqs old l talks 20 1
theorem treq_ev {old l : List Tr} (ho : old.length ≤ 1000) (hl : l.length ≤ 1000) (talks : Bool) : Ev (fun k => trap_Requests.f k old l talks) (reqL old l talks) := treq_loop ho hl talks 20 1 [] (by omega) (by omega) (by simp)
theorem rreq_ev {old l : List Tr} (ho : old.length ≤ 1000) (hl : l.length ≤ 1000) (talks : Bool) : Ev (fun k => jobshellref34_Requests.f k old l talks) (reqL old l talks) := rreq_loop ho hl talks 20 1 [] (by omega) (by omega) (by simp)
theorem rq_mem {old l : List Tr} {talks : Bool} {n : Int} {e : Rq} (h : e ∈ rq old l talks n) : e.f0 = 14 ∧ (0 ≤ e.f6 ∧ e.f6 ≤ 2) ∧ e.f5 = n ∧ n ≠ 9 ∧ n ≠ 19 ∧ e.f10 = [] ∧ e.f11 = [] := by
  unfold rq at h
  split at h
  · cases h
  · rename_i hc
    rw [List.mem_singleton] at h
    subst h
    exact ⟨rfl, disp_rng _ _ _, rfl, fun e => hc (.inl (.inr (.inl e))), fun e => hc (.inl (.inr (.inr e))), rfl, rfl⟩
theorem rqs_mem {old l : List Tr} {talks : Bool} {d : Nat} : ∀ {n : Int} {e : Rq}, e ∈ rqs old l talks d n → e.f0 = 14 ∧ (0 ≤ e.f6 ∧ e.f6 ≤ 2) ∧ n ≤ e.f5 ∧ e.f5 ≠ 9 ∧ e.f5 ≠ 19 ∧ e.f10 = [] ∧ e.f11 = [] := by
  induction d with
  | zero => intro n e h; cases h
  | succ d ih =>
    intro n e h
    rcases List.mem_append.1 h with h | h
    · obtain ⟨h1, h2, h3, h4, h5, h6⟩ := rq_mem h
      exact ⟨h1, h2, by omega, by omega, by omega, h6⟩
    · obtain ⟨h1, h2, h3, h4⟩ := ih h
      exact ⟨h1, h2, by omega, h4⟩
theorem rqs_asc {old l : List Tr} {talks : Bool} {d : Nat} : ∀ {n : Int}, (rqs old l talks d n).Pairwise (fun a b => a.f5 < b.f5) := by
  induction d with
  | zero => intro n; exact List.Pairwise.nil
  | succ d ih =>
    intro n
    refine List.pairwise_append.2 ⟨?_, ih, fun a ha b hb => ?_⟩
    · unfold rq
      split
      · exact List.Pairwise.nil
      · exact List.pairwise_singleton _ _
    · have h1 := (rq_mem ha).2.2.1
      have h2 := (rqs_mem hb).2.2.1
      omega
theorem rqs_len {old l : List Tr} {talks : Bool} {d : Nat} : ∀ {n : Int}, (rqs old l talks d n).length = (rqs l old talks d n).length ∧ (rqs old l talks d n).length ≤ d ∧ rqs l l talks d n = [] := by
  induction d with
  | zero => intro n; exact ⟨rfl, Nat.le_refl _, rfl⟩
  | succ d ih =>
    intro n
    obtain ⟨h1, h2, h3⟩ := ih (n := n + 1)
    simp only [rqs, List.length_append]
    have e1 : (rq old l talks n).length = (rq l old talks n).length ∧ (rq old l talks n).length ≤ 1 := by
      unfold rq
      by_cases c : ((Sg.sigName n).toList = [] ∨ n = 9 ∨ n = 19) ∨ disp l n talks = disp old n talks
      · rw [if_pos c, if_pos (c.imp id Eq.symm)]; exact ⟨rfl, by simp⟩
      · rw [if_neg c, if_neg (fun h => c (h.imp id Eq.symm))]; exact ⟨rfl, by simp⟩
    have e2 : rq l l talks n = [] := if_pos (.inr rfl)
    exact ⟨by omega, by omega, by rw [e2, h3]; rfl⟩
theorem rd40_mid (p q : List Rq) (t : Rq) : rd_T40 (p ++ t :: q) (p.length : Int) = t := by
  unfold rd_T40
  simp
theorem texts_nil : Ev (fun k => jobshellref31_Texts.f k [] []) true := by
  simp only [jobshellref31_Texts.f]
  refine Ev.ite_pos (by simp) (Ev.shift ?_)
  simp only [jobshellref31_Texts.l0]
  exact Ev.ite_neg (by simp) (Ev.pure' _)
theorem same_ev {e : Rq} (h10 : e.f10 = []) (h11 : e.f11 = []) : Ev (fun k => jobshellref31_SameReq.f k e.f0 e.f1 e.f2 e.f3 e.f4 e.f5 e.f6 e.f7 e.f8 e.f9 e.f10 e.f11 e.f0 e.f1 e.f2 e.f3 e.f4 e.f5 e.f6 e.f7 e.f8 e.f9 e.f10 e.f11) true := by
  simp only [jobshellref31_SameReq.f, h10, h11]
  refine Ev.ite_pos (by simp) (Ev.ite_pos (by simp) (Ev.ite_pos (by simp) (Ev.ite_pos (by simp) (Ev.ite_pos (by simp) (Ev.ite_pos (by simp) (Ev.ite_pos (by simp) (Ev.ite_pos (by simp) (Ev.ite_pos (by simp) (Ev.shift ?_)))))))))
  simp only [jobshellref31_SameReq.j0]
  exact Ev.ite_neg (by simp) (texts_nil.bind (Ev.ite_pos (by simp) (texts_nil.bind (Ev.pure' _))))
theorem reqs_loop (b : List Rq) : ∀ a : List Rq, (a ++ b).length ≤ 1000 → (∀ e ∈ b, e.f10 = [] ∧ e.f11 = []) → Ev (fun k => jobshelllaw34_TrapRequests.l0 k (a ++ b) (a ++ b) (a.length : Int)) true := by
  induction b with
  | nil =>
    intro a _ _
    refine Ev.shift ?_
    simp only [jobshelllaw34_TrapRequests.l0]
    exact Ev.ite_neg (by simp) awake_ev'
  | cons y b ih =>
    intro a hlen hb
    have hl := len_mid a b y
    have ih' := ih (a ++ [y]) (by simpa using hlen) (fun e he => hb e (List.mem_cons_of_mem _ he))
    simp only [List.append_assoc, len_snoc, List.cons_append, List.nil_append] at ih'
    have hy := hb y List.mem_cons_self
    refine Ev.shift ?_
    simp only [jobshelllaw34_TrapRequests.l0, rd40_mid, wr1 a.length (by omega)]
    exact Ev.ite_pos (by omega) (Ev.ite_pos (by omega) (Ev.ite_pos (by omega) ((same_ev hy.1 hy.2).bind (Ev.ite_pos (by simp) ih'))))
theorem TrapRequests (old l : List S30) (talks : Bool) (ho : ∀ t ∈ old, (Lit.int .i64 t.f0).wf = true ∧ t.f1.size ≤ maxLen) (hl : ∀ t ∈ l, (Lit.int .i64 t.f0).wf = true ∧ t.f1.size ≤ maxLen) : ∃ k, jobshelllaw34_TrapRequests.f k old l talks = some true := by
  refine Ev.get ?_
  simp only [jobshelllaw34_TrapRequests.f]
  have aw : ∀ x : Bool, x = true → Ev (fun k => jobshelllaw34_TrapRequests.j0 k old l talks x) true := by
    rintro x rfl
    refine Ev.shift ?_
    simp only [jobshelllaw34_TrapRequests.j0]
    exact Ev.ite_pos (by simp) awake_ev'
  obtain ⟨b, hb, hc⟩ := ok_ev old
  obtain ⟨b2, hb2, hc2⟩ := ok_ev l
  refine hb.bind ?_
  by_cases h1 : b = true
  · refine Ev.ite_pos h1 (hb2.bind ?_)
    cases b2 with
    | false => exact aw _ rfl
    | true =>
      have ho := (hc h1).len
      have hl := (hc2 rfl).len
      refine Ev.shift ?_
      simp only [jobshelllaw34_TrapRequests.j0]
      refine Ev.ite_neg (by simp) ((treq_ev (by omega) (by omega) talks).bind ((rreq_ev (by omega) (by omega) talks).bind (Ev.ite_pos (by simp) ?_)))
      have hlen := (rqs_len (old := old) (l := l) (talks := talks) (d := 20) (n := 1)).2.1
      refine reqs_loop _ [] ?_ ?_
      · show (reqL old l talks).length ≤ 1000
        unfold reqL
        omega
      · intro e he
        exact (rqs_mem (old := old) (l := l) (talks := talks) (d := 20) (n := 1) he).2.2.2.2.2
  · exact Ev.ite_neg h1 (aw _ rfl)
end Go.Proofs.YtphgcpoefpogfaaDoor.PS

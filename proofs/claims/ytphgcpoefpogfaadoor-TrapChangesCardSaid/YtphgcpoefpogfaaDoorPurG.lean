import Derived.Test.YtphgcpoefpogfaaDoorPurB
import Derived.Test.YtphgcpoefpogfaaDoorPSx15
namespace Go.Proofs.YtphgcpoefpogfaaDoor.PS
open Go.RowKit Go.Proofs.YtphgcpoefpogfaaDoorW.PrintWords Go.Proofs.YtphgcpoefpogfaaDoorW.PrintLast Go.Proofs.YtphgcpoefpogfaaDoorW.PrintMore
set_option linter.unusedSimpArgs false
set_option linter.unusedVariables false

/-! ## one trap set among the others -/
def setF (sig : Int) (act : ByteArray) : Bool → List Tr → List Tr
  | done, [] => if done = true then [] else [⟨sig, act⟩]
  | done, t :: q => (if t.f0 ≥ sig ∧ done = false then [⟨sig, act⟩] else []) ++ ((if t.f0 = sig then [] else [t]) ++ setF sig act (done || decide (t.f0 ≥ sig)) q)
theorem tr_eta (t : Tr) : (⟨t.f0, t.f1⟩ : Tr) = t := rfl
theorem tset_loop (sig : Int) (act : ByteArray) (q : List Tr) : ∀ (p : List Tr) (acc : List Tr) (done : Bool), (p ++ q).length ≤ 1000 → acc.length ≤ 2 * p.length → Ev (fun k => trap_Set.l0 k sig act acc done (p ++ q) ((p ++ q).length : Int) (p.length : Int)) (acc ++ setF sig act done q) := by
  induction q with
  | nil =>
    intro p acc done hlen hacc
    simp only [List.append_nil] at hlen
    refine Ev.shift ?_
    simp only [trap_Set.l0, setF]
    refine Ev.ite_neg (by simp) ?_
    cases done with
    | true =>
      have e : acc ++ (if true = true then ([] : List Tr) else [⟨sig, act⟩]) = acc := by simp
      rw [e]; exact Ev.ite_pos (by simp) (Ev.pure' _)
    | false =>
      have e : acc ++ (if false = true then ([] : List Tr) else [⟨sig, act⟩]) = acc ++ [⟨sig, act⟩] := by simp
      rw [e]; exact Ev.ite_neg (by simp) (Ev.ite_pos (by omega) (Ev.pure' _))
  | cons t q ih =>
    intro p acc done hlen hacc
    have hl := len_mid p q t
    have hl2 : p.length + 1 + q.length ≤ 1000 := by omega
    have ih' := fun acc done h => ih (p ++ [t]) acc done (by simpa using hlen) h
    simp only [List.append_assoc, len_snoc, List.cons_append, List.nil_append] at ih'
    have hle : ∀ n : Nat, n ≤ 2 * p.length + 2 → n ≤ 2 * (p ++ [t]).length := fun n h => by simp; omega
    refine Ev.shift ?_
    simp only [trap_Set.l0, rd_mid]
    refine Ev.ite_pos (by omega) (Ev.ite_pos (by omega) (Ev.ite_pos (by omega) ?_))
    have noput : ∀ x : Bool, x = false → (if t.f0 ≥ sig ∧ done = false then [(⟨sig, act⟩ : Tr)] else []) = [] → Ev (fun k => trap_Set.j2 k sig act acc done (p ++ t :: q) ((p ++ t :: q).length : Int) (p.length : Int) x t.f0 t.f1) (acc ++ setF sig act done (t :: q)) ∨ (done || decide (t.f0 ≥ sig)) ≠ done := by
      rintro x rfl e
      by_cases hd : (done || decide (t.f0 ≥ sig)) = done
      · refine .inl (Ev.shift ?_)
        simp only [trap_Set.j2, setF, e, hd, List.nil_append, wr1 p.length (by omega)]
        refine Ev.ite_neg (by simp) ?_
        by_cases h : t.f0 = sig
        · rw [if_pos h]
          exact Ev.ite_pos h (ih' acc done (hle _ (by omega)))
        · rw [if_neg h, ← List.append_assoc]
          exact Ev.ite_neg h (Ev.ite_pos (by omega) (ih' (acc ++ [t]) done (hle _ (by simp; omega))))
      · exact .inr hd
    by_cases hge : t.f0 ≥ sig
    · refine Ev.ite_pos hge ?_
      cases done with
      | true => exact (noput _ rfl (if_neg (by simp))).resolve_right (by simp)
      | false =>
        refine Ev.shift ?_
        simp only [trap_Set.j2, setF, Option.bind_some, wr1 p.length (by omega)]
        refine Ev.ite_pos (by simp) (Ev.ite_pos (by omega) ?_)
        rw [if_pos (by simpa using hge), show (false || decide (t.f0 ≥ sig)) = true by simp [hge]]
        by_cases h : t.f0 = sig
        · rw [if_pos h, ← List.append_assoc]
          exact Ev.ite_pos h (ih' (acc ++ [⟨sig, act⟩]) true (hle _ (by simp; omega)))
        · rw [if_neg h, ← List.append_assoc, ← List.append_assoc]
          exact Ev.ite_neg h (Ev.ite_pos (by simp; omega) (ih' (acc ++ [⟨sig, act⟩] ++ [t]) true (hle _ (by simp; omega))))
    · refine Ev.ite_neg hge ?_
      exact (noput _ rfl (if_neg (fun h => hge h.1))).resolve_right (by simp [hge])
def setL (l : List Tr) (sig : Int) (act : ByteArray) : List Tr := if sig < 0 ∨ 20 < sig then l else setF sig act false l
theorem tset_ev {l : List Tr} (h : l.length ≤ 1000) (sig : Int) (act : ByteArray) : Ev (fun k => trap_Set.f k l sig act) (setL l sig act) := by
  simp only [trap_Set.f]
  unfold setL
  have out : ∀ x : Bool, x = true → Ev (fun k => trap_Set.j0 k l sig act x) l := by
    rintro x rfl
    refine Ev.shift ?_
    simp only [trap_Set.j0]
    exact Ev.ite_pos (by simp) (Ev.pure' _)
  by_cases h0 : sig < 0
  · rw [if_pos (.inl h0)]; exact Ev.ite_pos h0 (out _ rfl)
  · refine Ev.ite_neg h0 ?_
    by_cases h1 : 20 < sig
    · rw [if_pos (.inr h1)]; exact out _ (by simpa using h1)
    · rw [if_neg (fun h => h.elim h0 h1)]
      refine Ev.shift ?_
      simp only [trap_Set.j0]
      exact Ev.ite_neg (by simpa using h1) (tset_loop sig act l [] [] false (by simpa using h) (by simp))
/-- The reference: signal by signal. -/
def rset (lk : Int → Option Tr) (sig : Int) (act : ByteArray) : Nat → Int → List Tr
  | 0, _ => []
  | d + 1, n => (if n = sig then [⟨sig, act⟩] else (lk n).toList) ++ rset lk sig act d (n + 1)
theorem rset_loop {l : List Tr} (h : l.length ≤ 1000) (sig : Int) (act : ByteArray) (d : Nat) : ∀ (n : Int) (acc : List Tr), n + d = 21 → 0 ≤ n → (acc.length : Int) ≤ n → Ev (fun k => jobshellref34_Set.l0 k l sig act acc n) (acc ++ rset (look l) sig act d n) := by
  induction d with
  | zero =>
    intro n acc hn _ _
    refine Ev.shift ?_
    simp only [jobshellref34_Set.l0, rset, List.append_nil]
    exact Ev.ite_neg (by omega) (Ev.pure' _)
  | succ d ih =>
    intro n acc hn h0 hacc
    have hw : wrap64 (n + 1) = n + 1 := wr (by omega) (by omega)
    refine Ev.shift ?_
    simp only [jobshellref34_Set.l0, rset, hw]
    refine Ev.ite_pos (by omega) ?_
    cases hk : look l n with
    | none =>
      refine (find_none h hk).bind ?_
      by_cases hs : n = sig
      · rw [if_pos hs, ← List.append_assoc]
        exact Ev.ite_pos hs (Ev.ite_pos (by omega) (ih _ _ (by omega) (by omega) (by simp; omega)))
      · rw [if_neg hs]
        exact Ev.ite_neg hs (Ev.ite_neg (by omega) (ih _ _ (by omega) (by omega) (by omega)))
    | some t =>
      obtain ⟨r, hr, h1, h2, h3⟩ := find_some h hk
      refine hr.bind ?_
      by_cases hs : n = sig
      · rw [if_pos hs, ← List.append_assoc]
        exact Ev.ite_pos hs (Ev.ite_pos (by omega) (ih _ _ (by omega) (by omega) (by simp; omega)))
      · rw [if_neg hs, ← List.append_assoc, h3]
        exact Ev.ite_neg hs (Ev.ite_pos (by omega) (Ev.ite_pos h1 (Ev.ite_pos h2 (Ev.ite_pos (by omega) (ih (n + 1) (acc ++ [t]) (by omega) (by omega) (by simp; omega))))))
theorem look_out {l : List Tr} {n : Int} (h : ∀ t ∈ l, t.f0 ≠ n) : look l n = none := by
  unfold look; rw [List.find?_eq_none]; intro t ht; simpa using h t ht
theorem setF_true {sig : Int} {act : ByteArray} : ∀ {q : List Tr}, (∀ t ∈ q, t.f0 ≠ sig) → setF sig act true q = q
  | [], _ => rfl
  | t :: q, h => by
    unfold setF
    rw [if_neg (by simp), if_neg (h t List.mem_cons_self), Bool.true_or, setF_true (fun u hu => h u (List.mem_cons_of_mem _ hu))]
    rfl
/-- The suffix of a right list that the signals from n on reach. -/
structure Suf (lk : Int → Option Tr) (n : Int) (q : List Tr) : Prop where
  asc : q.Pairwise (fun a b => a.f0 < b.f0)
  rng : ∀ t ∈ q, n ≤ t.f0 ∧ t.f0 ≤ 20
  at_ : ∀ m, n ≤ m → lk m = look q m
theorem Suf.here {lk : Int → Option Tr} {t : Tr} {q : List Tr} {n : Int} (h : Suf lk n (t :: q)) (ht : t.f0 = n) : lk n = some t ∧ Suf lk (n + 1) q := by
  have ha := List.pairwise_cons.1 h.asc
  refine ⟨(h.at_ n (by omega)).trans (by rw [look_cons, if_pos ht]), ha.2, fun u hu => ?_, fun m hm => ?_⟩
  · have := ha.1 u hu
    have := h.rng u (List.mem_cons_of_mem _ hu)
    omega
  · rw [h.at_ m (by omega), look_cons, if_neg (by omega)]
theorem Suf.later {lk : Int → Option Tr} {q : List Tr} {n : Int} (h : Suf lk n q) (hq : ∀ t ∈ q, t.f0 ≠ n) : lk n = none ∧ Suf lk (n + 1) q := by
  refine ⟨(h.at_ n (by omega)).trans (look_out hq), h.asc, fun u hu => ?_, fun m hm => h.at_ m (by omega)⟩
  have := hq u hu
  have := h.rng u hu
  omega
theorem Suf.cons_ne {lk : Int → Option Tr} {t : Tr} {q : List Tr} {n : Int} (h : Suf lk n (t :: q)) (ht : t.f0 ≠ n) : ∀ u ∈ t :: q, u.f0 ≠ n := by
  intro u hu
  have h1 := h.rng t List.mem_cons_self
  rcases List.mem_cons.1 hu with rfl | hu
  · exact ht
  · have := (List.pairwise_cons.1 h.asc).1 u hu
    omega
theorem rset_after {lk : Int → Option Tr} {sig : Int} {act : ByteArray} (d : Nat) : ∀ (n : Int) (q : List Tr), n + d = 21 → sig < n → Suf lk n q → rset lk sig act d n = q := by
  induction d with
  | zero =>
    intro n q hn _ h
    cases q with
    | nil => rfl
    | cons t q => have := h.rng t List.mem_cons_self; omega
  | succ d ih =>
    intro n q hn hs h
    unfold rset
    rw [if_neg (by omega)]
    cases q with
    | nil =>
      obtain ⟨h1, h2⟩ := h.later (fun _ hu => by cases hu)
      rw [h1, ih _ _ (by omega) (by omega) h2]; rfl
    | cons t q =>
      by_cases ht : t.f0 = n
      · obtain ⟨h1, h2⟩ := h.here ht
        rw [h1, ih _ _ (by omega) (by omega) h2]; rfl
      · obtain ⟨h1, h2⟩ := h.later (h.cons_ne ht)
        rw [h1, ih _ _ (by omega) (by omega) h2]; rfl
theorem rset_set {lk : Int → Option Tr} {sig : Int} {act : ByteArray} (hs : sig ≤ 20) (d : Nat) : ∀ (n : Int) (q : List Tr), n + d = 21 → n ≤ sig → Suf lk n q → rset lk sig act d n = setF sig act false q := by
  induction d with
  | zero => intro n q hn hns; omega
  | succ d ih =>
    intro n q hn hns h
    unfold rset
    by_cases e : n = sig
    · rw [if_pos e]
      cases q with
      | nil =>
        obtain ⟨h1, h2⟩ := h.later (fun _ hu => by cases hu)
        rw [rset_after d (n + 1) [] (by omega) (by omega) h2]; rfl
      | cons t q =>
        have hr := h.rng t List.mem_cons_self
        unfold setF
        rw [if_pos ⟨by omega, rfl⟩, show (false || decide (t.f0 ≥ sig)) = true by simp; omega]
        by_cases ht : t.f0 = n
        · obtain ⟨h1, h2⟩ := h.here ht
          rw [if_pos (by omega), setF_true (fun u hu => by have := h2.rng u hu; omega), rset_after d (n + 1) q (by omega) (by omega) h2]; rfl
        · obtain ⟨h1, h2⟩ := h.later (h.cons_ne ht)
          rw [if_neg (by omega), setF_true (fun u hu => by have := h2.rng u (List.mem_cons_of_mem _ hu); omega), rset_after d (n + 1) (t :: q) (by omega) (by omega) h2]; rfl
    · rw [if_neg e]
      cases q with
      | nil =>
        obtain ⟨h1, h2⟩ := h.later (fun _ hu => by cases hu)
        rw [h1, ih (n + 1) [] (by omega) (by omega) h2]; rfl
      | cons t q =>
        by_cases ht : t.f0 = n
        · obtain ⟨h1, h2⟩ := h.here ht
          rw [h1, ih (n + 1) q (by omega) (by omega) h2]
          conv => rhs; unfold setF
          rw [if_neg (by omega), if_neg (by omega), show (false || decide (t.f0 ≥ sig)) = false by simp; omega]; rfl
        · obtain ⟨h1, h2⟩ := h.later (h.cons_ne ht)
          rw [h1, ih (n + 1) (t :: q) (by omega) (by omega) h2]; rfl
theorem rset_ev {l : List Tr} (h : OkL l) (sig : Int) (act : ByteArray) : Ev (fun k => jobshellref34_Set.f k l sig act) (setL l sig act) := by
  have h30 := h.len
  simp only [jobshellref34_Set.f]
  unfold setL
  have out : ∀ x : Bool, x = true → Ev (fun k => jobshellref34_Set.j0 k l sig act x) l := by
    rintro x rfl
    refine Ev.shift ?_
    simp only [jobshellref34_Set.j0]
    exact Ev.ite_pos (by simp) (Ev.pure' _)
  by_cases h0 : sig < 0
  · rw [if_pos (.inl h0)]; exact Ev.ite_pos h0 (out _ rfl)
  · refine Ev.ite_neg h0 ?_
    by_cases h1 : 20 < sig
    · rw [if_pos (.inr h1)]; exact out _ (by simpa using h1)
    · rw [if_neg (fun h => h.elim h0 h1)]
      refine Ev.shift ?_
      simp only [jobshellref34_Set.j0]
      have e := rset_set (lk := look l) (sig := sig) (act := act) (by omega) 21 0 l (by omega) (by omega) ⟨h.asc, h.rng, fun _ _ => rfl⟩
      rw [← e]
      exact Ev.ite_neg (by simpa using h1) (rset_loop (by omega) sig act 21 0 [] (by omega) (by omega) (by simp))
/-! ## a trap taken away -/
def resL (l : List Tr) (sig : Int) : List Tr := l.filter (fun t => t.f0 != sig)
theorem tres_loop (sig : Int) (q : List Tr) : ∀ (p acc : List Tr), (p ++ q).length ≤ 1000 → acc.length ≤ p.length → Ev (fun k => trap_Reset.l0 k sig acc (p ++ q) ((p ++ q).length : Int) (p.length : Int)) (acc ++ resL q sig) := by
  induction q with
  | nil =>
    intro p acc _ _
    refine Ev.shift ?_
    simp only [trap_Reset.l0, resL, List.filter_nil, List.append_nil]
    exact Ev.ite_neg (by omega) (Ev.pure' _)
  | cons t q ih =>
    intro p acc hlen hacc
    have hl := len_mid p q t
    have hl2 : p.length + 1 + q.length ≤ 1000 := by omega
    have ih' := fun acc h => ih (p ++ [t]) acc (by simpa using hlen) h
    simp only [List.append_assoc, len_snoc, List.cons_append, List.nil_append] at ih'
    refine Ev.shift ?_
    simp only [trap_Reset.l0, rd_mid, wr1 p.length (by omega)]
    refine Ev.ite_pos (by omega) (Ev.ite_pos (by omega) (Ev.ite_pos (by omega) ?_))
    unfold resL
    by_cases h : t.f0 = sig
    · rw [List.filter_cons_of_neg (by simp [h])]
      exact Ev.ite_pos h (ih' acc (by simp; omega))
    · rw [List.filter_cons_of_pos (by simp [h])]
      have := ih' (acc ++ [t]) (by simp; omega)
      rw [List.append_assoc] at this
      exact Ev.ite_neg h (Ev.ite_pos (by omega) this)
theorem tres_ev {l : List Tr} (h : l.length ≤ 1000) (sig : Int) : Ev (fun k => trap_Reset.f k l sig) (resL l sig) := tres_loop sig l [] [] (by simpa using h) (by simp)
theorem rd_eq_mid {P p q : List Tr} {t : Tr} (h : p ++ t :: q = P) : rd_T30 P (p.length : Int) = t := by rw [← h]; exact rd_mid p q t
theorem same_loop (q : List Tr) : ∀ (p : List Tr), (p ++ q).length ≤ 1000 → Ev (fun k => jobshellref34_Same.l0 k (p ++ q) (p ++ q) (p.length : Int)) true := by
  induction q with
  | nil =>
    intro p _
    refine Ev.shift ?_
    simp only [jobshellref34_Same.l0]
    exact Ev.ite_neg (by simp) (Ev.pure' _)
  | cons t q ih =>
    intro p hlen
    have hl := len_mid p q t
    have ih' := ih (p ++ [t]) (by simpa using hlen)
    simp only [List.append_assoc, len_snoc, List.cons_append, List.nil_append] at ih'
    refine Ev.shift ?_
    simp only [jobshellref34_Same.l0, rd_mid, wr1 p.length (by omega)]
    exact Ev.ite_pos (by omega) (Ev.ite_pos (by omega) (Ev.ite_pos (by omega) (Ev.ite_neg (by simp) ih')))
theorem sameL_ev {l : List Tr} (h : l.length ≤ 1000) : Ev (fun k => jobshellref34_Same.f k l l) true := by
  simp only [jobshellref34_Same.f]
  exact Ev.ite_pos (by simp) (same_loop l [] (by simpa using h))
theorem setF_len {sig : Int} {act : ByteArray} : ∀ (done : Bool) (q : List Tr), (setF sig act done q).length ≤ q.length + 1 ∧ (done = true → (setF sig act done q).length ≤ q.length)
  | done, [] => by cases done <;> simp [setF]
  | done, t :: q => by
    have h := setF_len (sig := sig) (act := act) (done || decide (t.f0 ≥ sig)) q
    unfold setF
    rw [List.length_append, List.length_append, List.length_cons]
    have h2 : (if t.f0 = sig then [] else [t]).length ≤ 1 := by split <;> simp
    by_cases c : t.f0 ≥ sig ∧ done = false
    · rw [if_pos c]
      have h3 := h.2 (by simp [c.1])
      refine ⟨by rw [List.length_singleton]; omega, fun e => by rw [e] at c; cases c.2⟩
    · rw [if_neg c]
      refine ⟨by rw [List.length_nil]; omega, fun e => ?_⟩
      have h3 := h.2 (by simp [e])
      rw [List.length_nil]; omega
theorem setL_len (l : List Tr) (sig : Int) (act : ByteArray) : (setL l sig act).length ≤ l.length + 1 := by
  unfold setL
  split
  · omega
  · exact (setF_len false l).1
end Go.Proofs.YtphgcpoefpogfaaDoor.PS

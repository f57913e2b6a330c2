import Derived.Test.YtphgcpoefpogfaaDoorPSx7
import Derived.Test.YtphgcpoefpogfaaDoorPurA
namespace Go.Proofs.YtphgcpoefpogfaaDoor.PS
open Go.RowKit Go.Proofs.YtphgcpoefpogfaaDoorW.PrintWords Go.Proofs.YtphgcpoefpogfaaDoorW.PrintLast Go.Proofs.YtphgcpoefpogfaaDoorW.PrintMore
set_option linter.unusedSimpArgs false
set_option linter.unusedVariables false

abbrev Tr := S30
theorem rd_mid (p q : List Tr) (t : Tr) : rd_T30 (p ++ t :: q) (p.length : Int) = t := by
  unfold rd_T30
  simp
theorem rdi_mid (p q : List Int) (t : Int) : rd (p ++ t :: q) (p.length : Int) = t := by
  unfold rd
  simp
theorem wr1 (n : Nat) (h : n ≤ 1000000) : wrap64 ((n : Int) + 1) = (n : Int) + 1 := wr (by omega) (by omega)
theorem wrm (n : Nat) (h : n ≤ 1000000) (h0 : 0 < n) : wrap64 ((n : Int) - 1) = (n : Int) - 1 := wr (by omega) (by omega)
theorem len_snoc {α : Type} (p : List α) (t : α) : ((p ++ [t]).length : Int) = (p.length : Int) + 1 := by simp
theorem len_mid {α : Type} (p q : List α) (t : α) : ((p ++ t :: q).length : Int) = (p.length : Int) + 1 + q.length := by simp; omega

/-! ## a list that is small and right -/
structure OkL (l : List Tr) : Prop where
  len : l.length ≤ 30
  siz : ∀ t ∈ l, t.f1.size ≤ 500
  rng : ∀ t ∈ l, 0 ≤ t.f0 ∧ t.f0 ≤ 20
  asc : l.Pairwise (fun a b => a.f0 < b.f0)
theorem small_loop (q : List Tr) : ∀ p : List Tr, ∃ b, Ev (fun k => jobshellref34_Small.l0 k (p ++ q) (p.length : Int)) b ∧ (b = true → (p ++ q).length ≤ 30 ∧ ∀ t ∈ q, t.f1.size ≤ 500) := by
  induction q with
  | nil =>
    intro p
    refine ⟨decide (((p ++ []).length : Int) ≤ 30), ?_, ?_⟩
    · refine Ev.shift ?_
      simp only [jobshellref34_Small.l0]
      refine Ev.ite_neg (by simp) (Ev.shift ?_)
      simp only [jobshellref34_Small.j1]
      exact Ev.ite_neg (by simp) (Ev.pure' _)
    · intro h
      have := of_decide_eq_true h
      exact ⟨by omega, fun _ h => by cases h⟩
  | cons t q ih =>
    intro p
    by_cases h30 : (p.length : Int) < 30
    · have hl := len_mid p q t
      have base : ∀ b, Ev (fun k => if ((t.f1).size : Int) > 500 then some false else jobshellref34_Small.l0 k (p ++ t :: q) ((p.length : Int) + 1)) b → Ev (fun k => jobshellref34_Small.l0 k (p ++ t :: q) (p.length : Int)) b := by
        intro b hb
        refine Ev.shift ?_
        simp only [jobshellref34_Small.l0]
        refine Ev.ite_pos (by omega) (Ev.shift ?_)
        simp only [jobshellref34_Small.j1, rd_mid, wr1 p.length (by omega)]
        exact Ev.ite_pos (by simpa using h30) (Ev.ite_pos (by omega) (Ev.ite_pos (by omega) hb))
      by_cases hs : ((t.f1).size : Int) > 500
      · exact ⟨false, base _ (Ev.ite_pos hs (Ev.pure' _)), by simp⟩
      · obtain ⟨b, hb, hc⟩ := ih (p ++ [t])
        rw [List.append_assoc, len_snoc] at hb
        rw [List.append_assoc] at hc
        refine ⟨b, base _ (Ev.ite_neg hs hb), fun h => ⟨(hc h).1, ?_⟩⟩
        intro u hu
        rcases List.mem_cons.1 hu with rfl | hu
        · omega
        · exact (hc h).2 u hu
    · refine ⟨decide (((p ++ t :: q).length : Int) ≤ 30), ?_, ?_⟩
      · refine Ev.shift ?_
        simp only [jobshellref34_Small.l0]
        have hl := len_mid p q t
        refine Ev.ite_pos (by omega) (Ev.shift ?_)
        simp only [jobshellref34_Small.j1]
        exact Ev.ite_neg (by simpa using h30) (Ev.pure' _)
      · intro h
        have := of_decide_eq_true h
        have hl := len_mid p q t
        omega
theorem right_loop (q : List Tr) : ∀ p : List Tr, (p ++ q).length ≤ 1000 → ∃ b, Ev (fun k => jobshellref34_Right.l0 k (p ++ q) (p.length : Int)) b ∧
    (b = true ↔ (∀ t ∈ q, 0 ≤ t.f0 ∧ t.f0 ≤ 20) ∧ q.Pairwise (fun a b => a.f0 < b.f0) ∧ (∀ a ∈ p.getLast?, ∀ t ∈ q, a.f0 < t.f0)) := by
  induction q with
  | nil =>
    intro p _
    refine ⟨true, ?_, ?_⟩
    · refine Ev.shift ?_
      simp only [jobshellref34_Right.l0]
      exact Ev.ite_neg (by simp) (Ev.pure' _)
    · simp
  | cons t q ih =>
    intro p hlen
    have hl := len_mid p q t
    have hl2 : p.length + 1 + q.length ≤ 1000 := by omega
    obtain ⟨b, hb, hc⟩ := ih (p ++ [t]) (by simpa using hlen)
    rw [List.append_assoc, len_snoc] at hb
    have base : ∀ b, Ev (fun k => if t.f0 < 0 then some false else if t.f0 > 20 then some false else (if (p.length : Int) > 0 then (if 0 ≤ (wrap64 ((p.length : Int) - 1)) then (if (wrap64 ((p.length : Int) - 1)) < ((p ++ t :: q).length : Int) then (if t.f0 ≤ ((rd_T30 (p ++ t :: q) (wrap64 ((p.length : Int) - 1))).f0) then some false else jobshellref34_Right.l0 k (p ++ t :: q) ((p.length : Int) + 1)) else none) else none) else jobshellref34_Right.l0 k (p ++ t :: q) ((p.length : Int) + 1))) b → Ev (fun k => jobshellref34_Right.l0 k (p ++ t :: q) (p.length : Int)) b := by
      intro b hb
      refine Ev.shift ?_
      simp only [jobshellref34_Right.l0, rd_mid, wr1 p.length (by omega)]
      exact Ev.ite_pos (by omega) (Ev.ite_pos (by omega) hb)
    by_cases h0 : t.f0 < 0
    · refine ⟨false, base _ (Ev.ite_pos h0 (Ev.pure' _)), by simp; intro h _; omega⟩
    by_cases h1 : t.f0 > 20
    · refine ⟨false, base _ (Ev.ite_neg h0 (Ev.ite_pos h1 (Ev.pure' _))), by simp; intro _ h; omega⟩
    rcases List.eq_nil_or_concat p with rfl | ⟨p', u, rfl⟩
    · refine ⟨b, base _ (Ev.ite_neg h0 (Ev.ite_neg h1 (Ev.ite_neg (by simp) hb))), ?_⟩
      rw [hc]
      simp only [List.nil_append, List.getLast?_singleton, Option.mem_def, Option.some.injEq, forall_eq', List.mem_cons, forall_eq_or_imp, List.pairwise_cons, List.getLast?_nil]
      constructor
      · rintro ⟨h2, h3, h4⟩; exact ⟨⟨by omega, h2⟩, ⟨h4, h3⟩, by simp⟩
      · rintro ⟨⟨_, h2⟩, ⟨h4, h3⟩, _⟩; exact ⟨h2, h3, h4⟩
    · rw [List.concat_eq_append] at *
      have hpl : (((p' ++ [u]).length : Nat) : Int) = p'.length + 1 := by simp
      have hrd : rd_T30 (p' ++ [u] ++ t :: q) (p'.length : Int) = u := by rw [List.append_assoc]; exact rd_mid p' _ u
      have hw : wrap64 (((p' ++ [u]).length : Int) - 1) = p'.length := by rw [hpl]; exact wr (by omega) (by omega) |>.trans (by omega)
      by_cases h2 : t.f0 ≤ u.f0
      · refine ⟨false, base _ (Ev.ite_neg h0 (Ev.ite_neg h1 (Ev.ite_pos (by omega) ?_))), ?_⟩
        · rw [hw, hrd]
          exact Ev.ite_pos (by omega) (Ev.ite_pos (by omega) (Ev.ite_pos h2 (Ev.pure' _)))
        · simp; intros; omega
      · refine ⟨b, base _ (Ev.ite_neg h0 (Ev.ite_neg h1 (Ev.ite_pos (by omega) ?_))), ?_⟩
        · rw [hw, hrd]
          exact Ev.ite_pos (by omega) (Ev.ite_pos (by omega) (Ev.ite_neg h2 hb))
        · rw [hc]
          simp only [List.getLast?_append, List.getLast?_singleton, Option.some_or, Option.mem_def, Option.some.injEq, forall_eq', List.mem_cons, forall_eq_or_imp, List.pairwise_cons]
          constructor
          · rintro ⟨h3, h4, h5⟩; exact ⟨⟨by omega, h3⟩, ⟨h5, h4⟩, by omega, fun a ha => by have := h5 a ha; omega⟩
          · rintro ⟨⟨_, h3⟩, ⟨h5, h4⟩, _⟩; exact ⟨h3, h4, h5⟩
theorem right_ev (l : List Tr) (h : l.length ≤ 1000) : ∃ b, Ev (fun k => jobshellref34_Right.f k l) b ∧ (b = true ↔ (∀ t ∈ l, 0 ≤ t.f0 ∧ t.f0 ≤ 20) ∧ l.Pairwise (fun a b => a.f0 < b.f0)) := by
  obtain ⟨b, hb, hc⟩ := right_loop l [] (by simpa using h)
  refine ⟨b, hb, ?_⟩
  rw [hc]
  simp
theorem ok_ev (l : List Tr) : ∃ b, Ev (fun k => jobshelllaw34_ok.f k l) b ∧ (b = true → OkL l) := by
  obtain ⟨b, hb, hc⟩ := small_loop l []
  simp only [jobshelllaw34_ok.f]
  cases b with
  | false => exact ⟨false, Ev.bind (f := fun k => jobshellref34_Small.f k l) hb (Ev.ite_neg (by simp) (Ev.pure' _)), by simp⟩
  | true =>
    have h30 := (hc rfl).1
    obtain ⟨b, hb2, hc2⟩ := right_ev l (by simpa using by have : ([] ++ l).length ≤ 30 := h30; simp at this; omega)
    exact ⟨b, Ev.bind (f := fun k => jobshellref34_Small.f k l) hb (Ev.ite_pos (by simp) (hb2.bind (Ev.pure' _))), fun h => ⟨by simpa using h30, (hc rfl).2, (hc2.1 h).1, (hc2.1 h).2⟩⟩

/-! ## the trap of a signal -/
def look (l : List Tr) (n : Int) : Option Tr := l.find? (fun t => t.f0 == n)
theorem look_f0 {l : List Tr} {n : Int} {t : Tr} (h : look l n = some t) : t.f0 = n := by
  have := List.find?_some h
  simpa using this
theorem look_mem {l : List Tr} {n : Int} {t : Tr} (h : look l n = some t) : t ∈ l := List.mem_of_find?_eq_some h
theorem look_cons (t : Tr) (l : List Tr) (n : Int) : look (t :: l) n = if t.f0 = n then some t else look l n := by
  unfold look
  rw [List.find?_cons]
  by_cases h : t.f0 = n
  · rw [if_pos h, show (t.f0 == n) = true from beq_iff_eq.2 h]
  · rw [if_neg h, show (t.f0 == n) = false from beq_eq_false_iff_ne.2 h]
theorem find_loop (n : Int) (q : List Tr) : ∀ p : List Tr, (p ++ q).length ≤ 1000 → (look q n = none → Ev (fun k => jobshellref34_find.l0 k (p ++ q) n (p.length : Int)) (-1)) ∧
    (∀ t, look q n = some t → ∃ r : Int, Ev (fun k => jobshellref34_find.l0 k (p ++ q) n (p.length : Int)) r ∧ 0 ≤ r ∧ r < ((p ++ q).length : Int) ∧ rd_T30 (p ++ q) r = t) := by
  induction q with
  | nil =>
    intro p _
    refine ⟨fun _ => ?_, fun t h => by cases h⟩
    refine Ev.shift ?_
    simp only [jobshellref34_find.l0]
    exact Ev.ite_neg (by simp) (Ev.pure' _)
  | cons t q ih =>
    intro p hlen
    have hl := len_mid p q t
    have hl2 : p.length + 1 + q.length ≤ 1000 := by omega
    obtain ⟨ih1, ih2⟩ := ih (p ++ [t]) (by simpa using hlen)
    rw [List.append_assoc, len_snoc] at ih1 ih2
    have base : ∀ b, Ev (fun k => if t.f0 = n then some (p.length : Int) else jobshellref34_find.l0 k (p ++ t :: q) n ((p.length : Int) + 1)) b → Ev (fun k => jobshellref34_find.l0 k (p ++ t :: q) n (p.length : Int)) b := by
      intro b hb
      refine Ev.shift ?_
      simp only [jobshellref34_find.l0, rd_mid, wr1 p.length (by omega)]
      exact Ev.ite_pos (by omega) (Ev.ite_pos (by omega) hb)
    rw [look_cons]
    by_cases ht : t.f0 = n
    · rw [if_pos ht]
      refine ⟨fun h => (by cases h), fun u hu => ?_⟩
      obtain rfl := Option.some.inj hu
      exact ⟨p.length, base _ (Ev.ite_pos ht (Ev.pure' _)), by omega, by omega, rd_mid _ _ _⟩
    · rw [if_neg ht]
      refine ⟨fun h => base _ (Ev.ite_neg ht (ih1 h)), fun u hu => ?_⟩
      obtain ⟨r, h1, h2⟩ := ih2 u hu
      exact ⟨r, base _ (Ev.ite_neg ht h1), h2⟩
theorem find_none {l : List Tr} {n : Int} (hl : l.length ≤ 1000) (h : look l n = none) : Ev (fun k => jobshellref34_find.f k l n) (-1) := (find_loop n l [] (by simpa using hl)).1 h
theorem find_some {l : List Tr} {n : Int} (hl : l.length ≤ 1000) {t : Tr} (h : look l n = some t) : ∃ r : Int, Ev (fun k => jobshellref34_find.f k l n) r ∧ 0 ≤ r ∧ r < (l.length : Int) ∧ rd_T30 l r = t := (find_loop n l [] (by simpa using hl)).2 t h
end Go.Proofs.YtphgcpoefpogfaaDoor.PS

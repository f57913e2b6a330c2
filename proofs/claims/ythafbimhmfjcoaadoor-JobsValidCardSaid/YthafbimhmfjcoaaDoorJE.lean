/- From some number of rounds on a function tells a value. -/
import Derived.Test.YthafbimhmfjcoaaDoorJA
import Derived.Test.YthafbimhmfjcoaaDoorPVx1
import Derived.Test.YthafbimhmfjcoaaDoorPVy1
import Derived.Test.YthafbimhmfjcoaaDoorPVx8
import Derived.Test.YthafbimhmfjcoaaDoorPVx9
import Derived.Test.YthafbimhmfjcoaaDoorPVx15
import Derived.Test.YthafbimhmfjcoaaDoorPVx2
import Derived.Test.YthafbimhmfjcoaaDoorPVx5
import Derived.Test.YthafbimhmfjcoaaDoorPVy2
import Derived.Test.YthafbimhmfjcoaaDoorPVx10
import Derived.Test.YthafbimhmfjcoaaDoorPVx13
namespace Go.Proofs.YthafbimhmfjcoaaDoor.PE
set_option linter.unusedVariables false
set_option linter.unusedSimpArgs false
open Go.RowKit Go.Proofs.YthafbimhmfjcoaaDoorW.PrintWords Go.Proofs.YthafbimhmfjcoaaDoorW.PrintLast Go.Proofs.YthafbimhmfjcoaaDoorW.PrintMore
def Evt {α : Type} (f : Nat → Option α) (v : α) : Prop := ∃ K, ∀ k, K ≤ k → f k = some v
namespace Evt
variable {α β : Type}
theorem pure' (v : α) : Evt (fun _ => some v) v := ⟨0, fun _ _ => rfl⟩
theorem of_eq {f : Nat → Option α} {v : α} (h : ∀ k, f k = some v) : Evt f v := ⟨0, fun k _ => h k⟩
theorem bind {f : Nat → Option α} {g : Nat → α → Option β} {v : α} {u : β} (hf : Evt f v) (hg : Evt (fun k => g k v) u) : Evt (fun k => (f k).bind (g k)) u := by
  obtain ⟨K, hK⟩ := hf
  obtain ⟨L, hL⟩ := hg
  exact ⟨max K L, fun k hk => by show (f k).bind (g k) = some u; rw [hK k (by omega), Option.bind_some]; exact hL k (by omega)⟩
theorem shift {f : Nat → Option α} {v : α} (h : Evt (fun k => f (k + 1)) v) : Evt f v := by
  obtain ⟨K, hK⟩ := h
  exact ⟨K + 1, fun k hk => by obtain ⟨j, rfl⟩ : ∃ j, k = j + 1 := ⟨k - 1, by omega⟩; exact hK j (by omega)⟩
theorem congr {f g : Nat → Option α} {v : α} (h : Evt f v) (e : ∀ k, g k = f k) : Evt g v := by
  obtain ⟨K, hK⟩ := h
  exact ⟨K, fun k hk => (e k).trans (hK k hk)⟩
theorem ite_pos {c : Prop} [Decidable c] {f g : Nat → Option α} {v : α} (hc : c) (h : Evt f v) : Evt (fun k => if c then f k else g k) v := h.congr fun _ => if_pos hc
theorem ite_neg {c : Prop} [Decidable c] {f g : Nat → Option α} {v : α} (hc : ¬ c) (h : Evt g v) : Evt (fun k => if c then f k else g k) v := h.congr fun _ => if_neg hc
theorem mono {f : Nat → Option α} {v : α} {K : Nat} (hm : ∀ k, LeO (f k) (f (k + 1))) (h : f K = some v) : Evt f v := ⟨K, fun k hk => at_rounds hm hk h⟩
theorem get {f : Nat → Option α} {v : α} (h : Evt f v) : ∃ k, f k = some v := by obtain ⟨K, hK⟩ := h; exact ⟨K, hK K (Nat.le_refl _)⟩
end Evt
theorem wr {x : Int} (h0 : -9223372036854775808 ≤ x) (h1 : x ≤ 9223372036854775807) : wrap64 x = x := by unfold wrap64; omega
theorem toL (s : ByteArray) : s.toList = s.data.toList := ByteArray.toList_eq s
theorem ba_ext {x y : ByteArray} (h : x.data.toList = y.data.toList) : x = y := by
  cases x; cases y
  exact congrArg _ (Array.toList_inj.1 h)
end Go.Proofs.YthafbimhmfjcoaaDoor.PE
/- The printed words of the small functions are the plain words. -/
namespace Go.Proofs.YthafbimhmfjcoaaDoor.PE
set_option linter.unusedVariables false
set_option linter.unusedSimpArgs false
open Go.RowKit Go.Proofs.YthafbimhmfjcoaaDoorW.PrintWords Go.Proofs.YthafbimhmfjcoaaDoorW.PrintLast Go.Proofs.YthafbimhmfjcoaaDoorW.PrintMore Go.Proofs.YthafbimhmfjcoaaDoor.JP Go.Proofs.YthafbimhmfjcoaaDoor.PV
theorem up1 (i : Nat) (h : i < 4611686018427387904) : wrap64 ((i : Int) + 1) = ((i + 1 : Nat) : Int) := by unfold wrap64; omega
theorem rdI (l : List Int) (i : Nat) (h : i < l.length) : rd l (i : Int) = l[i] := by simp [rd, h]
theorem rdT (l : List Jb) (i : Nat) (h : i < l.length) : rd_T35 l (i : Int) = l[i] := by simp [rd_T35, h]
theorem hasB_cons (x : Int) (r : List Int) (n : Int) : hasB (x :: r) n = (decide (x = n) || hasB r n) := rfl
theorem within_l0 (l : List Int) (n : Int) (hl : l.length ≤ 4611686018427387904) : ∀ (d i : Nat), i + d = l.length → Evt (fun k => jobs_within.l0 k n l (l.length : Int) (i : Int)) (hasB (l.drop i) n)
  | 0, i, hi => by
    refine Evt.shift ?_
    simp only [jobs_within.l0]
    rw [List.drop_eq_nil_of_le (by omega)]
    exact Evt.ite_neg (by omega) (Evt.pure' _)
  | d + 1, i, hi => by
    have hlt : i < l.length := by omega
    refine Evt.shift ?_
    simp only [jobs_within.l0, rdI l i hlt, up1 i (by omega)]
    rw [List.drop_eq_getElem_cons hlt, hasB_cons]
    refine Evt.ite_pos (by omega) (Evt.ite_pos (by omega) (Evt.ite_pos (by omega) ?_))
    by_cases h : l[i] = n
    · rw [decide_eq_true h]
      exact Evt.ite_pos h (Evt.pure' _)
    · rw [decide_eq_false h]
      exact Evt.ite_neg h (within_l0 l n hl d (i + 1) (by omega))
theorem within_ev (l : List Int) (n : Int) (hl : l.length ≤ 4611686018427387904) : Evt (fun k => jobs_within.f k l n) (hasB l n) := within_l0 l n hl l.length 0 (by omega)
def memIx (p : Int) : Int → List Jb → Int
  | _, [] => -1
  | i, j :: r => if hasB j.f3 p = true then i else memIx p (i + 1) r
theorem memIx_lo (p : Int) : ∀ (l : List Jb) (i : Int), 0 ≤ i → (0 ≤ memIx p i l ↔ memB l p = true) ∧ -1 ≤ memIx p i l ∧ memIx p i l < i + l.length
  | [], i, h => by simp [memIx, memB]; omega
  | j :: r, i, h => by
    obtain ⟨h1, h2, h3⟩ := memIx_lo p r (i + 1) (by omega)
    unfold memIx
    have e : memB (j :: r) p = (hasB j.f3 p || memB r p) := rfl
    rw [e]
    by_cases hb : hasB j.f3 p = true
    · rw [if_pos hb, hb]
      refine ⟨by simp [h], by omega, by simp only [List.length_cons]; omega⟩
    · rw [if_neg hb, Bool.eq_false_iff.2 hb]
      refine ⟨by simpa using h1, h2, by simp only [List.length_cons]; omega⟩
def SmL (l : List Jb) : Prop := l.length ≤ 100000 ∧ ∀ j ∈ l, j.f3.length ≤ 100000 ∧ j.f4.length ≤ 100000 ∧ j.f5.size ≤ 1000000
theorem member_l0 (l : List Jb) (p : Int) (hl : SmL l) : ∀ (d i : Nat), i + d = l.length → Evt (fun k => jobs_member.l0 k p l (l.length : Int) (i : Int)) (memIx p i (l.drop i))
  | 0, i, hi => by
    refine Evt.shift ?_
    simp only [jobs_member.l0]
    rw [List.drop_eq_nil_of_le (by omega)]
    exact Evt.ite_neg (by omega) (Evt.pure' _)
  | d + 1, i, hi => by
    have hlt : i < l.length := by omega
    have hl1 := hl.1
    refine Evt.shift ?_
    simp only [jobs_member.l0, rdT l i hlt, up1 i (by omega)]
    rw [List.drop_eq_getElem_cons hlt]
    unfold memIx
    refine Evt.ite_pos (by omega) (Evt.ite_pos (by omega) (Evt.ite_pos (by omega) (Evt.bind (within_ev _ _ (by have := (hl.2 _ (List.getElem_mem hlt)).1; omega)) ?_)))
    by_cases h : hasB l[i].f3 p = true
    · rw [if_pos h]
      exact Evt.ite_pos h (Evt.pure' _)
    · rw [if_neg h]
      have := member_l0 l p hl d (i + 1) (by omega)
      rw [show ((i + 1 : Nat) : Int) = (i : Int) + 1 by omega] at this ⊢
      exact Evt.ite_neg h this
theorem member_ev (l : List Jb) (p : Int) (hl : SmL l) : Evt (fun k => jobs_member.f k l p) (memIx p 0 l) := member_l0 l p hl l.length 0 (by omega)
theorem kindP_out {s : Int} (h : s < 0 ∨ 768 < s) : kindP s = (-1, 0) := by unfold kindP; rw [if_pos h]
theorem kindP_bad {s : Int} (h : ¬ (s < 0 ∨ 768 < s)) (h' : (s / 256 = 1 ∨ s / 256 = 2) ∧ (s % 256 < 1 ∨ 20 < s % 256)) : kindP s = (-1, 0) := by unfold kindP; rw [if_neg h, if_pos h']
theorem kindP_ok {s : Int} (h : ¬ (s < 0 ∨ 768 < s)) (h' : ¬ ((s / 256 = 1 ∨ s / 256 = 2) ∧ (s % 256 < 1 ∨ 20 < s % 256))) : kindP s = (s / 256, s % 256) := by unfold kindP; rw [if_neg h, if_neg h']
theorem kind_j0 (s : Int) (h : ¬ (s < 0 ∨ 768 < s)) : Evt (fun k => status_Kind.j0 k s false) (kindP s) := by
  refine Evt.shift ?_
  simp only [status_Kind.j0]
  have e1 : Int.tdiv s 256 = s / 256 := Int.tdiv_eq_ediv_of_nonneg (by omega)
  have e2 : Int.tmod s 256 = s % 256 := Int.tmod_eq_emod_of_nonneg (by omega)
  have e3 : wrap64 (s / 256) = s / 256 := wr (by omega) (by omega)
  rw [e1, e2, e3]
  refine Evt.ite_neg Bool.false_ne_true ?_
  by_cases hk1 : s / 256 = 1
  · refine Evt.ite_pos hk1 ?_
    by_cases ha : s % 256 < 1
    · rw [kindP_bad h ⟨.inl hk1, .inl ha⟩]; exact Evt.ite_pos ha (Evt.pure' _)
    refine Evt.ite_neg ha ?_
    by_cases hb : s % 256 > 20
    · rw [kindP_bad h ⟨.inl hk1, .inr hb⟩]; exact Evt.ite_pos hb (Evt.pure' _)
    · rw [kindP_ok h (fun h => h.2.elim ha hb)]; exact Evt.ite_neg hb (Evt.pure' _)
  refine Evt.ite_neg hk1 ?_
  by_cases hk2 : s / 256 = 2
  · refine Evt.ite_pos hk2 ?_
    by_cases ha : s % 256 < 1
    · rw [kindP_bad h ⟨.inr hk2, .inl ha⟩]; exact Evt.ite_pos ha (Evt.pure' _)
    refine Evt.ite_neg ha ?_
    by_cases hb : s % 256 > 20
    · rw [kindP_bad h ⟨.inr hk2, .inr hb⟩]; exact Evt.ite_pos hb (Evt.pure' _)
    · rw [kindP_ok h (fun h => h.2.elim ha hb)]; exact Evt.ite_neg hb (Evt.pure' _)
  refine Evt.ite_neg hk2 ?_
  rw [kindP_ok h (fun h => h.1.elim hk1 hk2)]
  exact Evt.pure' _
theorem kind_j0t (s : Int) : Evt (fun k => status_Kind.j0 k s true) (-1, 0) := by
  refine Evt.shift ?_
  simp only [status_Kind.j0]
  exact Evt.ite_pos trivial (Evt.pure' _)
theorem kind_ev (s : Int) : Evt (fun k => status_Kind.f k s) (kindP s) := by
  unfold status_Kind.f
  by_cases h0 : s < 0
  · rw [kindP_out (.inl h0)]
    exact Evt.ite_pos h0 (kind_j0t s)
  refine Evt.ite_neg h0 ?_
  by_cases h1 : s > 768
  · rw [kindP_out (.inr h1), decide_eq_true h1]
    exact kind_j0t s
  · rw [decide_eq_false h1]
    exact kind_j0 s (by omega)
theorem kind_end (s : Int) : endB s = (((kindP s).1 == 0) || ((kindP s).1 == 1)) := by
  unfold endB kindP
  rw [Bool.eq_iff_iff]
  simp only [Bool.and_eq_true, Bool.or_eq_true, decide_eq_true_eq, beq_iff_eq]
  split
  · constructor
    · omega
    · intro h; rcases h with h | h <;> simp at h
  split
  · constructor
    · omega
    · intro h; rcases h with h | h <;> simp at h
  · dsimp only
    omega
theorem kind_held (s : Int) : heldB s = ((kindP s).1 == 2) := by
  unfold heldB kindP
  rw [Bool.eq_iff_iff]
  simp only [Bool.and_eq_true, Bool.or_eq_true, decide_eq_true_eq, beq_iff_eq]
  split
  · constructor
    · omega
    · intro h; simp at h
  split
  · constructor
    · omega
    · intro h; simp at h
  · dsimp only
    omega
theorem kind_wait (s : Int) : waitB s = decide (0 ≤ (kindP s).1) := by
  unfold waitB
  rw [kind_end, kind_held, Bool.eq_iff_iff]
  unfold kindP
  simp only [Bool.and_eq_true, Bool.or_eq_true, decide_eq_true_eq, beq_iff_eq]
  split
  · constructor
    · intro h; dsimp only at h; omega
    · intro h; simp at h
  split
  · constructor
    · intro h; dsimp only at h; omega
    · intro h; simp at h
  · dsimp only
    omega
theorem kind_lo (s : Int) : -1 ≤ (kindP s).1 ∧ (kindP s).1 ≤ 3 := by
  unfold kindP
  split
  · exact ⟨by simp, by simp⟩
  split
  · exact ⟨by simp, by simp⟩
  · dsimp only
    omega
theorem end_neg {s : Int} (h : s < 0) : endB s = false := by
  unfold endB
  rw [decide_eq_false (by omega)]
  rfl
theorem held_neg {s : Int} (h : s < 0) : heldB s = false := by
  unfold heldB
  rw [decide_eq_false (by omega)]
  rfl
theorem ended_ev (s : Int) : Evt (fun k => jobs_ended.f k s) (endB s) := by
  unfold jobs_ended.f
  by_cases h0 : s < 0
  · rw [end_neg h0]
    exact Evt.ite_pos h0 (Evt.pure' _)
  refine Evt.ite_neg h0 (Evt.bind (kind_ev s) ?_)
  rw [kind_end]
  by_cases hk : (kindP s).1 = 0
  · rw [show ((kindP s).1 == 0) = true by simpa using hk]
    exact Evt.ite_pos hk (Evt.pure' _)
  · rw [show ((kindP s).1 == 0) = false by simpa using hk]
    exact Evt.ite_neg hk (Evt.pure' _)
theorem held_ev (s : Int) : Evt (fun k => jobs_held.f k s) (heldB s) := by
  unfold jobs_held.f
  by_cases h0 : s < 0
  · rw [held_neg h0]
    exact Evt.ite_pos h0 (Evt.pure' _)
  refine Evt.ite_neg h0 (Evt.bind (kind_ev s) ?_)
  rw [kind_held]
  exact Evt.pure' _
theorem valid_ev (s : Int) : Evt (fun k => jobs_valid.f k s) (waitB s) := by
  unfold jobs_valid.f
  by_cases h0 : s < 0
  · rw [kind_wait, show (kindP s).1 = -1 by unfold kindP; rw [if_pos (.inl h0)]]
    exact Evt.ite_pos h0 (Evt.pure' _)
  refine Evt.ite_neg h0 (Evt.bind (kind_ev s) ?_)
  rw [kind_wait]
  have := kind_lo s
  by_cases hk : (kindP s).1 ≥ 0
  · rw [decide_eq_true (show 0 ≤ (kindP s).1 from hk)]
    refine Evt.ite_pos hk ?_
    rw [decide_eq_true (show (kindP s).1 ≤ 3 from this.2)]
    exact Evt.pure' _
  · rw [decide_eq_false (show ¬ 0 ≤ (kindP s).1 from hk)]
    exact Evt.ite_neg hk (Evt.pure' _)
theorem known_ev (s : Int) : Evt (fun k => jobs_known.f k s) (knownB s) := by
  unfold jobs_known.f knownB
  by_cases h0 : s = -1
  · rw [decide_eq_true h0]
    exact Evt.ite_pos h0 (Evt.pure' _)
  rw [decide_eq_false h0]
  refine Evt.ite_neg h0 (Evt.bind (valid_ev s) ?_)
  by_cases hv : waitB s = true
  · refine Evt.ite_pos hv (Evt.bind (ended_ev s) ?_)
    by_cases he : endB s = true
    · rw [he]
      exact Evt.ite_pos rfl (Evt.pure' _)
    · rw [Bool.eq_false_iff.2 he]
      exact Evt.ite_neg Bool.false_ne_true (Evt.bind (held_ev s) (Evt.pure' _))
  · refine Evt.ite_neg hv ?_
    have : endB s = false ∧ heldB s = false := by
      unfold waitB at hv
      simp only [Bool.or_eq_true, not_or, Bool.not_eq_true] at hv
      exact hv.1
    rw [this.1, this.2]
    exact Evt.pure' _
def stS : Bool → Bool → List Int → Int
  | a, b, [] => if a = true then 3 else if b = true then 2 else 1
  | a, b, s :: r => if (endB s || heldB s) = true then stS (a && endB s) (b || heldB s) r else 1
theorem stS_eq : ∀ (l : List Int) (a b : Bool), stS a b l = if l.all (fun s => endB s || heldB s) = true then (if (a && l.all endB) = true then 3 else if (b || l.any heldB) = true then 2 else 1) else 1
  | [], a, b => by simp [stS]
  | s :: r, a, b => by
    unfold stS
    rw [stS_eq r]
    simp only [List.all_cons, List.any_cons]
    by_cases h1 : endB s = true <;> by_cases h2 : heldB s = true <;> simp [h1, h2]
theorem stateP_eq (l : List Int) : stateP l = stS true false l := by
  rw [stS_eq]
  unfold stateP
  simp only [Bool.true_and, Bool.false_or]
theorem state_l0 (l : List Int) (hl : l.length ≤ 100000) : ∀ (d i : Nat), i + d = l.length → ∀ (a b : Bool), Evt (fun k => jobs_state.l0 k a b l (l.length : Int) (i : Int)) (stS a b (l.drop i))
  | 0, i, hi, a, b => by
    refine Evt.shift ?_
    simp only [jobs_state.l0]
    rw [List.drop_eq_nil_of_le (by omega)]
    refine Evt.ite_neg (by omega) ?_
    unfold stS
    cases a with
    | true => exact Evt.pure' _
    | false =>
      cases b with
      | true => exact Evt.pure' _
      | false => exact Evt.pure' _
  | d + 1, i, hi, a, b => by
    have hlt : i < l.length := by omega
    have hu := up1 i (by omega)
    have next := fun a' b' => state_l0 l hl d (i + 1) (by omega) a' b'
    have step : Evt (fun k => jobs_state.j1 k a b l[i] l (l.length : Int) (i : Int) false) (stS (a && endB l[i]) (b || heldB l[i]) (l.drop (i + 1))) := by
      refine Evt.shift ?_
      simp only [jobs_state.j1, hu]
      refine Evt.ite_neg Bool.false_ne_true ?_
      cases a with
      | true =>
        refine Evt.ite_pos rfl (Evt.bind (ended_ev _) ?_)
        rw [Bool.true_and]
        cases b with
        | true => exact Evt.ite_pos rfl (next _ true)
        | false => exact Evt.ite_neg Bool.false_ne_true (Evt.bind (held_ev _) (by rw [Bool.false_or]; exact next _ _))
      | false =>
        refine Evt.ite_neg Bool.false_ne_true ?_
        rw [Bool.false_and]
        cases b with
        | true => exact Evt.ite_pos rfl (next false true)
        | false => exact Evt.ite_neg Bool.false_ne_true (Evt.bind (held_ev _) (by rw [Bool.false_or]; exact next false _))
    refine Evt.shift ?_
    simp only [jobs_state.l0, rdI l i hlt]
    rw [List.drop_eq_getElem_cons hlt]
    refine Evt.ite_pos (by omega) (Evt.ite_pos (by omega) (Evt.ite_pos (by omega) (Evt.bind (ended_ev _) ?_)))
    unfold stS
    by_cases he : endB l[i] = true
    · rw [if_pos (show (endB l[i] || heldB l[i]) = true by rw [he]; rfl)]
      exact Evt.ite_pos he step
    · refine Evt.ite_neg he (Evt.bind (held_ev _) ?_)
      by_cases hh : heldB l[i] = true
      · rw [if_pos (show (endB l[i] || heldB l[i]) = true by rw [hh, Bool.or_true]), show (!heldB l[i]) = false by rw [hh]; rfl]
        exact step
      · rw [if_neg (show ¬ (endB l[i] || heldB l[i]) = true by rw [Bool.eq_false_iff.2 he, Bool.eq_false_iff.2 hh]; exact Bool.false_ne_true), Bool.eq_false_iff.2 hh]
        refine Evt.shift ?_
        simp only [jobs_state.j1]
        exact Evt.ite_pos rfl (Evt.pure' _)
theorem state_ev (l : List Int) (hl : l.length ≤ 100000) : Evt (fun k => jobs_state.f k l) (stateP l) := by
  rw [stateP_eq]
  exact state_l0 l hl l.length 0 (by omega) true false
end Go.Proofs.YthafbimhmfjcoaaDoor.PE
/- The printed words behind jobs.Line, Status, Find and own are the plain words. -/
namespace Go.Proofs.YthafbimhmfjcoaaDoor.PE
set_option linter.unusedVariables false
set_option linter.unusedSimpArgs false
open Go.RowKit Go.Proofs.YthafbimhmfjcoaaDoorW.PrintWords Go.Proofs.YthafbimhmfjcoaaDoorW.PrintLast Go.Proofs.YthafbimhmfjcoaaDoorW.PrintMore Go.Proofs.YthafbimhmfjcoaaDoor.JP Go.Proofs.YthafbimhmfjcoaaDoor.PV
def curS (skip : Int) : Int → Int → Int → List Jb → Int
  | _, a, h, [] => if h ≥ 0 then h else a
  | i, a, h, j :: r => if i = skip then curS skip (i + 1) a h r else if j.f2 = 2 then curS skip (i + 1) i i r else curS skip (i + 1) i h r
theorem curS_eq (skip : Int) : ∀ (l : List Jb) (i a h : Int), curS skip i a h l = if 0 ≤ lastOf (fun i j => decide (i ≠ skip) && decide (j.f2 = 2)) i h l then lastOf (fun i j => decide (i ≠ skip) && decide (j.f2 = 2)) i h l else lastOf (fun i _ => decide (i ≠ skip)) i a l
  | [], i, a, h => rfl
  | j :: r, i, a, h => by
    unfold curS lastOf
    by_cases c1 : i = skip
    · rw [if_pos c1, curS_eq skip r]
      simp [c1]
    · rw [if_neg c1]
      by_cases c2 : j.f2 = 2
      · rw [if_pos c2, curS_eq skip r]
        simp [c1, c2]
      · rw [if_neg c2, curS_eq skip r]
        simp [c1, c2]
theorem curP_eq (l : List Jb) (skip : Int) : curP l skip = curS skip 0 (-1) (-1) l := by
  rw [curS_eq]
  rfl
theorem current_l0 (l : List Jb) (skip : Int) (hl : l.length ≤ 100000) : ∀ (d i : Nat), i + d = l.length → ∀ a h : Int, Evt (fun k => jobs_current.l0 k skip a h l (l.length : Int) (i : Int)) (curS skip i a h (l.drop i))
  | 0, i, hi, a, h => by
    refine Evt.shift ?_
    simp only [jobs_current.l0]
    rw [List.drop_eq_nil_of_le (by omega)]
    refine Evt.ite_neg (by omega) ?_
    unfold curS
    by_cases hh : h ≥ 0
    · refine Evt.ite_pos hh ?_; rw [if_pos hh]; exact Evt.pure' _
    · refine Evt.ite_neg hh ?_; rw [if_neg hh]; exact Evt.pure' _
  | d + 1, i, hi, a, h => by
    have hlt : i < l.length := by omega
    have next := fun a' h' => current_l0 l skip hl d (i + 1) (by omega) a' h'
    refine Evt.shift ?_
    simp only [jobs_current.l0, rdT l i hlt, up1 i (by omega)]
    rw [List.drop_eq_getElem_cons hlt]
    unfold curS
    rw [show (i : Int) + 1 = ((i + 1 : Nat) : Int) by omega]
    refine Evt.ite_pos (by omega) (Evt.ite_pos (by omega) (Evt.ite_pos (by omega) ?_))
    by_cases c1 : (i : Int) = skip
    · refine Evt.ite_pos c1 ?_; rw [if_pos c1]; exact next _ _
    refine Evt.ite_neg c1 ?_
    rw [if_neg c1]
    by_cases c2 : l[i].f2 = 2
    · refine Evt.ite_pos c2 ?_; rw [if_pos c2]; exact next _ _
    · refine Evt.ite_neg c2 ?_; rw [if_neg c2]; exact next _ _
theorem current_ev (l : List Jb) (skip : Int) (hl : l.length ≤ 100000) : Evt (fun k => jobs_current.f k l skip) (curP l skip) := by
  rw [curP_eq]
  exact current_l0 l skip hl l.length 0 (by omega) (-1) (-1)
theorem Current_ev (l : List Jb) (hl : l.length ≤ 100000) : Evt (fun k => jobs_Current.f k l) (cursP l) := by
  unfold jobs_Current.f cursP
  refine Evt.bind (current_ev l (-1) hl) ?_
  by_cases h : curP l (-1) < 0
  · refine Evt.ite_pos h ?_; rw [if_pos h]; exact Evt.pure' _
  · refine Evt.ite_neg h ?_; rw [if_neg h]; exact Evt.bind (current_ev l _ hl) (Evt.pure' _)
theorem bt_nat (s : ByteArray) (i : Nat) (h : i < s.size) : bt s (i : Int) = (s.data.toList[i]'h : UInt8).toNat := by
  unfold bt
  rw [dif_pos (by simpa using h)]
  rfl
theorem digits_l0 (s : ByteArray) (hs : s.size ≤ 4611686018427387904) : ∀ (d i : Nat), i + d = s.size → Evt (fun k => jobs_digits.l0 k s (s.size : Int) (i : Int)) ((s.data.toList.drop i).all isDigB && (!s.data.toList.isEmpty && decide (s.data.toList.head? ≠ some 48)))
  | 0, i, hi => by
    have hl : s.data.toList.length = s.size := rfl
    refine Evt.shift ?_
    simp only [jobs_digits.l0]
    rw [List.drop_eq_nil_of_le (by omega), List.all_nil, Bool.true_and]
    refine Evt.ite_neg (by omega) ?_
    simp only [toL]
    cases hq : s.data.toList with
    | nil => exact Evt.ite_pos rfl (Evt.pure' _)
    | cons x r =>
      have hp : 0 < s.size := by rw [← hl, hq]; simp
      refine Evt.ite_neg (by simp) (Evt.ite_pos (by omega) ?_)
      have h0 := bt_nat s 0 hp
      have hx : (s.data.toList[0]'hp) = x := by simp [hq]
      rw [hx] at h0
      rw [show bt s 0 = (x.toNat : Int) from h0]
      have e : ((x.toNat : Int) != 48) = (!(x :: r).isEmpty && decide ((x :: r).head? ≠ some 48)) := by
        rw [Bool.eq_iff_iff]
        simp only [bne_iff_ne, ne_eq, List.isEmpty_cons, Bool.not_false, Bool.true_and, List.head?_cons, Option.some.injEq, decide_eq_true_eq]
        constructor
        · intro h e
          exact h (by rw [e]; rfl)
        · intro h e
          exact h (UInt8.toNat_inj.1 (by have : x.toNat = 48 := by omega
                                         exact this))
      rw [e]
      exact Evt.pure' _
  | d + 1, i, hi => by
    have hl : s.data.toList.length = s.size := rfl
    have hlt : i < s.size := by omega
    refine Evt.shift ?_
    simp only [jobs_digits.l0, bt_nat s i hlt, up1 i (by omega)]
    rw [List.drop_eq_getElem_cons (show i < s.data.toList.length from hlt), List.all_cons]
    have hd : isDigB (s.data.toList[i]'hlt) = true ↔ 48 ≤ (s.data.toList[i]'hlt).toNat ∧ (s.data.toList[i]'hlt).toNat ≤ 57 := isDigB_iff
    refine Evt.ite_pos (by omega) (Evt.ite_pos (by omega) (Evt.ite_pos (by omega) ?_))
    by_cases h1 : ((s.data.toList[i]'hlt).toNat : Int) < 48
    · rw [show isDigB (s.data.toList[i]'hlt) = false from Bool.eq_false_iff.2 (fun e => by have := hd.1 e; omega)]
      exact Evt.ite_pos h1 (Evt.pure' _)
    refine Evt.ite_neg h1 ?_
    by_cases h2 : ((s.data.toList[i]'hlt).toNat : Int) > 57
    · rw [show isDigB (s.data.toList[i]'hlt) = false from Bool.eq_false_iff.2 (fun e => by have := hd.1 e; omega)]
      exact Evt.ite_pos h2 (Evt.pure' _)
    · rw [hd.2 (by omega), Bool.true_and]
      exact Evt.ite_neg h2 (digits_l0 s hs d (i + 1) (by omega))
theorem digits_ev (s : ByteArray) (hs : s.size ≤ 4611686018427387904) : Evt (fun k => jobs_digits.f k s) (digsB s.data.toList) := by
  have := digits_l0 s hs s.size 0 (by omega)
  rw [List.drop_zero, ← Bool.and_assoc] at this
  exact this
theorem own_l0 (l : List Jb) (hl : SmL l) : ∀ (d i : Nat), i + d = l.length → Evt (fun k => jobs_own.l0 k (l.take i) l (l.length : Int) (i : Int)) l
  | 0, i, hi => by
    refine Evt.shift ?_
    simp only [jobs_own.l0]
    rw [List.take_of_length_le (by omega)]
    exact Evt.ite_neg (by omega) (Evt.pure' _)
  | d + 1, i, hi => by
    have hlt : i < l.length := by omega
    have h1 := hl.1
    have h2 := hl.2 _ (List.getElem_mem hlt)
    refine Evt.shift ?_
    simp only [jobs_own.l0, rdT l i hlt, up1 i (by omega), Option.bind_some, List.nil_append, List.length_nil, Nat.zero_add]
    refine Evt.ite_pos (by omega) (Evt.ite_pos (by omega) (Evt.ite_pos (by omega) (Evt.ite_pos (by omega) (Evt.ite_pos (by omega) (Evt.ite_pos (by rw [List.length_take]; omega) ?_)))))
    have e : l.take i ++ [(⟨l[i].f0, l[i].f1, l[i].f2, l[i].f3, l[i].f4, l[i].f5, l[i].f6⟩ : Jb)] = l.take (i + 1) := (List.take_succ_eq_append_getElem hlt).symm
    rw [e]
    exact own_l0 l hl d (i + 1) (by omega)
theorem own_ev (l : List Jb) (hl : SmL l) : Evt (fun k => jobs_own.f k l) l := own_l0 l hl l.length 0 (by omega)
theorem itoa_f (n : Int) (h0 : -9223372036854775808 ≤ n) (h1 : n ≤ 9223372036854775807) : strconv_Itoa.f n = some ⟨(itoaP n).toArray⟩ := by
  unfold strconv_Itoa.f
  rw [if_pos ⟨h0, h1⟩, itoaP_eq n h0 h1]
theorem digs_len : ∀ (k u : Nat), (digs k u).length ≤ k
  | 0, u => by simp [digs]
  | k + 1, u => by
    have := digs_len k (u / 10)
    unfold digs
    split
    · simp
    · rw [List.length_append]; simp; omega
theorem itoaP_len (n : Int) : (itoaP n).length ≤ 21 := by
  unfold itoaP
  split
  · have := digs_len 20 n.natAbs; rw [List.length_cons]; omega
  · have := digs_len 20 n.toNat; omega
theorem word_f (n : Int) (h0 : 0 ≤ n) (h1 : n ≤ 1000) : status_word.f n = some ⟨(wordP n).toArray⟩ := by
  unfold status_word.f wordP
  by_cases c1 : n = 1
  · rw [if_pos c1, if_pos c1]
  rw [if_neg c1, if_neg c1]
  by_cases c2 : n = 2
  · rw [if_pos c2, if_pos c2]
  rw [if_neg c2, if_neg c2]
  by_cases c3 : n = 3
  · rw [if_pos c3, if_pos c3]
  rw [if_neg c3, if_neg c3]
  by_cases c4 : n = 4
  · rw [if_pos c4, if_pos c4]
  rw [if_neg c4, if_neg c4]
  by_cases c5 : n = 5
  · rw [if_pos c5, if_pos c5]
  rw [if_neg c5, if_neg c5]
  by_cases c9 : n = 9
  · rw [if_pos c9, if_pos c9]
  rw [if_neg c9, if_neg c9]
  by_cases c10 : n = 10
  · rw [if_pos c10, if_pos c10]
  rw [if_neg c10, if_neg c10]
  by_cases c12 : n = 12
  · rw [if_pos c12, if_pos c12]
  rw [if_neg c12, if_neg c12]
  by_cases c13 : n = 13
  · rw [if_pos c13, if_pos c13]
  rw [if_neg c13, if_neg c13]
  by_cases c14 : n = 14
  · rw [if_pos c14, if_pos c14]
  rw [if_neg c14, if_neg c14]
  by_cases c15 : n = 15
  · rw [if_pos c15, if_pos c15]
  rw [if_neg c15, if_neg c15]
  by_cases c17 : n = 17
  · rw [if_pos c17, if_pos c17]
  rw [if_neg c17, if_neg c17]
  by_cases c18 : n = 18
  · rw [if_pos c18, if_pos c18]
  rw [if_neg c18, if_neg c18]
  by_cases c19 : n = 19
  · rw [if_pos c19, if_pos c19]
  rw [if_neg c19, if_neg c19]
  by_cases c20 : n = 20
  · rw [if_pos c20, if_pos c20]
  rw [if_neg c20, if_neg c20]
  rw [itoa_f n (by omega) (by omega), Option.bind_some]
  have := itoaP_len n
  rw [if_pos (by show 7 + (itoaP n).toArray.size ≤ _; simp; omega)]
  exact congrArg some (ba_ext (by simp))
theorem desc_ev (s : Int) : Evt (fun k => status_Describe.f k s) ⟨(descP s).toArray⟩ := by
  unfold status_Describe.f descP
  refine Evt.bind (kind_ev s) ?_
  have hv : 0 ≤ (kindP s).2 ∧ (kindP s).2 ≤ 255 := by
    unfold kindP
    split
    · exact ⟨by simp, by simp⟩
    split
    · exact ⟨by simp, by simp⟩
    · dsimp only; omega
  generalize kindP s = p at hv
  obtain ⟨a, v⟩ := p
  dsimp only at hv ⊢
  by_cases c0 : a = 0
  · refine Evt.ite_pos c0 (Evt.shift ?_)
    simp only [status_Describe.j0]
    by_cases c1 : v = 0
    · refine Evt.ite_pos (by simpa using c1) ?_
      rw [if_pos c0, if_pos c1]
      exact Evt.pure' _
    · refine Evt.ite_neg (by simpa using c1) (Evt.ite_pos c0 ?_)
      rw [if_pos c0, if_neg c1]
      have := itoaP_len v
      rw [itoa_f v (by omega) (by omega)]
      simp only [Option.bind_some]
      refine Evt.ite_pos (by show 5 + (itoaP v).toArray.size ≤ _; simp; omega) ?_
      rw [show ((⟨#[69, 120, 105, 116, 32]⟩ : ByteArray) ++ ⟨(itoaP v).toArray⟩) = ⟨([69, 120, 105, 116, 32] ++ itoaP v).toArray⟩ from ba_ext (by simp)]
      exact Evt.pure' _
  · refine Evt.ite_neg c0 (Evt.shift ?_)
    simp only [status_Describe.j0]
    refine Evt.ite_neg Bool.false_ne_true (Evt.ite_neg c0 ?_)
    rw [if_neg c0]
    by_cases c1 : a = 1
    · refine Evt.ite_pos c1 ?_
      rw [if_pos c1, word_f v hv.1 (by omega)]
      exact Evt.pure' _
    refine Evt.ite_neg c1 ?_
    rw [if_neg c1]
    by_cases c2 : a = 2
    · refine Evt.ite_pos c2 ?_; rw [if_pos c2]; exact Evt.pure' _
    refine Evt.ite_neg c2 ?_
    rw [if_neg c2]
    by_cases c3 : a = 3
    · refine Evt.ite_pos c3 ?_; rw [if_pos c3]; exact Evt.pure' _
    · refine Evt.ite_neg c3 ?_; rw [if_neg c3]; exact Evt.pure' _
theorem shell_ev (s : Int) : Evt (fun k => status_Shell.f k s) (shellP s) := by
  unfold status_Shell.f shellP
  refine Evt.bind (kind_ev s) ?_
  have hv : 0 ≤ (kindP s).2 ∧ (kindP s).2 ≤ 255 := by
    unfold kindP
    split
    · exact ⟨by simp, by simp⟩
    split
    · exact ⟨by simp, by simp⟩
    · dsimp only; omega
  generalize kindP s = p at hv
  obtain ⟨a, v⟩ := p
  dsimp only at hv ⊢
  have hw : wrap64 (128 + v) = 128 + v := wr (by omega) (by omega)
  by_cases c0 : a = 0
  · refine Evt.ite_pos c0 ?_; rw [if_pos c0]; exact Evt.pure' _
  refine Evt.ite_neg c0 ?_
  rw [if_neg c0]
  by_cases c1 : a = 1
  · refine Evt.ite_pos c1 (Evt.shift ?_)
    simp only [status_Shell.j0, hw]
    refine Evt.ite_pos (by simpa using c1) ?_
    rw [if_pos (show a = 1 ∨ a = 2 from .inl c1)]
    exact Evt.pure' _
  refine Evt.ite_neg c1 (Evt.shift ?_)
  simp only [status_Shell.j0, hw]
  by_cases c2 : a = 2
  · refine Evt.ite_pos (by simpa using c2) ?_
    rw [if_pos (show a = 1 ∨ a = 2 from .inr c2)]
    exact Evt.pure' _
  refine Evt.ite_neg (by simpa using c2) ?_
  rw [if_neg (show ¬ (a = 1 ∨ a = 2) from fun h => h.elim c1 c2)]
  by_cases c3 : a = 3
  · refine Evt.ite_pos c3 ?_; rw [if_pos c3]; exact Evt.pure' _
  · refine Evt.ite_neg c3 ?_; rw [if_neg c3]; exact Evt.pure' _
theorem last_rd (l : List Int) (h : 0 < l.length) (hl : l.length ≤ 100000) : wrap64 ((l.length : Int) - 1) = ((l.length - 1 : Nat) : Int) ∧ rd l ((l.length - 1 : Nat) : Int) = l[l.length - 1] ∧ l.getLast? = some l[l.length - 1] := by
  refine ⟨by unfold wrap64; omega, rdI l _ (by omega), ?_⟩
  rw [List.getLast?_eq_getElem?, List.getElem?_eq_getElem (by omega)]
theorem status_ev (j : Jb) (hl : j.f4.length ≤ 100000) : Evt (fun k => jobs_Status.f k j.f0 j.f1 j.f2 j.f3 j.f4 j.f5 j.f6) (statP j) := by
  unfold jobs_Status.f statP
  by_cases h0 : j.f4.length = 0
  · rw [List.eq_nil_of_length_eq_zero h0]
    exact Evt.ite_pos rfl (Evt.pure' _)
  obtain ⟨e1, e2, e3⟩ := last_rd j.f4 (by omega) hl
  rw [e1, e2, e3]
  refine Evt.ite_neg (by omega) (Evt.ite_pos (by omega) (Evt.ite_pos (by omega) ?_))
  dsimp only
  by_cases c : j.f4[j.f4.length - 1] = -1
  · refine Evt.ite_pos c ?_; rw [if_pos c]; exact Evt.pure' _
  · refine Evt.ite_neg c ?_; rw [if_neg c]; exact Evt.bind (shell_ev _) (Evt.pure' _)
end Go.Proofs.YthafbimhmfjcoaaDoor.PE
/- jobs.Line, News and Add: the printed words are the plain words. -/
namespace Go.Proofs.YthafbimhmfjcoaaDoor.PE
set_option linter.unusedVariables false
set_option linter.unusedSimpArgs false
open Go.RowKit Go.Proofs.YthafbimhmfjcoaaDoorW.PrintWords Go.Proofs.YthafbimhmfjcoaaDoorW.PrintLast Go.Proofs.YthafbimhmfjcoaaDoorW.PrintMore Go.Proofs.YthafbimhmfjcoaaDoor.JP Go.Proofs.YthafbimhmfjcoaaDoor.PV
theorem join9 (n g u : List UInt8) (m : UInt8) (x : ByteArray) (h : n.length + g.length + u.length + x.size ≤ 1000000000) :
    jobs_join.f [(⟨#[91]⟩ : ByteArray), ⟨n.toArray⟩, (⟨#[93]⟩ : ByteArray), (⟨#[m]⟩ : ByteArray), (⟨#[32]⟩ : ByteArray), ⟨g.toArray⟩, ⟨u.toArray⟩, (⟨#[32, 32]⟩ : ByteArray), x] = some ⟨(91 :: n ++ 93 :: m :: 32 :: g ++ u ++ 32 :: 32 :: x.data.toList).toArray⟩ := by
  have hx : x.data.toList.length = x.size := rfl
  unfold jobs_join.f
  rw [if_pos ⟨⟨by simp, by simp⟩, by simp; omega⟩]
  refine congrArg some (ba_ext ?_)
  simp
theorem wordP_len (n : Int) : (wordP n).length ≤ 28 := by
  have := itoaP_len n
  unfold wordP
  by_cases c1 : n = 1
  · rw [if_pos c1]; decide
  rw [if_neg c1]
  by_cases c2 : n = 2
  · rw [if_pos c2]; decide
  rw [if_neg c2]
  by_cases c3 : n = 3
  · rw [if_pos c3]; decide
  rw [if_neg c3]
  by_cases c4 : n = 4
  · rw [if_pos c4]; decide
  rw [if_neg c4]
  by_cases c5 : n = 5
  · rw [if_pos c5]; decide
  rw [if_neg c5]
  by_cases c9 : n = 9
  · rw [if_pos c9]; decide
  rw [if_neg c9]
  by_cases c10 : n = 10
  · rw [if_pos c10]; decide
  rw [if_neg c10]
  by_cases c12 : n = 12
  · rw [if_pos c12]; decide
  rw [if_neg c12]
  by_cases c13 : n = 13
  · rw [if_pos c13]; decide
  rw [if_neg c13]
  by_cases c14 : n = 14
  · rw [if_pos c14]; decide
  rw [if_neg c14]
  by_cases c15 : n = 15
  · rw [if_pos c15]; decide
  rw [if_neg c15]
  by_cases c17 : n = 17
  · rw [if_pos c17]; decide
  rw [if_neg c17]
  by_cases c18 : n = 18
  · rw [if_pos c18]; decide
  rw [if_neg c18]
  by_cases c19 : n = 19
  · rw [if_pos c19]; decide
  rw [if_neg c19]
  by_cases c20 : n = 20
  · rw [if_pos c20]; decide
  rw [if_neg c20]
  simp
  omega
theorem descP_len (s : Int) : (descP s).length ≤ 28 := by
  have := itoaP_len (kindP s).2
  have := wordP_len (kindP s).2
  unfold descP
  by_cases c0 : (kindP s).1 = 0
  · rw [if_pos c0]
    by_cases c1 : (kindP s).2 = 0
    · rw [if_pos c1]; decide
    · rw [if_neg c1]; simp; omega
  rw [if_neg c0]
  by_cases c1 : (kindP s).1 = 1
  · rw [if_pos c1]; omega
  rw [if_neg c1]
  by_cases c2 : (kindP s).1 = 2
  · rw [if_pos c2]; decide
  rw [if_neg c2]
  by_cases c3 : (kindP s).1 = 3
  · rw [if_pos c3]; decide
  · rw [if_neg c3]; decide
structure RgJ (j : Jb) : Prop where
  n0 : -9223372036854775808 ≤ j.f0 ∧ j.f0 ≤ 9223372036854775807
  g0 : -9223372036854775808 ≤ j.f1 ∧ j.f1 ≤ 9223372036854775807
theorem line_j2 (j : Jb) (m : UInt8) (g : List UInt8) (hg : g.length ≤ 30) (hr : RgJ j) (hs : j.f4.length ≤ 100000 ∧ j.f5.size ≤ 1000000) :
    Evt (fun k => jobs_Line.j2 k ⟨#[m]⟩ ⟨g.toArray⟩ j.f0 j.f1 j.f2 j.f3 j.f4 j.f5 j.f6) ⟨(91 :: itoaP j.f0 ++ 93 :: m :: 32 :: g ++ wordJ j ++ 32 :: 32 :: j.f5.data.toList).toArray⟩ := by
  have hi := itoaP_len j.f0
  have word : ∀ u : List UInt8, u.length ≤ 28 → Evt (fun _ => (strconv_Itoa.f j.f0).bind fun t195 => ((jobs_join.f [(⟨#[91]⟩ : ByteArray), t195, (⟨#[93]⟩ : ByteArray), (⟨#[m]⟩ : ByteArray), (⟨#[32]⟩ : ByteArray), ⟨g.toArray⟩, ⟨u.toArray⟩, (⟨#[32, 32]⟩ : ByteArray), j.f5]).bind fun t199 => (some t199))) ⟨(91 :: itoaP j.f0 ++ 93 :: m :: 32 :: g ++ u ++ 32 :: 32 :: j.f5.data.toList).toArray⟩ := by
    intro u hu
    refine Evt.of_eq fun _ => ?_
    rw [itoa_f j.f0 hr.n0.1 hr.n0.2, Option.bind_some, join9 _ _ _ _ _ (by omega), Option.bind_some]
  refine Evt.shift ?_
  simp only [jobs_Line.j2]
  unfold wordJ
  by_cases c2 : j.f2 = 2
  · refine Evt.ite_pos c2 ?_
    rw [if_pos c2]
    exact word _ (by simp)
  refine Evt.ite_neg c2 ?_
  rw [if_neg c2]
  by_cases c3 : j.f2 = 3
  · refine Evt.ite_pos c3 ?_
    rw [if_pos c3]
    by_cases c4 : j.f4.length = 0
    · refine Evt.ite_neg (by omega) ?_
      rw [List.eq_nil_of_length_eq_zero c4]
      exact word [] (by simp)
    · obtain ⟨e1, e2, e3⟩ := last_rd j.f4 (by omega) hs.1
      rw [e1, e2, e3]
      refine Evt.ite_pos (by omega) (Evt.ite_pos (by omega) (Evt.ite_pos (by omega) (Evt.bind (desc_ev _) ?_)))
      exact word _ (descP_len _)
  · refine Evt.ite_neg c3 ?_
    rw [if_neg c3]
    exact word _ (by simp)
theorem line_j1 (j : Jb) (m : UInt8) (long : Bool) (hr : RgJ j) (hs : j.f4.length ≤ 100000 ∧ j.f5.size ≤ 1000000) :
    Evt (fun k => jobs_Line.j1 k long ⟨#[m]⟩ j.f0 j.f1 j.f2 j.f3 j.f4 j.f5 j.f6) ⟨(lineJ j m long).toArray⟩ := by
  refine Evt.shift ?_
  simp only [jobs_Line.j1]
  have hi := itoaP_len j.f1
  cases long with
  | true =>
    refine Evt.ite_pos rfl ?_
    rw [itoa_f j.f1 hr.g0.1 hr.g0.2]
    simp only [Option.bind_some]
    refine Evt.ite_pos (by show (itoaP j.f1).toArray.size + 1 ≤ _; simp; omega) ?_
    rw [show ((⟨(itoaP j.f1).toArray⟩ : ByteArray) ++ (⟨#[32]⟩ : ByteArray)) = ⟨(itoaP j.f1 ++ [32]).toArray⟩ from ba_ext (by simp)]
    have := line_j2 j m (itoaP j.f1 ++ [32]) (by simp; omega) hr hs
    exact this
  | false =>
    refine Evt.ite_neg Bool.false_ne_true ?_
    have := line_j2 j m [] (by simp) hr hs
    exact this
theorem line_ev (l : List Jb) (i : Int) (long : Bool) (hl : SmL l) (hr : ∀ j ∈ l, RgJ j) : Evt (fun k => jobs_Line.f k l i long) ⟨(lineP l i long).toArray⟩ := by
  have empty : Evt (fun k => jobs_Line.j0 k l i long true) ⟨#[]⟩ := by
    refine Evt.shift ?_
    simp only [jobs_Line.j0]
    exact Evt.ite_pos trivial (Evt.pure' _)
  unfold jobs_Line.f lineP
  by_cases h0 : i < 0
  · refine Evt.ite_pos h0 ?_
    rw [if_pos h0]
    exact empty
  refine Evt.ite_neg h0 ?_
  rw [if_neg h0]
  obtain ⟨n, rfl⟩ : ∃ n : Nat, i = n := ⟨i.toNat, by omega⟩
  rw [Int.toNat_natCast]
  by_cases h1 : l.length ≤ n
  · rw [decide_eq_true (by omega), List.getElem?_eq_none h1]
    exact empty
  · have hlt : n < l.length := by omega
    have hm := hl.2 _ (List.getElem_mem hlt)
    have hj := hr _ (List.getElem_mem hlt)
    rw [decide_eq_false (by omega), List.getElem?_eq_getElem hlt]
    refine Evt.shift ?_
    simp only [jobs_Line.j0, rdT l n hlt]
    refine Evt.ite_neg Bool.false_ne_true (Evt.ite_pos (by omega) (Evt.ite_pos (by omega) (Evt.bind (Current_ev l hl.1) ?_)))
    unfold markP
    by_cases c1 : (n : Int) = (cursP l).1
    · refine Evt.ite_pos c1 ?_
      rw [if_pos c1]
      exact line_j1 _ _ _ hj hm.2
    refine Evt.ite_neg c1 ?_
    rw [if_neg c1]
    by_cases c2 : (n : Int) = (cursP l).2
    · refine Evt.ite_pos c2 ?_
      rw [if_pos c2]
      exact line_j1 _ _ _ hj hm.2
    · refine Evt.ite_neg c2 ?_
      rw [if_neg c2]
      exact line_j1 _ _ _ hj hm.2
def addR (l : List Jb) (g : Int) (ps : List Int) (x : ByteArray) (n : Int) : List Jb × Int × Int := (l ++ [⟨n, g, 1, ps, ps.map (fun _ => -1), x, true⟩], n, 0)
theorem add_l3 (l : List Jb) (g : Int) (ps : List Int) (x : ByteArray) (n : Int) (hl : SmL l) (hp : ps.length ≤ 100000) : ∀ (d i : Nat), i + d = ps.length →
    Evt (fun k => jobs_Add.l3 k l n (ps.length : Int) (i : Int) n g 1 ps (List.replicate i (-1)) x true) (addR l g ps x n)
  | 0, i, hi => by
    refine Evt.shift ?_
    simp only [jobs_Add.l3]
    have h1 := hl.1
    refine Evt.ite_neg (by omega) (Evt.bind (own_ev l hl) ?_)
    simp only [Option.bind_some]
    refine Evt.ite_pos (by simp; omega) ?_
    rw [show i = ps.length by omega, show List.replicate ps.length (-1 : Int) = ps.map (fun _ => -1) by rw [List.map_const']]
    exact Evt.pure' _
  | d + 1, i, hi => by
    refine Evt.shift ?_
    simp only [jobs_Add.l3, up1 i (by omega), Option.bind_some]
    refine Evt.ite_pos (by omega) (Evt.ite_pos (by simp; omega) ?_)
    rw [← List.replicate_succ']
    exact add_l3 l g ps x n hl hp d (i + 1) (by omega)
theorem add_l2 (l : List Jb) (g : Int) (ps : List Int) (x : ByteArray) (hl : SmL l) (hp : ps.length ≤ 100000) : ∀ (d : Nat) (n : Int), 1 ≤ n → n + d ≤ 1000 → namedB l (freeP l d n) = false → ∀ (e i : Nat), i + e = l.length → (∀ q (hq : q < l.length), q < i → l[q].f0 ≠ n) →
    Evt (fun k => jobs_Add.l2 k l g ps x n (i : Int)) (addR l g ps x (freeP l d n))
  | d, n, hn, hd, hf, 0, i, hi, hno => by
    have h1 := hl.1
    have hnm : namedB l n = false := by
      unfold namedB
      rw [List.any_eq_false]
      intro j hj
      obtain ⟨q, hq, rfl⟩ := List.getElem_of_mem hj
      simpa using hno q hq (by omega)
    have hfn : freeP l d n = n := by
      cases d with
      | zero => rfl
      | succ d => unfold freeP; rw [if_neg (by rw [hnm]; exact Bool.false_ne_true)]
    refine Evt.shift ?_
    simp only [jobs_Add.l2, Option.bind_some, List.nil_append, List.length_nil, Nat.zero_add]
    refine Evt.ite_neg (by omega) (Evt.ite_pos (by omega) ?_)
    rw [hfn]
    have := add_l3 l g ps x n hl hp ps.length 0 (by omega)
    exact this
  | d, n, hn, hd, hf, e + 1, i, hi, hno => by
    have h1 := hl.1
    have hlt : i < l.length := by omega
    refine Evt.shift ?_
    simp only [jobs_Add.l2, rdT l i hlt, up1 i (by omega)]
    refine Evt.ite_pos (by omega) (Evt.ite_pos (by omega) ?_)
    by_cases c : l[i].f0 = n
    · have hnm : namedB l n = true := by
        unfold namedB
        rw [List.any_eq_true]
        exact ⟨l[i], List.getElem_mem hlt, by simpa using c⟩
      cases d with
      | zero =>
        exfalso
        have : freeP l 0 n = n := rfl
        rw [this, hnm] at hf
        cases hf
      | succ d =>
        refine Evt.ite_pos c ?_
        have e1 : freeP l (d + 1) n = freeP l d (n + 1) := by conv => lhs; unfold freeP; rw [if_pos hnm]
        rw [e1] at hf ⊢
        rw [show wrap64 (n + 1) = n + 1 from wr (by omega) (by push_cast at hd; omega), show ((-1 : Int) + 1) = ((0 : Nat) : Int) from rfl]
        exact add_l2 l g ps x hl hp d (n + 1) (by omega) (by push_cast at hd; omega) hf l.length 0 (by omega) (fun q hq h => by omega)
    · refine Evt.ite_neg c ?_
      refine add_l2 l g ps x hl hp d n hn hd hf e (i + 1) (by omega) (fun q hq h => ?_)
      by_cases hqi : q = i
      · subst hqi; exact c
      · exact hno q hq (by omega)
termination_by d n _ _ _ e => (d, e)
theorem add_l1 (l : List Jb) (g : Int) (ps : List Int) (x : ByteArray) (hl : SmL l) (hp : ps.length ≤ 100000) (hll : l.length < 40) : ∀ (d i : Nat), i + d = ps.length →
    Evt (fun k => jobs_Add.l1 k l g ps x ps (ps.length : Int) (i : Int)) (if freshB l (ps.take i) (ps.drop i) = false then (l, 0, 9) else if 4096 < x.size then (l, 0, 3) else addR l g ps x (freeP l 40 1))
  | 0, i, hi => by
    refine Evt.shift ?_
    simp only [jobs_Add.l1]
    rw [List.drop_eq_nil_of_le (by omega)]
    refine Evt.ite_neg (by omega) ?_
    rw [show freshB l (ps.take i) [] = true from rfl, if_neg (by decide)]
    by_cases c : (x.size : Int) > 4096
    · refine Evt.ite_pos c ?_
      rw [if_pos (show 4096 < x.size by omega)]
      exact Evt.pure' _
    · refine Evt.ite_neg c ?_
      rw [if_neg (show ¬ 4096 < x.size by omega)]
      have := add_l2 l g ps x hl hp 40 1 (by omega) (by omega) (free_new l hll) l.length 0 (by omega) (fun q hq h => by omega)
      exact this
  | d + 1, i, hi => by
    have hlt : i < ps.length := by omega
    refine Evt.shift ?_
    simp only [jobs_Add.l1, rdI ps i hlt, up1 i (by omega)]
    rw [List.drop_eq_getElem_cons hlt]
    refine Evt.ite_pos (by omega) (Evt.ite_pos (by omega) (Evt.ite_pos (by omega) (Evt.ite_pos (by omega) ?_)))
    rw [Int.toNat_natCast]
    refine Evt.bind (within_ev _ _ (by rw [List.length_take]; omega)) ?_
    have hfr : freshB l (ps.take i) (ps[i] :: ps.drop (i + 1)) = (!(hasB (ps.take i) ps[i] || memB l ps[i]) && freshB l (ps.take (i + 1)) (ps.drop (i + 1))) := by
      rw [List.take_succ_eq_append_getElem hlt]
      rfl
    rw [hfr]
    have hm := memIx_lo ps[i] l 0 (by omega)
    by_cases c1 : hasB (ps.take i) ps[i] = true
    · refine Evt.ite_pos c1 ?_
      rw [c1]
      exact Evt.pure' _
    · refine Evt.ite_neg c1 (Evt.bind (member_ev l _ hl) ?_)
      rw [Bool.eq_false_iff.2 c1]
      by_cases c2 : memIx ps[i] 0 l ≥ 0
      · refine Evt.ite_pos c2 ?_
        rw [hm.1.1 c2]
        exact Evt.pure' _
      · refine Evt.ite_neg c2 ?_
        rw [Bool.eq_false_iff.2 (fun e => c2 (hm.1.2 e))]
        simp only [Bool.or_self, Bool.not_false, Bool.true_and]
        exact add_l1 l g ps x hl hp hll d (i + 1) (by omega)
theorem add_l0 (l : List Jb) (g : Int) (ps : List Int) (x : ByteArray) (hl : SmL l) (hp : ps.length ≤ 100000) (hll : l.length < 40) : ∀ (d i : Nat), i + d = ps.length →
    Evt (fun k => jobs_Add.l0 k l g ps x ps (ps.length : Int) (i : Int)) (if (ps.drop i).all numB = false then (l, 0, 1) else if freshB l [] ps = false then (l, 0, 9) else if 4096 < x.size then (l, 0, 3) else addR l g ps x (freeP l 40 1))
  | 0, i, hi => by
    refine Evt.shift ?_
    simp only [jobs_Add.l0]
    rw [List.drop_eq_nil_of_le (by omega)]
    refine Evt.ite_neg (by omega) ?_
    rw [List.all_nil, if_neg (by decide)]
    exact add_l1 l g ps x hl hp hll ps.length 0 (by omega)
  | d + 1, i, hi => by
    have hlt : i < ps.length := by omega
    refine Evt.shift ?_
    simp only [jobs_Add.l0, rdI ps i hlt, up1 i (by omega)]
    rw [List.drop_eq_getElem_cons hlt, List.all_cons]
    refine Evt.ite_pos (by omega) (Evt.ite_pos (by omega) (Evt.ite_pos (by omega) ?_))
    have hb : numB ps[i] = true ↔ 1 ≤ ps[i] ∧ ps[i] ≤ 2147483647 := by unfold numB; simp
    by_cases c1 : ps[i] < 1
    · refine Evt.ite_pos c1 ?_
      rw [Bool.eq_false_iff.2 (show ¬ numB ps[i] = true from fun e => by have := hb.1 e; omega)]
      exact Evt.pure' _
    refine Evt.ite_neg c1 ?_
    by_cases c2 : ps[i] > 2147483647
    · refine Evt.ite_pos c2 ?_
      rw [Bool.eq_false_iff.2 (show ¬ numB ps[i] = true from fun e => by have := hb.1 e; omega)]
      exact Evt.pure' _
    · refine Evt.ite_neg c2 ?_
      rw [hb.2 (by omega), Bool.true_and]
      exact add_l0 l g ps x hl hp hll d (i + 1) (by omega)
theorem add_ev (l : List Jb) (g : Int) (ps : List Int) (x : ByteArray) (hl : SmL l) (hp : ps.length ≤ 100000) : Evt (fun k => jobs_Add.f k l g ps x) (addP l g ps x) := by
  have bad : Evt (fun k => jobs_Add.j0 k l g ps x true) (l, 0, 1) := by
    refine Evt.shift ?_
    simp only [jobs_Add.j0]
    exact Evt.ite_pos trivial (Evt.pure' _)
  unfold jobs_Add.f addP
  by_cases c0 : (l.length : Int) ≥ 32
  · refine Evt.ite_pos c0 ?_
    rw [if_pos (show 32 ≤ l.length by omega)]
    exact Evt.pure' _
  refine Evt.ite_neg c0 ?_
  rw [if_neg (show ¬ 32 ≤ l.length by omega)]
  by_cases c1 : g < 1
  · refine Evt.ite_pos c1 ?_
    rw [if_pos (show g < 1 ∨ 2147483647 < g ∨ ps.length = 0 from .inl c1)]
    exact bad
  refine Evt.ite_neg c1 ?_
  by_cases c2 : g > 2147483647
  · refine Evt.ite_pos c2 ?_
    rw [if_pos (show g < 1 ∨ 2147483647 < g ∨ ps.length = 0 from .inr (.inl c2))]
    exact bad
  refine Evt.ite_neg c2 ?_
  by_cases c3 : ps.length = 0
  · rw [if_pos (show g < 1 ∨ 2147483647 < g ∨ ps.length = 0 from .inr (.inr c3)), show ((ps.length : Int) == 0) = true by simpa using List.eq_nil_of_length_eq_zero c3]
    exact bad
  · rw [if_neg (show ¬ (g < 1 ∨ 2147483647 < g ∨ ps.length = 0) from fun h => h.elim c1 (fun h => h.elim c2 c3)), show ((ps.length : Int) == 0) = false by rw [beq_eq_false_iff_ne]; omega]
    refine Evt.shift ?_
    simp only [jobs_Add.j0]
    refine Evt.ite_neg Bool.false_ne_true ?_
    have := add_l0 l g ps x hl hp (by omega) ps.length 0 (by omega)
    exact this
end Go.Proofs.YthafbimhmfjcoaaDoor.PE
/- jobs.Valid: the printed word is the plain word. -/
namespace Go.Proofs.YthafbimhmfjcoaaDoor.PE
set_option linter.unusedVariables false
set_option linter.unusedSimpArgs false
open Go.RowKit Go.Proofs.YthafbimhmfjcoaaDoorW.PrintWords Go.Proofs.YthafbimhmfjcoaaDoorW.PrintLast Go.Proofs.YthafbimhmfjcoaaDoorW.PrintMore Go.Proofs.YthafbimhmfjcoaaDoor.JP Go.Proofs.YthafbimhmfjcoaaDoor.PV
def oneT3 (j : Jb) : Int := if j.f2 ≠ stateP j.f4 then 25 else 0
def oneT2 (l : List Jb) (j : Jb) (b r : List Int) : Int := if freshB l b r = false then 9 else oneT3 j
def oneT1 (l l2 : List Jb) (j : Jb) : Int := if namedB l2 j.f0 = true then 9 else oneT2 l j [] j.f3
def oneT0 (l : List Jb) (j : Jb) (a c : List Int) : Int := if (a.all numB && c.all knownB) = false then 1 else oneT1 l l j
theorem oneP_eq (l : List Jb) (j : Jb) : oneP l j = if j.f0 < 1 ∨ 32 < j.f0 ∨ j.f1 < 1 ∨ 2147483647 < j.f1 ∨ j.f3.length = 0 ∨ j.f4.length ≠ j.f3.length then 1 else if 4096 < j.f5.size then 3 else oneT0 l j j.f3 j.f4 := rfl
theorem numB_iff (n : Int) : numB n = true ↔ 1 ≤ n ∧ n ≤ 2147483647 := by unfold numB; simp
theorem fresh_step (l : List Jb) (ps : List Int) (i : Nat) (h : i < ps.length) : freshB l (ps.take i) (ps[i] :: ps.drop (i + 1)) = (!(hasB (ps.take i) ps[i] || memB l ps[i]) && freshB l (ps.take (i + 1)) (ps.drop (i + 1))) := by
  rw [List.take_succ_eq_append_getElem h]
  rfl
theorem SmL.take {l : List Jb} (h : SmL l) (n : Nat) : SmL (l.take n) := ⟨by rw [List.length_take]; have := h.1; omega, fun j hj => h.2 j (List.mem_of_mem_take hj)⟩
theorem form_l2 (l : List Jb) (n : Nat) (hn : n ≤ l.length) (j : Jb) (hl : SmL l) (hj : j.f3.length ≤ 100000 ∧ j.f4.length ≤ 100000) : ∀ (d i : Nat), i + d = j.f3.length →
    Evt (fun k => jobs_form.l2 k l n j.f3 (j.f3.length : Int) (i : Int) j.f0 j.f1 j.f2 j.f3 j.f4 j.f5 j.f6) (oneT2 (l.take n) j (j.f3.take i) (j.f3.drop i))
  | 0, i, hi => by
    refine Evt.shift ?_
    simp only [jobs_form.l2]
    rw [List.drop_eq_nil_of_le (by omega)]
    refine Evt.ite_neg (by omega) (Evt.bind (state_ev j.f4 hj.2) ?_)
    unfold oneT2 oneT3
    rw [show freshB (l.take n) (j.f3.take i) [] = true from rfl, if_neg (show ¬ (true = false) by decide)]
    by_cases c : j.f2 = stateP j.f4
    · refine Evt.ite_pos c ?_
      rw [if_neg (show ¬ (j.f2 ≠ stateP j.f4) from fun h => h c)]
      exact Evt.pure' _
    · refine Evt.ite_neg c ?_
      rw [if_pos (show j.f2 ≠ stateP j.f4 from c)]
      exact Evt.pure' _
  | d + 1, i, hi => by
    have hlt : i < j.f3.length := by omega
    have h1 := hl.1
    refine Evt.shift ?_
    simp only [jobs_form.l2, rdI j.f3 i hlt, up1 i (by omega), Int.toNat_natCast]
    rw [List.drop_eq_getElem_cons hlt]
    unfold oneT2
    rw [fresh_step _ _ _ hlt]
    refine Evt.ite_pos (by omega) (Evt.ite_pos (by omega) (Evt.ite_pos (by omega) (Evt.ite_pos (by omega) (Evt.bind (within_ev _ _ (by rw [List.length_take]; omega)) ?_))))
    have hm := memIx_lo j.f3[i] (l.take n) 0 (by omega)
    by_cases c1 : hasB (j.f3.take i) j.f3[i] = true
    · refine Evt.ite_pos c1 ?_
      rw [c1]
      exact Evt.pure' _
    · refine Evt.ite_neg c1 (Evt.ite_pos (by omega) (Evt.ite_pos (by omega) (Evt.bind (member_ev _ _ (hl.take n)) ?_)))
      rw [Bool.eq_false_iff.2 c1]
      by_cases c2 : memIx j.f3[i] 0 (l.take n) ≥ 0
      · refine Evt.ite_pos c2 ?_
        rw [hm.1.1 c2]
        exact Evt.pure' _
      · refine Evt.ite_neg c2 ?_
        rw [Bool.eq_false_iff.2 (fun e => c2 (hm.1.2 e))]
        simp only [Bool.or_self, Bool.not_false, Bool.true_and]
        exact form_l2 l n hn j hl hj d (i + 1) (by omega)
theorem form_l1 (l : List Jb) (n : Nat) (hn : n ≤ l.length) (j : Jb) (hl : SmL l) (hj : j.f3.length ≤ 100000 ∧ j.f4.length ≤ 100000) : ∀ (d i : Nat), i + d = n →
    Evt (fun k => jobs_form.l1 k l n n (i : Int) j.f0 j.f1 j.f2 j.f3 j.f4 j.f5 j.f6) (oneT1 (l.take n) ((l.take n).drop i) j)
  | 0, i, hi => by
    refine Evt.shift ?_
    simp only [jobs_form.l1]
    rw [List.drop_eq_nil_of_le (by rw [List.length_take]; omega)]
    refine Evt.ite_neg (by omega) ?_
    have := form_l2 l n hn j hl hj j.f3.length 0 (by omega)
    exact this
  | d + 1, i, hi => by
    have hlt : i < l.length := by omega
    have hlt2 : i < (l.take n).length := by rw [List.length_take]; omega
    have h1 := hl.1
    refine Evt.shift ?_
    simp only [jobs_form.l1, rdT l i hlt, up1 i (by omega)]
    rw [List.drop_eq_getElem_cons hlt2]
    have e : (l.take n)[i] = l[i] := by simp
    refine Evt.ite_pos (by omega) (Evt.ite_pos (by omega) (Evt.ite_pos (by omega) ?_))
    have hnm : namedB ((l.take n)[i] :: (l.take n).drop (i + 1)) j.f0 = (decide (l[i].f0 = j.f0) || namedB ((l.take n).drop (i + 1)) j.f0) := by rw [e]; rfl
    unfold oneT1
    rw [hnm]
    by_cases c : l[i].f0 = j.f0
    · refine Evt.ite_pos c ?_
      rw [decide_eq_true c]
      exact Evt.pure' _
    · refine Evt.ite_neg c ?_
      rw [decide_eq_false c, Bool.false_or]
      exact form_l1 l n hn j hl hj d (i + 1) (by omega)
theorem form_l0 (l : List Jb) (n : Nat) (hn : n ≤ l.length) (j : Jb) (hl : SmL l) (hj : j.f3.length ≤ 100000 ∧ j.f4.length ≤ 100000) (he : j.f4.length = j.f3.length) : ∀ (d i : Nat), i + d = j.f3.length →
    Evt (fun k => jobs_form.l0 k l n j.f3 (j.f3.length : Int) (i : Int) j.f0 j.f1 j.f2 j.f3 j.f4 j.f5 j.f6) (oneT0 (l.take n) j (j.f3.drop i) (j.f4.drop i))
  | 0, i, hi => by
    refine Evt.shift ?_
    simp only [jobs_form.l0]
    rw [List.drop_eq_nil_of_le (show j.f3.length ≤ i by omega), List.drop_eq_nil_of_le (show j.f4.length ≤ i by omega)]
    refine Evt.ite_neg (by omega) ?_
    have := form_l1 l n hn j hl hj n 0 (by omega)
    exact this
  | d + 1, i, hi => by
    have hlt : i < j.f3.length := by omega
    have hlt4 : i < j.f4.length := by omega
    refine Evt.shift ?_
    simp only [jobs_form.l0, rdI j.f3 i hlt, rdI j.f4 i hlt4, up1 i (by omega)]
    rw [List.drop_eq_getElem_cons hlt, List.drop_eq_getElem_cons hlt4]
    unfold oneT0
    rw [List.all_cons, List.all_cons]
    have hb := numB_iff j.f3[i]
    refine Evt.ite_pos (by omega) (Evt.ite_pos (by omega) (Evt.ite_pos (by omega) ?_))
    by_cases c1 : j.f3[i] < 1
    · refine Evt.ite_pos c1 ?_
      rw [Bool.eq_false_iff.2 (show ¬ numB j.f3[i] = true from fun e => by have := hb.1 e; omega)]
      exact Evt.pure' _
    refine Evt.ite_neg c1 ?_
    by_cases c2 : j.f3[i] > 2147483647
    · refine Evt.ite_pos c2 ?_
      rw [Bool.eq_false_iff.2 (show ¬ numB j.f3[i] = true from fun e => by have := hb.1 e; omega)]
      exact Evt.pure' _
    refine Evt.ite_neg c2 (Evt.ite_pos (by omega) (Evt.bind (known_ev _) ?_))
    rw [hb.2 (by omega), Bool.true_and]
    by_cases c3 : knownB j.f4[i] = true
    · refine Evt.ite_pos c3 ?_
      rw [c3, Bool.true_and]
      exact form_l0 l n hn j hl hj he d (i + 1) (by omega)
    · refine Evt.ite_neg c3 ?_
      rw [Bool.eq_false_iff.2 c3, Bool.false_and, Bool.and_false]
      exact Evt.pure' _
theorem form_ev (l : List Jb) (n : Nat) (hn : n < l.length) (hl : SmL l) : Evt (fun k => jobs_form.f k l n) (oneP (l.take n) l[n]) := by
  have hm := hl.2 _ (List.getElem_mem hn)
  obtain ⟨j, hj⟩ : ∃ j, l[n] = j := ⟨_, rfl⟩
  rw [hj] at hm ⊢
  have bad : Evt (fun k => jobs_form.j0 k l n true j.f0 j.f1 j.f2 j.f3 j.f4 j.f5 j.f6) 1 := by
    refine Evt.shift ?_
    simp only [jobs_form.j0]
    exact Evt.ite_pos trivial (Evt.pure' _)
  unfold jobs_form.f
  simp only [rdT l n hn, hj]
  rw [oneP_eq]
  refine Evt.ite_pos (by omega) (Evt.ite_pos (by omega) ?_)
  by_cases c0 : j.f0 < 1
  · refine Evt.ite_pos c0 ?_
    rw [if_pos (.inl c0)]
    exact bad
  refine Evt.ite_neg c0 ?_
  by_cases c1 : j.f0 > 32
  · refine Evt.ite_pos c1 ?_
    rw [if_pos (.inr (.inl c1))]
    exact bad
  refine Evt.ite_neg c1 ?_
  by_cases c2 : j.f1 < 1
  · refine Evt.ite_pos c2 ?_
    rw [if_pos (.inr (.inr (.inl c2)))]
    exact bad
  refine Evt.ite_neg c2 ?_
  by_cases c3 : j.f1 > 2147483647
  · refine Evt.ite_pos c3 ?_
    rw [if_pos (.inr (.inr (.inr (.inl c3))))]
    exact bad
  refine Evt.ite_neg c3 ?_
  by_cases c4 : j.f3.length = 0
  · refine Evt.ite_pos (by omega) ?_
    rw [if_pos (.inr (.inr (.inr (.inr (.inl c4)))))]
    exact bad
  refine Evt.ite_neg (by omega) ?_
  by_cases c5 : j.f4.length = j.f3.length
  · rw [if_neg (show ¬ (j.f0 < 1 ∨ 32 < j.f0 ∨ j.f1 < 1 ∨ 2147483647 < j.f1 ∨ j.f3.length = 0 ∨ j.f4.length ≠ j.f3.length) by omega), show ((j.f4.length : Int) != (j.f3.length : Int)) = false by rw [bne_eq_false_iff_eq]; omega]
    refine Evt.shift ?_
    simp only [jobs_form.j0]
    refine Evt.ite_neg Bool.false_ne_true ?_
    by_cases c6 : (j.f5.size : Int) > 4096
    · refine Evt.ite_pos c6 ?_
      rw [if_pos (show 4096 < j.f5.size by omega)]
      exact Evt.pure' _
    · refine Evt.ite_neg c6 ?_
      rw [if_neg (show ¬ 4096 < j.f5.size by omega)]
      have := form_l0 l n (by omega) j hl ⟨hm.1, hm.2.1⟩ c5 j.f3.length 0 (by omega)
      exact this
  · rw [if_pos (.inr (.inr (.inr (.inr (.inr c5))))), show ((j.f4.length : Int) != (j.f3.length : Int)) = true by rw [bne_iff_ne]; omega]
    exact bad
theorem Valid_l0 (l : List Jb) (hl : SmL l) : ∀ (d i : Nat), i + d = l.length → Evt (fun k => jobs_Valid.l0 k l (l.length : Int) (i : Int)) (validFrom (l.take i) (l.drop i))
  | 0, i, hi => by
    refine Evt.shift ?_
    simp only [jobs_Valid.l0]
    rw [List.drop_eq_nil_of_le (by omega)]
    exact Evt.ite_neg (by omega) (Evt.pure' _)
  | d + 1, i, hi => by
    have hlt : i < l.length := by omega
    have h1 := hl.1
    refine Evt.shift ?_
    simp only [jobs_Valid.l0, up1 i (by omega)]
    rw [List.drop_eq_getElem_cons hlt]
    unfold validFrom
    refine Evt.ite_pos (by omega) (Evt.bind (form_ev l i hlt hl) ?_)
    by_cases c : oneP (l.take i) l[i] = 0
    · refine Evt.ite_pos c ?_
      rw [if_neg (show ¬ (oneP (l.take i) l[i] ≠ 0) from fun h => h c), ← List.take_succ_eq_append_getElem hlt]
      exact Valid_l0 l hl d (i + 1) (by omega)
    · refine Evt.ite_neg c ?_
      rw [if_pos (show oneP (l.take i) l[i] ≠ 0 from c)]
      exact Evt.pure' _
theorem Valid_ev (l : List Jb) (hl : SmL l) : Evt (fun k => jobs_Valid.f k l) (validP l) := by
  unfold jobs_Valid.f validP
  by_cases c : (l.length : Int) > 32
  · refine Evt.ite_pos c ?_
    rw [if_pos (show 32 < l.length by omega)]
    exact Evt.pure' _
  · refine Evt.ite_neg c ?_
    rw [if_neg (show ¬ 32 < l.length by omega)]
    have := Valid_l0 l hl l.length 0 (by omega)
    exact this
end Go.Proofs.YthafbimhmfjcoaaDoor.PE
/- The reference's words are the plain words: Small, Valid, Status, Same. -/
namespace Go.Proofs.YthafbimhmfjcoaaDoor.PE
set_option linter.unusedVariables false
set_option linter.unusedSimpArgs false
open Go.RowKit Go.Proofs.YthafbimhmfjcoaaDoorW.PrintWords Go.Proofs.YthafbimhmfjcoaaDoorW.PrintLast Go.Proofs.YthafbimhmfjcoaaDoorW.PrintMore Go.Proofs.YthafbimhmfjcoaaDoor.JP Go.Proofs.YthafbimhmfjcoaaDoor.PV
theorem has_l0 (l : List Int) (n : Int) (hl : l.length ≤ 4611686018427387904) : ∀ (d i : Nat), i + d = l.length → Evt (fun k => jobshellref36_has.l0 k l n (i : Int)) (hasB (l.drop i) n)
  | 0, i, hi => by
    refine Evt.shift ?_
    simp only [jobshellref36_has.l0]
    rw [List.drop_eq_nil_of_le (by omega)]
    exact Evt.ite_neg (by omega) (Evt.pure' _)
  | d + 1, i, hi => by
    have hlt : i < l.length := by omega
    refine Evt.shift ?_
    simp only [jobshellref36_has.l0, rdI l i hlt, up1 i (by omega)]
    rw [List.drop_eq_getElem_cons hlt, hasB_cons]
    refine Evt.ite_pos (by omega) (Evt.ite_pos (by omega) ?_)
    by_cases h : l[i] = n
    · rw [decide_eq_true h]
      exact Evt.ite_pos h (Evt.pure' _)
    · rw [decide_eq_false h]
      exact Evt.ite_neg h (has_l0 l n hl d (i + 1) (by omega))
theorem has_ev (l : List Int) (n : Int) (hl : l.length ≤ 4611686018427387904) : Evt (fun k => jobshellref36_has.f k l n) (hasB l n) := has_l0 l n hl l.length 0 (by omega)
theorem rmember_l0 (l : List Jb) (p : Int) (hl : SmL l) : ∀ (d i : Nat), i + d = l.length → Evt (fun k => jobshellref36_member.l0 k l p (i : Int)) (memB (l.drop i) p)
  | 0, i, hi => by
    refine Evt.shift ?_
    simp only [jobshellref36_member.l0]
    rw [List.drop_eq_nil_of_le (by omega)]
    exact Evt.ite_neg (by omega) (Evt.pure' _)
  | d + 1, i, hi => by
    have hlt : i < l.length := by omega
    have hl1 := hl.1
    refine Evt.shift ?_
    simp only [jobshellref36_member.l0, rdT l i hlt, up1 i (by omega)]
    rw [List.drop_eq_getElem_cons hlt]
    have e : memB (l[i] :: l.drop (i + 1)) p = (hasB l[i].f3 p || memB (l.drop (i + 1)) p) := rfl
    rw [e]
    refine Evt.ite_pos (by omega) (Evt.ite_pos (by omega) (Evt.bind (has_ev _ _ (by have := (hl.2 _ (List.getElem_mem hlt)).1; omega)) ?_))
    by_cases h : hasB l[i].f3 p = true
    · rw [h]
      exact Evt.ite_pos rfl (Evt.pure' _)
    · rw [Bool.eq_false_iff.2 h, Bool.false_or]
      exact Evt.ite_neg Bool.false_ne_true (rmember_l0 l p hl d (i + 1) (by omega))
theorem rmember_ev (l : List Jb) (p : Int) (hl : SmL l) : Evt (fun k => jobshellref36_member.f k l p) (memB l p) := rmember_l0 l p hl l.length 0 (by omega)
def namIx (n : Int) : Int → List Jb → Int
  | _, [] => -1
  | i, j :: r => if j.f0 = n then i else namIx n (i + 1) r
theorem namIx_lo (n : Int) : ∀ (l : List Jb) (i : Int), 0 ≤ i → (0 ≤ namIx n i l ↔ namedB l n = true)
  | [], i, h => by simp [namIx, namedB]
  | j :: r, i, h => by
    have h1 := namIx_lo n r (i + 1) (by omega)
    have e : namedB (j :: r) n = (decide (j.f0 = n) || namedB r n) := rfl
    unfold namIx
    rw [e]
    by_cases hb : j.f0 = n
    · rw [if_pos hb, decide_eq_true hb]
      simp [h]
    · rw [if_neg hb, decide_eq_false hb, Bool.false_or]
      exact h1
theorem named_l0 (l : List Jb) (n : Int) (hl : l.length ≤ 100000) : ∀ (d i : Nat), i + d = l.length → Evt (fun k => jobshellref36_named.l0 k l n (i : Int)) (namIx n i (l.drop i))
  | 0, i, hi => by
    refine Evt.shift ?_
    simp only [jobshellref36_named.l0]
    rw [List.drop_eq_nil_of_le (by omega)]
    exact Evt.ite_neg (by omega) (Evt.pure' _)
  | d + 1, i, hi => by
    have hlt : i < l.length := by omega
    refine Evt.shift ?_
    simp only [jobshellref36_named.l0, rdT l i hlt, up1 i (by omega)]
    rw [List.drop_eq_getElem_cons hlt]
    unfold namIx
    refine Evt.ite_pos (by omega) (Evt.ite_pos (by omega) ?_)
    by_cases h : l[i].f0 = n
    · refine Evt.ite_pos h ?_
      rw [if_pos h]
      exact Evt.pure' _
    · refine Evt.ite_neg h ?_
      rw [if_neg h]
      have := named_l0 l n hl d (i + 1) (by omega)
      rw [show ((i + 1 : Nat) : Int) = (i : Int) + 1 by omega] at this ⊢
      exact this
theorem named_ev (l : List Jb) (n : Int) (hl : l.length ≤ 100000) : Evt (fun k => jobshellref36_named.f k l n) (namIx n 0 l) := named_l0 l n hl l.length 0 (by omega)
theorem number_f (n : Int) : jobshellref36_number.f n = some (numB n) := by
  unfold jobshellref36_number.f numB
  by_cases c : n ≥ 1
  · rw [if_pos c, decide_eq_true (show 1 ≤ n from c), Bool.true_and]
  · rw [if_neg c, decide_eq_false (show ¬ 1 ≤ n from c), Bool.false_and]
theorem rkind_f : ∀ k s, jobshellref22_Kind.f k s = status_Kind.f k s := by
  intro k s
  unfold jobshellref22_Kind.f status_Kind.f
  have : ∀ b, jobshellref22_Kind.j0 k s b = status_Kind.j0 k s b := by
    intro b
    cases k <;> rfl
  rw [this, this]
theorem rkind_ev (s : Int) : Evt (fun k => jobshellref22_Kind.f k s) (kindP s) := (kind_ev s).congr fun k => rkind_f k s
theorem rended_ev (s : Int) : Evt (fun k => jobshellref36_ended.f k s) (endB s) := by
  unfold jobshellref36_ended.f
  refine Evt.bind (rkind_ev s) ?_
  rw [kind_end]
  by_cases hk : (kindP s).1 = 0
  · rw [show ((kindP s).1 == 0) = true by simpa using hk]
    exact Evt.ite_pos hk (Evt.pure' _)
  · rw [show ((kindP s).1 == 0) = false by simpa using hk]
    exact Evt.ite_neg hk (Evt.pure' _)
theorem rstopped_ev (s : Int) : Evt (fun k => jobshellref36_stopped.f k s) (heldB s) := by
  unfold jobshellref36_stopped.f
  refine Evt.bind (rkind_ev s) ?_
  rw [kind_held]
  exact Evt.pure' _
theorem rshell_f : ∀ k s, jobshellref22_Shell.f k s = status_Shell.f k s := by
  intro k s
  unfold jobshellref22_Shell.f status_Shell.f
  rw [rkind_f]
  have : ∀ a b c, jobshellref22_Shell.j0 k a b c = status_Shell.j0 k a b c := by
    intro a b c
    cases k <;> rfl
  simp only [this]
theorem rstatus_ev (j : Jb) (hl : j.f4.length ≤ 100000) : Evt (fun k => jobshellref36_Status.f k j.f0 j.f1 j.f2 j.f3 j.f4 j.f5 j.f6) (statP j) := by
  refine (status_ev j hl).congr fun k => ?_
  unfold jobshellref36_Status.f jobs_Status.f
  rw [rshell_f]
theorem end_held (s : Int) : ¬ (endB s = true ∧ heldB s = true) := by
  rw [kind_end, kind_held]
  simp
  omega
theorem rstate_l0 (l : List Int) (hk : l.all knownB = true) (hl : l.length ≤ 100000) : ∀ (d i : Nat), i + d = l.length → ∀ (a b : Bool), Evt (fun k => jobshellref36_state.l0 k l a b (i : Int)) (stS a b (l.drop i))
  | 0, i, hi, a, b => by
    refine Evt.shift ?_
    simp only [jobshellref36_state.l0]
    rw [List.drop_eq_nil_of_le (by omega)]
    refine Evt.ite_neg (by omega) ?_
    unfold stS
    cases a with
    | true => exact Evt.pure' _
    | false =>
      cases b with
      | true => exact Evt.pure' _
      | false => exact Evt.pure' _
  | d + 1, i, hi, a, b => by
    have hlt : i < l.length := by omega
    have hu := up1 i (by omega)
    have next := fun a' b' => rstate_l0 l hk hl d (i + 1) (by omega) a' b'
    have hkn := List.all_eq_true.1 hk _ (List.getElem_mem hlt)
    refine Evt.shift ?_
    simp only [jobshellref36_state.l0, rdI l i hlt, hu]
    rw [List.drop_eq_getElem_cons hlt]
    unfold stS
    refine Evt.ite_pos (by omega) (Evt.ite_pos (by omega) ?_)
    by_cases c : l[i] = -1
    · refine Evt.ite_pos c ?_
      rw [if_neg (show ¬ (endB l[i] || heldB l[i]) = true by rw [c]; decide)]
      exact Evt.pure' _
    refine Evt.ite_neg c (Evt.bind (rended_ev _) ?_)
    have hor : (endB l[i] || heldB l[i]) = true := by
      unfold knownB at hkn
      rw [decide_eq_false c, Bool.false_or] at hkn
      exact hkn
    rw [if_pos hor]
    by_cases he : endB l[i] = true
    · have hh : heldB l[i] = false := Bool.eq_false_iff.2 fun h => end_held _ ⟨he, h⟩
      refine Evt.ite_pos he (Evt.bind (rstopped_ev _) ?_)
      rw [he, hh, Bool.and_true, Bool.or_false]
      exact Evt.ite_neg Bool.false_ne_true (next a b)
    · have hh : heldB l[i] = true := by
        rw [Bool.eq_false_iff.2 he, Bool.false_or] at hor
        exact hor
      refine Evt.ite_neg he (Evt.bind (rstopped_ev _) ?_)
      rw [Bool.eq_false_iff.2 he, hh, Bool.and_false, Bool.or_true]
      exact Evt.ite_pos rfl (next false true)
theorem rstate_ev (l : List Int) (hk : l.all knownB = true) (hl : l.length ≤ 100000) : Evt (fun k => jobshellref36_state.f k l) (stateP l) := by
  rw [stateP_eq]
  exact rstate_l0 l hk hl l.length 0 (by omega) true false
theorem one_l1 (l : List Jb) (j : Jb) (hl : SmL l) (hj : j.f3.length ≤ 100000 ∧ j.f4.length ≤ 100000) (hk : j.f4.all knownB = true) : ∀ (d i : Nat), i + d = j.f3.length →
    Evt (fun k => jobshellref36_one.l1 k l (i : Int) j.f0 j.f1 j.f2 j.f3 j.f4 j.f5 j.f6) (oneT2 l j (j.f3.take i) (j.f3.drop i))
  | 0, i, hi => by
    refine Evt.shift ?_
    simp only [jobshellref36_one.l1]
    rw [List.drop_eq_nil_of_le (by omega)]
    refine Evt.ite_neg (by omega) (Evt.bind (rstate_ev j.f4 hk hj.2) ?_)
    unfold oneT2 oneT3
    rw [show freshB l (j.f3.take i) [] = true from rfl, if_neg (show ¬ (true = false) by decide)]
    by_cases c : j.f2 = stateP j.f4
    · refine Evt.ite_pos c ?_
      rw [if_neg (show ¬ (j.f2 ≠ stateP j.f4) from fun h => h c)]
      exact Evt.pure' _
    · refine Evt.ite_neg c ?_
      rw [if_pos (show j.f2 ≠ stateP j.f4 from c)]
      exact Evt.pure' _
  | d + 1, i, hi => by
    have hlt : i < j.f3.length := by omega
    have h1 := hl.1
    refine Evt.shift ?_
    simp only [jobshellref36_one.l1, rdI j.f3 i hlt, up1 i (by omega), Int.toNat_natCast]
    rw [List.drop_eq_getElem_cons hlt]
    unfold oneT2
    rw [fresh_step _ _ _ hlt]
    refine Evt.ite_pos (by omega) (Evt.ite_pos (by omega) (Evt.bind (rmember_ev _ _ hl) ?_))
    by_cases c1 : memB l j.f3[i] = true
    · refine Evt.ite_pos c1 ?_
      rw [c1, Bool.or_true]
      exact Evt.pure' _
    · refine Evt.ite_neg c1 (Evt.ite_pos (by omega) (Evt.bind (has_ev _ _ (by rw [List.length_take]; omega)) ?_))
      rw [Bool.eq_false_iff.2 c1, Bool.or_false]
      by_cases c2 : hasB (j.f3.take i) j.f3[i] = true
      · refine Evt.ite_pos c2 ?_
        rw [c2]
        exact Evt.pure' _
      · refine Evt.ite_neg c2 ?_
        rw [Bool.eq_false_iff.2 c2]
        simp only [Bool.not_false, Bool.true_and]
        exact one_l1 l j hl hj hk d (i + 1) (by omega)
theorem one_l0 (l : List Jb) (j : Jb) (hl : SmL l) (hj : j.f3.length ≤ 100000 ∧ j.f4.length ≤ 100000) (he : j.f4.length = j.f3.length) : ∀ (d i : Nat), i + d = j.f3.length → (j.f4.take i).all knownB = true →
    Evt (fun k => jobshellref36_one.l0 k l (i : Int) j.f0 j.f1 j.f2 j.f3 j.f4 j.f5 j.f6) (oneT0 l j (j.f3.drop i) (j.f4.drop i))
  | 0, i, hi, hk => by
    refine Evt.shift ?_
    simp only [jobshellref36_one.l0]
    rw [List.drop_eq_nil_of_le (show j.f3.length ≤ i by omega), List.drop_eq_nil_of_le (show j.f4.length ≤ i by omega)]
    refine Evt.ite_neg (by omega) (Evt.bind (named_ev l j.f0 hl.1) ?_)
    have hn := namIx_lo j.f0 l 0 (by omega)
    show Evt _ (oneT1 l l j)
    unfold oneT1
    by_cases c : namIx j.f0 0 l ≥ 0
    · refine Evt.ite_pos c ?_
      rw [if_pos (hn.1 c)]
      exact Evt.pure' _
    · refine Evt.ite_neg c ?_
      rw [if_neg (fun h => c (hn.2 h))]
      rw [List.take_of_length_le (by omega)] at hk
      have := one_l1 l j hl hj hk j.f3.length 0 (by omega)
      exact this
  | d + 1, i, hi, hk => by
    have hlt : i < j.f3.length := by omega
    have hlt4 : i < j.f4.length := by omega
    refine Evt.shift ?_
    simp only [jobshellref36_one.l0, rdI j.f3 i hlt, rdI j.f4 i hlt4, up1 i (by omega), number_f, Option.bind_some]
    rw [List.drop_eq_getElem_cons hlt, List.drop_eq_getElem_cons hlt4]
    unfold oneT0
    rw [List.all_cons, List.all_cons]
    refine Evt.ite_pos (by omega) (Evt.ite_pos (by omega) ?_)
    by_cases c1 : numB j.f3[i] = true
    · refine Evt.ite_pos c1 (Evt.ite_pos (by omega) ?_)
      rw [c1, Bool.true_and]
      have next : knownB j.f4[i] = true → Evt (fun k => jobshellref36_one.l0 k l ((i + 1 : Nat) : Int) j.f0 j.f1 j.f2 j.f3 j.f4 j.f5 j.f6) (if ((j.f3.drop (i + 1)).all numB && (knownB j.f4[i] && (j.f4.drop (i + 1)).all knownB)) = false then 1 else oneT1 l l j) := by
        intro h
        rw [h, Bool.true_and]
        refine one_l0 l j hl hj he d (i + 1) (by omega) ?_
        rw [List.take_succ_eq_append_getElem hlt4, List.all_append, hk]
        simp [h]
      by_cases c2 : j.f4[i] = -1
      · exact Evt.ite_pos c2 (next (by rw [c2]; decide))
      refine Evt.ite_neg c2 (Evt.bind (rended_ev _) ?_)
      by_cases c3 : endB j.f4[i] = true
      · exact Evt.ite_pos c3 (next (by unfold knownB; rw [c3]; simp))
      refine Evt.ite_neg c3 (Evt.bind (rstopped_ev _) ?_)
      by_cases c4 : heldB j.f4[i] = true
      · exact Evt.ite_pos c4 (next (by unfold knownB; rw [c4]; simp))
      · refine Evt.ite_neg c4 ?_
        rw [show knownB j.f4[i] = false by unfold knownB; rw [decide_eq_false c2, Bool.eq_false_iff.2 c3, Bool.eq_false_iff.2 c4]; rfl, Bool.false_and, Bool.and_false]
        exact Evt.pure' _
    · refine Evt.ite_neg c1 ?_
      rw [Bool.eq_false_iff.2 c1]
      exact Evt.pure' _
theorem one_ev (l : List Jb) (j : Jb) (hl : SmL l) (hj : j.f3.length ≤ 100000 ∧ j.f4.length ≤ 100000) : Evt (fun k => jobshellref36_one.f k l j.f0 j.f1 j.f2 j.f3 j.f4 j.f5 j.f6) (oneP l j) := by
  have bad : Evt (fun k => jobshellref36_one.j0 k l true j.f0 j.f1 j.f2 j.f3 j.f4 j.f5 j.f6) 1 := by
    refine Evt.shift ?_
    simp only [jobshellref36_one.j0]
    exact Evt.ite_pos trivial (Evt.pure' _)
  unfold jobshellref36_one.f
  rw [oneP_eq]
  by_cases c0 : j.f0 < 1
  · refine Evt.ite_pos c0 ?_
    rw [if_pos (.inl c0)]
    exact bad
  refine Evt.ite_neg c0 ?_
  by_cases c1 : j.f0 > 32
  · refine Evt.ite_pos c1 ?_
    rw [if_pos (.inr (.inl c1))]
    exact bad
  refine Evt.ite_neg c1 ?_
  rw [number_f]
  simp only [Option.bind_some]
  have hb := numB_iff j.f1
  by_cases c2 : numB j.f1 = true
  · refine Evt.ite_pos c2 ?_
    have hb := hb.1 c2
    by_cases c4 : j.f3.length = 0
    · refine Evt.ite_pos (by omega) ?_
      rw [if_pos (.inr (.inr (.inr (.inr (.inl c4)))))]
      exact bad
    refine Evt.ite_neg (by omega) ?_
    by_cases c5 : j.f4.length = j.f3.length
    · rw [if_neg (show ¬ (j.f0 < 1 ∨ 32 < j.f0 ∨ j.f1 < 1 ∨ 2147483647 < j.f1 ∨ j.f3.length = 0 ∨ j.f4.length ≠ j.f3.length) by omega), show ((j.f4.length : Int) != (j.f3.length : Int)) = false by rw [bne_eq_false_iff_eq]; omega]
      refine Evt.shift ?_
      simp only [jobshellref36_one.j0]
      refine Evt.ite_neg Bool.false_ne_true ?_
      by_cases c6 : (j.f5.size : Int) > 4096
      · refine Evt.ite_pos c6 ?_
        rw [if_pos (show 4096 < j.f5.size by omega)]
        exact Evt.pure' _
      · refine Evt.ite_neg c6 ?_
        rw [if_neg (show ¬ 4096 < j.f5.size by omega)]
        have := one_l0 l j hl hj c5 j.f3.length 0 (by omega) (by simp)
        exact this
    · rw [if_pos (.inr (.inr (.inr (.inr (.inr c5))))), show ((j.f4.length : Int) != (j.f3.length : Int)) = true by rw [bne_iff_ne]; omega]
      exact bad
  · refine Evt.ite_neg c2 ?_
    rw [if_pos (show j.f0 < 1 ∨ 32 < j.f0 ∨ j.f1 < 1 ∨ 2147483647 < j.f1 ∨ j.f3.length = 0 ∨ j.f4.length ≠ j.f3.length by
      by_cases h : j.f1 < 1
      · exact .inr (.inr (.inl h))
      · exact .inr (.inr (.inr (.inl (by
          by_cases h2 : 2147483647 < j.f1
          · exact h2
          · exact absurd (hb.2 ⟨by omega, by omega⟩) c2)))))]
    exact bad
theorem rValid_l0 (l : List Jb) (hl : SmL l) : ∀ (d i : Nat), i + d = l.length → Evt (fun k => jobshellref36_Valid.l0 k l (i : Int)) (validFrom (l.take i) (l.drop i))
  | 0, i, hi => by
    refine Evt.shift ?_
    simp only [jobshellref36_Valid.l0]
    rw [List.drop_eq_nil_of_le (by omega)]
    exact Evt.ite_neg (by omega) (Evt.pure' _)
  | d + 1, i, hi => by
    have hlt : i < l.length := by omega
    have h1 := hl.1
    have hm := hl.2 _ (List.getElem_mem hlt)
    refine Evt.shift ?_
    simp only [jobshellref36_Valid.l0, up1 i (by omega), rdT l i hlt, Int.toNat_natCast]
    rw [List.drop_eq_getElem_cons hlt]
    unfold validFrom
    refine Evt.ite_pos (by omega) (Evt.ite_pos (by omega) (Evt.ite_pos (by omega) (Evt.bind (one_ev (l.take i) l[i] (hl.take i) ⟨hm.1, hm.2.1⟩) ?_)))
    by_cases c : oneP (l.take i) l[i] = 0
    · refine Evt.ite_pos c ?_
      rw [if_neg (show ¬ (oneP (l.take i) l[i] ≠ 0) from fun h => h c), ← List.take_succ_eq_append_getElem hlt]
      exact rValid_l0 l hl d (i + 1) (by omega)
    · refine Evt.ite_neg c ?_
      rw [if_pos (show oneP (l.take i) l[i] ≠ 0 from c)]
      exact Evt.pure' _
theorem rValid_ev (l : List Jb) (hl : SmL l) : Evt (fun k => jobshellref36_Valid.f k l) (validP l) := by
  unfold jobshellref36_Valid.f validP
  by_cases c : (l.length : Int) > 32
  · refine Evt.ite_pos c ?_
    rw [if_pos (show 32 < l.length by omega)]
    exact Evt.pure' _
  · refine Evt.ite_neg c ?_
    rw [if_neg (show ¬ 32 < l.length by omega)]
    have := rValid_l0 l hl l.length 0 (by omega)
    exact this
theorem small_l0 (l : List Jb) : ∀ (d i : Nat), i + d = 40 → ∀ n : Int, 0 ≤ n → n ≤ 30000 →
    Evt (fun k => jobshellref36_Small.l0 k l n (i : Int)) (smallFrom d n (l.drop i) && decide (l.length ≤ 40))
  | 0, i, hi, n, h0, h1 => by
    have fin : ∀ b, b = false → Evt (fun k => jobshellref36_Small.j1 k l n (i : Int) b) (decide (n < 20000) && decide (l.length ≤ 40)) := by
      rintro b rfl
      refine Evt.shift ?_
      simp only [jobshellref36_Small.j1]
      refine Evt.ite_neg Bool.false_ne_true ?_
      by_cases c : (l.length : Int) ≤ 40
      · rw [decide_eq_true (show l.length ≤ 40 by omega), Bool.and_true]
        exact Evt.ite_pos c (Evt.pure' _)
      · rw [decide_eq_false (show ¬ l.length ≤ 40 by omega), Bool.and_false]
        exact Evt.ite_neg c (Evt.pure' _)
    refine Evt.shift ?_
    simp only [jobshellref36_Small.l0]
    have e : smallFrom 0 n (l.drop i) = decide (n < 20000) := by cases l.drop i <;> rfl
    rw [e]
    by_cases c : (i : Int) < (l.length : Int)
    · exact Evt.ite_pos c (Evt.ite_neg (by omega) (fin _ rfl))
    · exact Evt.ite_neg c (fin _ rfl)
  | d + 1, i, hi, n, h0, h1 => by
    have fin : ∀ b, b = false → Evt (fun k => jobshellref36_Small.j1 k l n (i : Int) b) (decide (n < 20000) && decide (l.length ≤ 40)) := by
      rintro b rfl
      refine Evt.shift ?_
      simp only [jobshellref36_Small.j1]
      refine Evt.ite_neg Bool.false_ne_true ?_
      by_cases c : (l.length : Int) ≤ 40
      · rw [decide_eq_true (show l.length ≤ 40 by omega), Bool.and_true]
        exact Evt.ite_pos c (Evt.pure' _)
      · rw [decide_eq_false (show ¬ l.length ≤ 40 by omega), Bool.and_false]
        exact Evt.ite_neg c (Evt.pure' _)
    refine Evt.shift ?_
    simp only [jobshellref36_Small.l0]
    by_cases c : i < l.length
    · refine Evt.ite_pos (by omega) (Evt.ite_pos (by omega) ?_)
      rw [List.drop_eq_getElem_cons c]
      unfold smallFrom
      by_cases cn : n < 20000
      · rw [decide_eq_true cn, if_pos cn]
        refine Evt.shift ?_
        simp only [jobshellref36_Small.j1, rdT l i c, up1 i (by omega)]
        refine Evt.ite_pos trivial (Evt.ite_pos (by omega) (Evt.ite_pos (by omega) ?_))
        by_cases c1 : (l[i].f3.length : Int) > 40
        · refine Evt.ite_pos c1 ?_
          rw [if_pos (show 40 < l[i].f3.length ∨ 40 < l[i].f4.length ∨ 5000 < l[i].f5.size from .inl (by omega))]
          exact Evt.pure' _
        refine Evt.ite_neg c1 ?_
        by_cases c2 : (l[i].f4.length : Int) > 40
        · refine Evt.ite_pos c2 ?_
          rw [if_pos (show 40 < l[i].f3.length ∨ 40 < l[i].f4.length ∨ 5000 < l[i].f5.size from .inr (.inl (by omega)))]
          exact Evt.pure' _
        refine Evt.ite_neg c2 ?_
        by_cases c3 : (l[i].f5.size : Int) > 5000
        · refine Evt.ite_pos c3 ?_
          rw [if_pos (show 40 < l[i].f3.length ∨ 40 < l[i].f4.length ∨ 5000 < l[i].f5.size from .inr (.inr (by omega)))]
          exact Evt.pure' _
        · refine Evt.ite_neg c3 ?_
          rw [if_neg (show ¬ (40 < l[i].f3.length ∨ 40 < l[i].f4.length ∨ 5000 < l[i].f5.size) by omega), show wrap64 (n + (l[i].f5.size : Int)) = n + (l[i].f5.size : Int) from wr (by omega) (by omega)]
          exact small_l0 l d (i + 1) (by omega) _ (by omega) (by omega)
      · rw [decide_eq_false cn, if_neg cn]
        have := fin false rfl
        rw [decide_eq_false cn] at this
        exact this
    · refine Evt.ite_neg (by omega) ?_
      rw [List.drop_eq_nil_of_le (by omega)]
      unfold smallFrom
      exact fin false rfl
theorem small_ev (l : List Jb) : Evt (fun k => jobshellref36_Small.f k l) (smallP l) := by
  have := small_l0 l 40 0 (by omega) 0 (by omega) (by omega)
  exact this
theorem small_from : ∀ (d : Nat) (n : Int) (l : List Jb), l.length ≤ d → smallFrom d n l = true → ∀ j ∈ l, j.f3.length ≤ 40 ∧ j.f4.length ≤ 40 ∧ j.f5.size ≤ 5000
  | d, n, [], _, _, j, hj => by cases hj
  | 0, n, x :: r, h, _, _, _ => by simp at h
  | d + 1, n, x :: r, h, hs, j, hj => by
    unfold smallFrom at hs
    split at hs
    · split at hs
      · cases hs
      · rename_i hc
        rcases List.mem_cons.1 hj with rfl | hj
        · omega
        · exact small_from d _ r (by simpa using h) hs j hj
    · cases hs
theorem small_SmL {l : List Jb} (h : smallP l = true) : SmL l ∧ l.length ≤ 40 ∧ ∀ j ∈ l, j.f3.length ≤ 40 ∧ j.f4.length ≤ 40 ∧ j.f5.size ≤ 5000 := by
  unfold smallP at h
  rw [Bool.and_eq_true, decide_eq_true_eq] at h
  have := small_from 40 0 l h.2 h.1
  exact ⟨⟨by omega, fun j hj => by have := this j hj; omega⟩, h.2, this⟩
end Go.Proofs.YthafbimhmfjcoaaDoor.PE

import Derived.Test.YtphgcpoefpogfaaDoorPurC
import Derived.Test.YtphgcpoefpogfaaDoorPSx13
namespace Go.Proofs.YtphgcpoefpogfaaDoor.PS
open Go.RowKit Go.Proofs.YtphgcpoefpogfaaDoorW.PrintWords Go.Proofs.YtphgcpoefpogfaaDoorW.PrintLast Go.Proofs.YtphgcpoefpogfaaDoorW.PrintMore
set_option linter.unusedSimpArgs false
set_option linter.unusedVariables false

/-! ## TrapTakes -/
def actT (t : Tr) : Bool := t.f0 != 0 && t.f1.toList != []
theorem actT_iff (t : Tr) : actT t = true ↔ t.f0 ≠ 0 ∧ t.f1.toList ≠ [] := by
  simp [actT]
def hits (p : List Int) (q : List Tr) : List Tr := q.filter (fun t => actT t && p.contains t.f0)
theorem look_own {l : List Tr} (ha : l.Pairwise (fun a b => a.f0 < b.f0)) {t : Tr} (ht : t ∈ l) : look l t.f0 = some t := by
  induction l with
  | nil => cases ht
  | cons u l ih =>
    rw [List.pairwise_cons] at ha
    rw [look_cons]
    rcases List.mem_cons.1 ht with rfl | h
    · rw [if_pos rfl]
    · rw [if_neg (by have := ha.1 t h; omega)]
      exact ih ha.2 h
theorem eff_own {l : List Tr} (ha : l.Pairwise (fun a b => a.f0 < b.f0)) {t : Tr} (ht : t ∈ l) : (eff l t.f0).isSome = actT t := by
  unfold eff
  rw [look_own ha ht]
  dsimp only
  by_cases h0 : t.f0 = 0
  · rw [if_pos h0]; simp [actT, h0]
  · rw [if_neg h0]
    by_cases h1 : t.f1.toList = []
    · rw [if_pos h1]; simp [actT, h1]
    · rw [if_neg h1]; simp [actT, h0, h1]
theorem eff_from {l : List Tr} {n : Int} (h : (eff l n).isSome = true) : ∃ t ∈ l, t.f0 = n ∧ eff l n = some t.f1 ∧ t.f1.toList ≠ [] := by
  unfold eff at h ⊢
  cases hk : look l n with
  | none => rw [hk] at h; cases h
  | some t =>
    rw [hk] at h
    dsimp only at h ⊢
    by_cases h0 : n = 0
    · rw [if_pos h0] at h; cases h
    · rw [if_neg h0] at h ⊢
      by_cases h1 : t.f1.toList = []
      · rw [if_pos h1] at h; cases h
      · rw [if_neg h1]
        exact ⟨t, look_mem hk, look_f0 hk, rfl, h1⟩
theorem count_one (P : Tr → Bool) {l : List Tr} (ha : l.Pairwise (fun a b => a.f0 < b.f0)) {t : Tr} (ht : t ∈ l) (hP : P t = true) : (l.filter P).length = (l.filter (fun u => P u && u.f0 != t.f0)).length + 1 := by
  induction l with
  | nil => cases ht
  | cons u l ih =>
    rw [List.pairwise_cons] at ha
    rcases List.mem_cons.1 ht with rfl | h
    · rw [List.filter_cons_of_pos hP, List.filter_cons_of_neg (by simp)]
      rw [List.length_cons]
      congr 2
      refine List.filter_congr fun u hu => ?_
      have := ha.1 u hu
      have : (u.f0 != t.f0) = true := bne_iff_ne.2 (by omega)
      rw [this, Bool.and_true]
    · have hne : (u.f0 != t.f0) = true := bne_iff_ne.2 (by have := ha.1 t h; omega)
      by_cases hu : P u = true
      · rw [List.filter_cons_of_pos hu, List.filter_cons_of_pos (by rw [hu, hne]; rfl), List.length_cons, List.length_cons, ih ha.2 h]
      · rw [List.filter_cons_of_neg hu, List.filter_cons_of_neg (by simp [hu]), ih ha.2 h]
theorem hits_step {l : List Tr} (ha : l.Pairwise (fun a b => a.f0 < b.f0)) {p : List Int} {x : Int} (hx : x ∈ p) (hs : (eff l x).isSome = true) : (hits p l).length = (hits (trap_Next.rest (eff l) x p) l).length + 1 := by
  obtain ⟨t, ht, rfl, he, h1⟩ := eff_from hs
  have hP : (actT t && p.contains t.f0) = true := by
    rw [Bool.and_eq_true, ← eff_own ha ht]
    exact ⟨hs, by simpa using hx⟩
  unfold hits
  rw [count_one _ ha ht hP]
  congr 2
  refine List.filter_congr fun u hu => ?_
  have e := eff_own ha hu
  unfold trap_Next.rest
  by_cases hau : actT u = true
  · rw [hau] at e ⊢
    rw [Bool.eq_iff_iff]
    simp only [Bool.true_and, Bool.and_eq_true, List.contains_eq_mem, decide_eq_true_eq, List.mem_filter]
    constructor
    · rintro ⟨h2, h3⟩; exact ⟨h2, e, h3⟩
    · rintro ⟨h2, _, h3⟩; exact ⟨h2, h3⟩
  · simp [hau]
theorem hits_zero {l : List Tr} (ha : l.Pairwise (fun a b => a.f0 < b.f0)) {p : List Int} (h : ∀ n ∈ p, (eff l n).isSome = false) : (hits p l).length = 0 := by
  rw [List.length_eq_zero_iff]
  unfold hits
  rw [List.filter_eq_nil_iff]
  intro t ht
  rw [Bool.and_eq_true, not_and]
  intro h1 h2
  rw [← eff_own ha ht, h _ (by simpa using h2)] at h1
  cases h1
theorem takes_l2 {l a b : List Tr} {t : Tr} (hl : a ++ t :: b = l) (h1000 : l.length ≤ 1000) {P : List Int} (hP : P.length ≤ 1000) (n w : Int) (V : Bool)
    (hw : 0 ≤ w ∧ w ≤ 1000) (d : List Int) : ∀ c : List Int, c ++ d = P → Ev (fun k => jobshelllaw34_TrapTakes.l1 k l P n (if (actT t && d.contains t.f0) = true then w + 1 else w) ((a.length : Int) + 1)) V →
    Ev (fun k => jobshelllaw34_TrapTakes.l2 k l P n w (a.length : Int) (c.length : Int)) V := by
  have hlen : (l.length : Int) = a.length + 1 + b.length := by rw [← hl]; exact len_mid a b t
  have hrd : rd_T30 l (a.length : Int) = t := by rw [← hl]; exact rd_mid a b t
  have ha := wr1 a.length (by omega)
  induction d with
  | nil =>
    intro c hc hV
    rw [List.append_nil] at hc
    subst hc
    refine Ev.shift ?_
    simp only [jobshelllaw34_TrapTakes.l2, ha]
    rw [if_neg (by simp)] at hV
    exact Ev.ite_neg (by omega) hV
  | cons y d ih =>
    intro c hc hV
    have hcl : (P.length : Int) = c.length + 1 + d.length := by rw [← hc]; exact len_mid c d y
    have hry : rd P (c.length : Int) = y := by rw [← hc]; exact rdi_mid c d y
    have ih' := ih (c ++ [y]) (by rw [← hc]; simp)
    rw [len_snoc] at ih'
    refine Ev.shift ?_
    simp only [jobshelllaw34_TrapTakes.l2, ha, hrd, hry, wr1 c.length (by omega), show wrap64 (w + 1) = w + 1 from wr (by omega) (by omega)]
    refine Ev.ite_pos (by omega) (Ev.ite_pos (by omega) (Ev.ite_pos (by omega) ?_))
    by_cases h0 : t.f0 = 0
    · refine Ev.ite_pos h0 (ih' ?_)
      rw [if_neg (by simp [actT, h0])] at hV ⊢
      exact hV
    refine Ev.ite_neg h0 ?_
    by_cases h1 : t.f1.toList = []
    · refine Ev.ite_pos h1 (ih' ?_)
      rw [if_neg (by simp [actT, h1])] at hV ⊢
      exact hV
    refine Ev.ite_neg h1 (Ev.ite_pos (by omega) ?_)
    have hact : actT t = true := (actT_iff t).2 ⟨h0, h1⟩
    by_cases h2 : y = t.f0
    · refine Ev.ite_pos h2 ?_
      rw [if_pos (by simp [hact, h2])] at hV
      exact hV
    · refine Ev.ite_neg h2 (ih' ?_)
      have : ((y :: d).contains t.f0) = d.contains t.f0 := by rw [List.contains_cons, show (t.f0 == y) = false from beq_eq_false_iff_ne.2 (Ne.symm h2), Bool.false_or]
      rw [this] at hV
      exact hV
theorem takes_l1 {l : List Tr} (h1000 : l.length ≤ 1000) {P : List Int} (hP : P.length ≤ 1000) (n : Int) (hn : n = ((hits P l).length : Int)) (b : List Tr) : ∀ a : List Tr, a ++ b = l →
    Ev (fun k => jobshelllaw34_TrapTakes.l1 k l P n ((hits P a).length : Int) (a.length : Int)) true := by
  induction b with
  | nil =>
    intro a ha
    rw [List.append_nil] at ha
    subst ha
    refine Ev.shift ?_
    simp only [jobshelllaw34_TrapTakes.l1]
    exact Ev.ite_neg (by omega) (Ev.ite_pos hn awake_ev')
  | cons t b ih =>
    intro a ha
    have ih' := ih (a ++ [t]) (by rw [← ha]; simp)
    rw [len_snoc] at ih'
    have hlen : (l.length : Int) = a.length + 1 + b.length := by rw [← ha]; exact len_mid a b t
    have hle : (hits P a).length ≤ a.length := List.length_filter_le _ _
    refine Ev.shift ?_
    simp only [jobshelllaw34_TrapTakes.l1]
    refine Ev.ite_pos (by omega) (takes_l2 ha h1000 hP n _ true (by omega) P [] rfl ?_)
    have : ((hits P (a ++ [t])).length : Int) = if (actT t && P.contains t.f0) = true then ((hits P a).length : Int) + 1 else (hits P a).length := by
      unfold hits
      rw [List.filter_append, List.length_append]
      simp only [List.filter_cons, List.filter_nil]
      by_cases h : (actT t && P.contains t.f0) = true
      · rw [if_pos h, if_pos h]; simp
      · rw [if_neg h, if_neg h]; simp
    rw [← this]
    exact ih'
theorem takes_l0 {l : List Tr} (h : OkL l) (hl : ∀ t ∈ l, (Lit.int .i64 t.f0).wf = true ∧ t.f1.size ≤ maxLen) {P : List Int} (h60 : P.length ≤ 60) (d : Nat) : ∀ (i : Int) (n last : Int) (q : List Int), i + d = P.length + 1 → 0 ≤ i → q.length + i ≤ P.length →
    (∀ x ∈ q, (Lit.int .i64 x).wf = true) → 0 ≤ n → n + (hits q l).length = (hits P l).length → (∀ x ∈ q, (eff l x).isSome = true → last < x) → Ev (fun k => jobshelllaw34_TrapTakes.l0 k l P last n q i) true := by
  have h30 := h.len
  have hh : (hits P l).length ≤ l.length := List.length_filter_le _ _
  induction d with
  | zero => intro i n last q h1 h2 h3; omega
  | succ d ih =>
    intro i n last q hi h0 hq hw hn hc hlast
    refine Ev.shift ?_
    simp only [jobshelllaw34_TrapTakes.l0, show wrap64 (i + 1) = i + 1 from wr (by omega) (by omega), show wrap64 (n + 1) = n + 1 from wr (by omega) (by omega)]
    refine Ev.ite_pos (by omega) ?_
    rw [next_eq h hl hw (by omega)]
    simp only [Option.bind_some]
    unfold nextR
    rcases least_spec (eff l) (eff_zero l) q with ⟨h1, h2⟩ | ⟨h1, h2, h3, h4⟩
    · rw [if_pos h1]
      refine Ev.ite_neg (by simp) (Ev.shift ?_)
      simp only [jobshelllaw34_TrapTakes.j2]
      rw [hits_zero h.asc h2] at hc
      exact takes_l1 (by omega) (by omega) n (by omega) l [] rfl
    · rw [if_neg h1]
      have hstep := hits_step h.asc h2 h3
      obtain ⟨t, _, _, he, hne⟩ := eff_from h3
      have hlen : (trap_Next.rest (eff l) (trap_Next.least (eff l) q) q).length < q.length := by
        unfold trap_Next.rest
        refine Nat.lt_of_le_of_ne (List.length_filter_le _ _) fun e => ?_
        have := (List.length_filter_eq_length_iff.1 e) _ h2
        simp at this
      refine Ev.ite_pos (by simp) (Ev.ite_neg (by have := hlast _ h2 h3; simp; omega) (Ev.ite_neg (by simp only [he]; exact hne) (Ev.ite_neg (show ¬ ((trap_Next.rest (eff l) (trap_Next.least (eff l) q) q).length : Int) ≥ (q.length : Int) by omega) ?_)))
      refine ih (i + 1) (n + 1) (trap_Next.least (eff l) q) (trap_Next.rest (eff l) (trap_Next.least (eff l) q) q) (by omega) (by omega) (by omega) ?_ (by omega) (by omega) ?_
      · intro x hx
        exact hw x (List.mem_filter.1 hx).1
      · intro x hx hs
        have hx' := List.mem_filter.1 hx
        have h5 := h4 x hx'.1 hs
        have h6 : x ≠ trap_Next.least (eff l) q := by
          have := hx'.2
          simp at this
          exact this.2
        show trap_Next.least (eff l) q < x
        omega
theorem TrapTakes (l : List S30) (p : List Int) (hl : ∀ t ∈ l, (Lit.int .i64 t.f0).wf = true ∧ t.f1.size ≤ maxLen) (hp : ∀ n ∈ p, (Lit.int .i64 n).wf = true) : ∃ k, jobshelllaw34_TrapTakes.f k l p = some true := by
  refine Ev.get ?_
  simp only [jobshelllaw34_TrapTakes.f]
  obtain ⟨b, hb, hc⟩ := ok_ev l
  refine hb.bind ?_
  by_cases h1 : b = true ∧ p.length ≤ 60
  · obtain ⟨rfl, h60⟩ := h1
    have h := hc rfl
    refine Ev.ite_pos (by simp) (Ev.shift ?_)
    simp only [jobshelllaw34_TrapTakes.j0]
    refine Ev.ite_neg (by simp; omega) ?_
    refine takes_l0 h hl h60 (p.length + 1) 0 0 0 p (by omega) (by omega) (by omega) hp (by omega) (by omega) ?_
    intro x hx hs
    obtain ⟨t, ht, e, he, _⟩ := eff_from hs
    have := (h.rng t ht).1
    have : x ≠ 0 := by
      rintro rfl
      rw [eff_zero] at hs
      cases hs
    omega
  · have aw : ∀ x : Bool, x = true → Ev (fun k => jobshelllaw34_TrapTakes.j0 k l p x) true := by
      rintro x rfl
      refine Ev.shift ?_
      simp only [jobshelllaw34_TrapTakes.j0]
      exact Ev.ite_pos (by simp) awake_ev'
    by_cases hb1 : b = true
    · refine Ev.ite_pos hb1 (aw _ ?_)
      have : ¬ p.length ≤ 60 := fun h => h1 ⟨hb1, h⟩
      simp; omega
    · exact Ev.ite_neg hb1 (aw _ rfl)
end Go.Proofs.YtphgcpoefpogfaaDoor.PS

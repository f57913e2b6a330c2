import Derived.Test.YtphgcpoefpogfaaDoorPurB
import Derived.Test.YtphgcpoefpogfaaDoorPSx9
namespace Go.Proofs.YtphgcpoefpogfaaDoor.PS
open Go.RowKit Go.Proofs.YtphgcpoefpogfaaDoorW.PrintWords Go.Proofs.YtphgcpoefpogfaaDoorW.PrintLast Go.Proofs.YtphgcpoefpogfaaDoorW.PrintMore
set_option linter.unusedSimpArgs false
set_option linter.unusedVariables false

/-! ## the least of what acts -/
theorem fold_set (m : Int → Option ByteArray) (hm : m 0 = none) (p : List Int) : ∀ acc : Int, acc ≠ 0 →
    let r := p.foldl (fun a n => if (m n).isSome ∧ (a = 0 ∨ n < a) then n else a) acc
    (r = acc ∨ (r ∈ p ∧ (m r).isSome = true)) ∧ r ≠ 0 ∧ r ≤ acc ∧ ∀ n ∈ p, (m n).isSome = true → r ≤ n := by
  induction p with
  | nil => intro acc h; exact ⟨.inl rfl, h, Int.le_refl _, fun _ h => by cases h⟩
  | cons x p ih =>
    intro acc h
    simp only [List.foldl_cons]
    by_cases hx : (m x).isSome = true ∧ (acc = 0 ∨ x < acc)
    · rw [if_pos hx]
      have hx0 : x ≠ 0 := by rintro rfl; rw [hm] at hx; cases hx.1
      obtain ⟨h1, h2, h3, h4⟩ := ih x hx0
      refine ⟨.inr ?_, h2, by omega, fun n hn hs => ?_⟩
      · rcases h1 with e | e
        · rw [e]; exact ⟨List.mem_cons_self, hx.1⟩
        · exact ⟨List.mem_cons_of_mem _ e.1, e.2⟩
      · rcases List.mem_cons.1 hn with rfl | hn
        · exact h3
        · exact h4 n hn hs
    · rw [if_neg hx]
      obtain ⟨h1, h2, h3, h4⟩ := ih acc h
      refine ⟨h1.imp id (fun e => ⟨List.mem_cons_of_mem _ e.1, e.2⟩), h2, h3, fun n hn hs => ?_⟩
      rcases List.mem_cons.1 hn with rfl | hn
      · have : ¬ (acc = 0 ∨ n < acc) := fun h => hx ⟨hs, h⟩
        omega
      · exact h4 n hn hs
theorem least_spec (m : Int → Option ByteArray) (hm : m 0 = none) (p : List Int) :
    (trap_Next.least m p = 0 ∧ ∀ n ∈ p, (m n).isSome = false) ∨ (trap_Next.least m p ≠ 0 ∧ trap_Next.least m p ∈ p ∧ (m (trap_Next.least m p)).isSome = true ∧ ∀ n ∈ p, (m n).isSome = true → trap_Next.least m p ≤ n) := by
  unfold trap_Next.least
  induction p with
  | nil => exact .inl ⟨rfl, fun _ h => by cases h⟩
  | cons x p ih =>
    simp only [List.foldl_cons]
    by_cases hx : (m x).isSome = true
    · rw [if_pos (by exact ⟨hx, by simp⟩)]
      have hx0 : x ≠ 0 := by rintro rfl; rw [hm] at hx; cases hx
      obtain ⟨h1, h2, h3, h4⟩ := fold_set m hm p x hx0
      refine .inr ⟨h2, ?_, ?_, fun n hn hs => ?_⟩
      · rcases h1 with e | e
        · rw [e]; exact List.mem_cons_self
        · exact List.mem_cons_of_mem _ e.1
      · rcases h1 with e | e
        · rw [e]; exact hx
        · exact e.2
      · rcases List.mem_cons.1 hn with rfl | hn
        · exact h3
        · exact h4 n hn hs
    · rw [if_neg (fun h => hx h.1)]
      rcases ih with ⟨h1, h2⟩ | ⟨h1, h2, h3, h4⟩
      · refine .inl ⟨h1, fun n hn => ?_⟩
        rcases List.mem_cons.1 hn with rfl | hn
        · simpa using hx
        · exact h2 n hn
      · refine .inr ⟨h1, List.mem_cons_of_mem _ h2, h3, fun n hn hs => ?_⟩
        rcases List.mem_cons.1 hn with rfl | hn
        · exact absurd hs hx
        · exact h4 n hn hs
theorem eff_zero (l : List Tr) : eff l 0 = none := by
  unfold eff
  split
  · rw [if_pos rfl]
  · rfl

theorem rest_cons (m : Int → Option ByteArray) (x y : Int) (b : List Int) : trap_Next.rest m x (y :: b) = if (m y).isSome = true ∧ y ≠ x then y :: trap_Next.rest m x b else trap_Next.rest m x b := by
  unfold trap_Next.rest
  rw [List.filter_cons]
  by_cases h1 : (m y).isSome = true <;> by_cases h2 : y = x <;> simp [h1, h2]
/-! ## TrapNexts -/
abbrev Res := Int × ByteArray × List Int × Bool
def nextR (l : List Tr) (p : List Int) : Res := if trap_Next.least (eff l) p = 0 then (0, ⟨#[]⟩, [], false) else (trap_Next.least (eff l) p, (eff l (trap_Next.least (eff l) p)).getD ⟨#[]⟩, trap_Next.rest (eff l) (trap_Next.least (eff l) p) p, true)
theorem next_eq {l : List Tr} (h : OkL l) (hl : ∀ t ∈ l, (Lit.int .i64 t.f0).wf = true ∧ t.f1.size ≤ maxLen) {p : List Int} (hp : ∀ n ∈ p, (Lit.int .i64 n).wf = true) (hpl : p.length ≤ 60) : trap_Next.f l p = some (nextR l p) := by
  unfold trap_Next.f nextR
  rw [m_eq h, if_pos]
  · by_cases h0 : trap_Next.least (eff l) p = 0
    · rw [if_pos h0, if_pos h0]
    · rw [if_neg h0, if_neg h0]
      rcases least_spec (eff l) (eff_zero l) p with h1 | ⟨h1, h2, h3, h4⟩
      · exact absurd h1.1 h0
      · obtain ⟨s, hs⟩ := Option.isSome_iff_exists.1 h3
        rw [hs]
        rfl
  · refine ⟨⟨by have := h.len; omega, by omega⟩, ?_, ?_⟩
    · rw [List.all_eq_true]
      intro t ht
      rw [Bool.and_eq_true, decide_eq_true_eq]
      exact hl t ht
    · rw [List.all_eq_true]
      exact hp
theorem rnext_l1 {l : List Tr} (h : OkL l) (x : Int) (hx : (eff l x).isSome = true) (b : List Int) : ∀ (a : List Int) (acc : List Int), (a ++ b).length ≤ 1000 → acc.length ≤ a.length →
    Ev (fun k => jobshellref34_Next.l1 k l (a ++ b) x acc (a.length : Int)) (x, (eff l x).getD ⟨#[]⟩, acc ++ trap_Next.rest (eff l) x b, true) := by
  have h30 := h.len
  induction b with
  | nil =>
    intro a acc _ _
    refine Ev.shift ?_
    simp only [jobshellref34_Next.l1]
    refine Ev.ite_neg (by simp) ?_
    cases hk : look l x with
    | none => unfold eff at hx; rw [hk] at hx; cases hx
    | some t =>
      obtain ⟨r, hr, h1, h2, h3⟩ := find_some (l := l) (by omega) hk
      refine Ev.bind hr (Ev.ite_pos h1 (Ev.ite_pos h2 ?_))
      rw [h3]
      have e0 := look_f0 hk
      have e1 : eff l x = some t.f1 := by
        unfold eff at hx ⊢
        rw [hk] at hx ⊢
        dsimp only at hx ⊢
        by_cases c0 : x = 0
        · rw [if_pos c0] at hx; cases hx
        · rw [if_neg c0] at hx ⊢
          by_cases c1 : t.f1.toList = []
          · rw [if_pos c1] at hx; cases hx
          · rw [if_neg c1]
      rw [e0, e1]
      simp only [trap_Next.rest, List.filter_nil, List.append_nil, Option.getD_some]
      exact Ev.pure' _
  | cons y b ih =>
    intro a acc hlen hacc
    have hl := len_mid a b y
    have hl2 : a.length + 1 + b.length ≤ 1000 := by omega
    refine Ev.shift ?_
    simp only [jobshellref34_Next.l1, rdi_mid, wr1 a.length (by omega)]
    refine Ev.ite_pos (by omega) (Ev.ite_pos (by omega) ((acts_ev (l := l) (by omega) y).bind ?_))
    have ih' := fun acc h => ih (a ++ [y]) acc (by simpa using hlen) h
    simp only [List.append_assoc, len_snoc, List.cons_append, List.nil_append] at ih'
    rw [rest_cons]
    have hle : acc.length ≤ (a ++ [y]).length := by simp; omega
    by_cases c1 : (eff l y).isSome = true
    · refine Ev.ite_pos c1 ?_
      by_cases c2 : y = x
      · rw [if_neg (fun h => h.2 c2)]
        exact Ev.ite_pos c2 (ih' acc hle)
      · rw [if_pos ⟨c1, c2⟩]
        refine Ev.ite_neg c2 (Ev.ite_pos (by omega) ?_)
        have := ih' (acc ++ [y]) (by simp; omega)
        rw [List.append_assoc] at this
        exact this
    · rw [if_neg (fun h => c1 h.1)]
      exact Ev.ite_neg c1 (ih' acc hle)
theorem rnext_l0 {l : List Tr} (h : OkL l) (P : List Int) (X : Int) (V : Res) (hV : Ev (fun k => if X = 0 then some (0, ⟨#[]⟩, [], false) else jobshellref34_Next.l1 k l P X [] 0) V) (b : List Int) : ∀ (a : List Int) (acc : Int), a ++ b = P → P.length ≤ 1000 →
    b.foldl (fun a n => if ((eff l) n).isSome ∧ (a = 0 ∨ n < a) then n else a) acc = X → Ev (fun k => jobshellref34_Next.l0 k l P acc (a.length : Int)) V := by
  have h30 := h.len
  induction b with
  | nil =>
    intro a acc hP _ hX
    rw [List.append_nil] at hP
    subst hP
    rw [List.foldl_nil] at hX
    subst hX
    refine Ev.shift ?_
    simp only [jobshellref34_Next.l0, List.foldl_nil]
    exact Ev.ite_neg (by omega) hV
  | cons y b ih =>
    intro a acc hP hlen hX
    have ih' := fun acc => ih (a ++ [y]) acc (by rw [← hP]; simp) hlen
    rw [List.foldl_cons] at hX
    have hl : (P.length : Int) = a.length + 1 + b.length := by rw [← hP]; exact len_mid a b y
    simp only [len_snoc] at ih'
    have hrd : rd P (a.length : Int) = y := by rw [← hP]; exact rdi_mid a b y
    refine Ev.shift ?_
    simp only [jobshellref34_Next.l0, hrd, wr1 a.length (by omega)]
    refine Ev.ite_pos (by omega) (Ev.ite_pos (by omega) ((acts_ev (l := l) (by omega) y).bind ?_))
    by_cases c1 : (eff l y).isSome = true
    · refine Ev.ite_pos c1 ?_
      by_cases c2 : acc = 0
      · rw [if_pos ⟨c1, .inl c2⟩] at hX
        exact Ev.ite_pos c2 (ih' y hX)
      · refine Ev.ite_neg c2 ?_
        by_cases c3 : y < acc
        · rw [if_pos ⟨c1, .inr c3⟩] at hX
          exact Ev.ite_pos c3 (ih' y hX)
        · rw [if_neg (fun h => h.2.elim c2 c3)] at hX
          exact Ev.ite_neg c3 (ih' acc hX)
    · rw [if_neg (fun h => c1 h.1)] at hX
      exact Ev.ite_neg c1 (ih' acc hX)
theorem rnext_ev {l : List Tr} (h : OkL l) (p : List Int) (hp : p.length ≤ 60) : Ev (fun k => jobshellref34_Next.f k l p) (nextR l p) := by
  refine rnext_l0 h p (trap_Next.least (eff l) p) (nextR l p) ?_ p [] 0 rfl (by omega) rfl
  unfold nextR
  by_cases h0 : trap_Next.least (eff l) p = 0
  · rw [if_pos h0]
    exact Ev.ite_pos h0 (Ev.pure' _)
  · rw [if_neg h0]
    refine Ev.ite_neg h0 ?_
    rcases least_spec (eff l) (eff_zero l) p with h1 | ⟨h1, h2, h3, h4⟩
    · exact absurd h1.1 h0
    · exact rnext_l1 h _ h3 p [] [] (by simp; omega) (by simp)
theorem ints_loop (b : List Int) : ∀ a : List Int, (a ++ b).length ≤ 1000 → Ev (fun k => jobshelllaw34_ints.l0 k (a ++ b) (a ++ b) (a.length : Int)) true := by
  induction b with
  | nil =>
    intro a _
    refine Ev.shift ?_
    simp only [jobshelllaw34_ints.l0]
    exact Ev.ite_neg (by simp) (Ev.pure' _)
  | cons y b ih =>
    intro a hlen
    have hl := len_mid a b y
    have ih' := ih (a ++ [y]) (by simpa using hlen)
    simp only [List.append_assoc, len_snoc, List.cons_append, List.nil_append] at ih'
    refine Ev.shift ?_
    simp only [jobshelllaw34_ints.l0, wr1 a.length (by omega)]
    exact Ev.ite_pos (by omega) (Ev.ite_pos (by omega) (Ev.ite_pos (by omega) (Ev.ite_pos (by simp) ih')))
theorem ints_ev (l : List Int) (h : l.length ≤ 1000) : Ev (fun k => jobshelllaw34_ints.f k l l) true := by
  simp only [jobshelllaw34_ints.f]
  exact Ev.ite_pos (by simp) (ints_loop l [] (by simpa using h))
theorem rest_len (m : Int → Option ByteArray) (x : Int) (p : List Int) : (trap_Next.rest m x p).length ≤ p.length := List.length_filter_le _ _
theorem TrapNexts (l : List S30) (p : List Int) (hl : ∀ t ∈ l, (Lit.int .i64 t.f0).wf = true ∧ t.f1.size ≤ maxLen) (hp : ∀ n ∈ p, (Lit.int .i64 n).wf = true) : ∃ k, jobshelllaw34_TrapNexts.f k l p = some true := by
  refine Ev.get ?_
  simp only [jobshelllaw34_TrapNexts.f]
  obtain ⟨b, hb, hc⟩ := ok_ev l
  refine hb.bind ?_
  by_cases h1 : b = true ∧ p.length ≤ 60
  · obtain ⟨rfl, h60⟩ := h1
    have h := hc rfl
    refine Ev.ite_pos (by simp) (Ev.shift ?_)
    simp only [jobshelllaw34_TrapNexts.j0]
    refine Ev.ite_neg (by simp; omega) ?_
    rw [next_eq h hl hp h60]
    simp only [Option.bind_some]
    refine (rnext_ev h p h60).bind (Ev.ite_pos (by simp) ((ints_ev _ ?_).bind (Ev.ite_pos (by simp) (Ev.ite_pos (by simp) awake_ev'))))
    unfold nextR
    split
    · simp
    · exact Nat.le_trans (rest_len _ _ _) (by omega)
  · have aw : ∀ x : Bool, x = true → Ev (fun k => jobshelllaw34_TrapNexts.j0 k l p x) true := by
      rintro x rfl
      refine Ev.shift ?_
      simp only [jobshelllaw34_TrapNexts.j0]
      exact Ev.ite_pos (by simp) awake_ev'
    by_cases hb1 : b = true
    · refine Ev.ite_pos hb1 (aw _ ?_)
      have : ¬ p.length ≤ 60 := fun h => h1 ⟨hb1, h⟩
      simp; omega
    · exact Ev.ite_neg hb1 (aw _ rfl)
end Go.Proofs.YtphgcpoefpogfaaDoor.PS

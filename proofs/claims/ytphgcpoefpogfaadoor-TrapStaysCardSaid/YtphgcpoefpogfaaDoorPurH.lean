import Derived.Test.YtphgcpoefpogfaaDoorPurS
import Derived.Test.YtphgcpoefpogfaaDoorPSx19
namespace Go.Proofs.YtphgcpoefpogfaaDoor.PS
open Go.RowKit Go.Proofs.YtphgcpoefpogfaaDoorW.PrintWords Go.Proofs.YtphgcpoefpogfaaDoorW.PrintLast Go.Proofs.YtphgcpoefpogfaaDoorW.PrintMore
set_option linter.unusedSimpArgs false
set_option linter.unusedVariables false

/-! ## TrapStays -/
structure Rt (l : List Tr) : Prop where
  rng : ∀ t ∈ l, 0 ≤ t.f0 ∧ t.f0 ≤ 20
  asc : l.Pairwise (fun a b => a.f0 < b.f0)
theorem Rt.ev {l : List Tr} (h : Rt l) (hl : l.length ≤ 1000) : Ev (fun k => jobshellref34_Right.f k l) true := by
  obtain ⟨b, hb, hc⟩ := right_ev l hl
  rw [hc.2 ⟨h.rng, h.asc⟩] at hb
  exact hb
theorem Rt.sub {l : List Tr} (h : Rt l) (P : Tr → Bool) : Rt (l.filter P) := ⟨fun t ht => h.rng t (List.mem_filter.1 ht).1, h.asc.filter _⟩
theorem rset_mem {lk : Int → Option Tr} (hlk : ∀ m t, lk m = some t → t.f0 = m) {sig : Int} {act : ByteArray} (d : Nat) : ∀ (n : Int), n + d = 21 → ∀ t ∈ rset lk sig act d n, n ≤ t.f0 ∧ t.f0 ≤ 20 := by
  induction d with
  | zero => intro n _ t ht; cases ht
  | succ d ih =>
    intro n hn t ht
    unfold rset at ht
    rcases List.mem_append.1 ht with ht | ht
    · by_cases e : n = sig
      · rw [if_pos e, List.mem_singleton] at ht
        subst ht
        exact ⟨by show n ≤ sig; omega, by show sig ≤ 20; omega⟩
      · rw [if_neg e, Option.mem_toList] at ht
        have := hlk n t ht
        omega
    · have := ih (n + 1) (by omega) t ht
      omega
theorem rset_asc {lk : Int → Option Tr} (hlk : ∀ m t, lk m = some t → t.f0 = m) {sig : Int} {act : ByteArray} (d : Nat) : ∀ (n : Int), n + d = 21 → (rset lk sig act d n).Pairwise (fun a b => a.f0 < b.f0) := by
  induction d with
  | zero => intro n _; exact List.Pairwise.nil
  | succ d ih =>
    intro n hn
    unfold rset
    refine List.pairwise_append.2 ⟨?_, ih _ (by omega), fun a ha b hb => ?_⟩
    · by_cases e : n = sig
      · rw [if_pos e]; exact List.pairwise_singleton _ _
      · rw [if_neg e]
        cases lk n with
        | none => exact List.Pairwise.nil
        | some t => exact List.pairwise_singleton _ _
    · have h1 : a.f0 = n := by
        by_cases e : n = sig
        · rw [if_pos e, List.mem_singleton] at ha
          subst ha; exact e.symm
        · rw [if_neg e, Option.mem_toList] at ha
          exact hlk n a ha
      have h2 := rset_mem hlk d (n + 1) (by omega) b hb
      omega
theorem look_append (p q : List Tr) (m : Int) : look (p ++ q) m = (look p m).or (look q m) := by
  unfold look
  rw [List.find?_append]
theorem rset_look {lk : Int → Option Tr} (hlk : ∀ m t, lk m = some t → t.f0 = m) {sig : Int} {act : ByteArray} (d : Nat) : ∀ (n : Int), n + d = 21 → ∀ m, n ≤ m → m ≤ 20 → m ≠ sig → look (rset lk sig act d n) m = lk m := by
  induction d with
  | zero => intro n hn m h1 h2; omega
  | succ d ih =>
    intro n hn m h1 h2 h3
    unfold rset
    rw [look_append]
    by_cases e : m = n
    · subst e
      rw [if_neg h3]
      cases hk : lk m with
      | none =>
        rw [show look (none : Option Tr).toList m = none from rfl, Option.none_or]
        exact look_out (fun t ht => by have := rset_mem hlk d (m + 1) (by omega) t ht; omega)
      | some t =>
        have := hlk m t hk
        rw [show look (some t).toList m = some t from by rw [Option.toList_some, look_cons, if_pos this], Option.some_or]
    · have : look (if n = sig then [(⟨sig, act⟩ : Tr)] else (lk n).toList) m = none := by
        refine look_out (fun t ht => ?_)
        by_cases e2 : n = sig
        · rw [if_pos e2, List.mem_singleton] at ht
          subst ht
          show sig ≠ m
          omega
        · rw [if_neg e2, Option.mem_toList] at ht
          have := hlk n t ht
          omega
      rw [this, Option.none_or]
      exact ih (n + 1) (by omega) m (by omega) h2 h3
theorem rset_congr {lk lk' : Int → Option Tr} {sig : Int} {act : ByteArray} (d : Nat) : ∀ (n : Int), n + d = 21 → (∀ m, n ≤ m → m ≤ 20 → m ≠ sig → lk m = lk' m) → rset lk sig act d n = rset lk' sig act d n := by
  induction d with
  | zero => intro n _ _; rfl
  | succ d ih =>
    intro n hn h
    unfold rset
    rw [ih (n + 1) (by omega) (fun m h1 h2 h3 => h m (by omega) h2 h3)]
    by_cases e : n = sig
    · rw [if_pos e, if_pos e]
    · rw [if_neg e, if_neg e, h n (by omega) (by omega) e]
theorem set_eq {l : List Tr} (h : Rt l) {sig : Int} (h0 : 0 ≤ sig) (h1 : sig ≤ 20) (act : ByteArray) : setL l sig act = rset (look l) sig act 21 0 := by
  unfold setL
  rw [if_neg (by omega)]
  exact (rset_set h1 21 0 l (by omega) (by omega) ⟨h.asc, h.rng, fun _ _ => rfl⟩).symm
theorem set_rt {l : List Tr} (h : Rt l) (sig : Int) (act : ByteArray) : Rt (setL l sig act) := by
  by_cases hs : 0 ≤ sig ∧ sig ≤ 20
  · rw [set_eq h hs.1 hs.2]
    exact ⟨fun t ht => rset_mem (fun m t => look_f0) 21 0 (by omega) t ht, rset_asc (fun m t => look_f0) 21 0 (by omega)⟩
  · unfold setL
    rw [if_pos (by omega)]
    exact h
theorem set_set {l : List Tr} (h : Rt l) (sig : Int) (a b : ByteArray) : setL (setL l sig a) sig b = setL l sig b := by
  by_cases hs : 0 ≤ sig ∧ sig ≤ 20
  · rw [set_eq (set_rt h sig a) hs.1 hs.2 b, set_eq h hs.1 hs.2 b, set_eq h hs.1 hs.2 a]
    refine rset_congr 21 0 (by omega) (fun m h1 h2 h3 => ?_)
    exact rset_look (fun m t => look_f0) 21 0 (by omega) m h1 h2 h3
  · have e : ∀ l a, setL l sig a = l := fun l a => by unfold setL; rw [if_pos (by omega)]
    rw [e, e, e]
theorem res_set (l : List Tr) (sig : Int) (a : ByteArray) : resL (setL l sig a) sig = resL l sig := by
  have e : ∀ (q : List Tr) (done : Bool), resL (setF sig a done q) sig = resL q sig := by
    intro q
    induction q with
    | nil => intro done; cases done <;> simp [setF, resL]
    | cons t q ih =>
      intro done
      unfold setF
      have e1 : ∀ p q : List Tr, resL (p ++ q) sig = resL p sig ++ resL q sig := fun p q => by unfold resL; rw [List.filter_append]
      rw [e1, e1, ih]
      have e2 : resL (if t.f0 ≥ sig ∧ done = false then [(⟨sig, a⟩ : Tr)] else []) sig = [] := by split <;> simp [resL]
      rw [e2, List.nil_append]
      by_cases h : t.f0 = sig
      · simp [resL, h]
      · simp [resL, h, List.filter_cons]
  unfold setL
  split
  · rfl
  · exact e l false
theorem res_len (l : List Tr) (sig : Int) : (resL l sig).length ≤ l.length := List.length_filter_le _ _
theorem TrapStays (l : List S30) (sig : Int) (a b : ByteArray) (hl : ∀ t ∈ l, (Lit.int .i64 t.f0).wf = true ∧ t.f1.size ≤ maxLen) (_ : (Lit.int .i64 sig).wf = true) (_ : a.size ≤ 140737488351232) (_ : b.size ≤ 140737488351232) : ∃ k, jobshelllaw34_TrapStays.f k l sig a b = some true := by
  refine Ev.get ?_
  simp only [jobshelllaw34_TrapStays.f]
  have aw : ∀ x : Bool, x = true → Ev (fun k => jobshelllaw34_TrapStays.j0 k l sig a b x) true := by
    rintro x rfl
    refine Ev.shift ?_
    simp only [jobshelllaw34_TrapStays.j0]
    exact Ev.ite_pos (by simp) awake_ev'
  obtain ⟨v, hb, hc⟩ := ok_ev l
  refine hb.bind ?_
  by_cases h1 : v = true
  · refine Ev.ite_pos h1 ?_
    have ok := hc h1
    have h30 := ok.len
    have rt : Rt l := ⟨ok.rng, ok.asc⟩
    by_cases ha : (a.size : Int) > 500
    · exact Ev.ite_pos ha (aw _ rfl)
    refine Ev.ite_neg ha ?_
    by_cases hb : (b.size : Int) > 500
    · exact aw _ (by simpa using hb)
    have l1 := setL_len l sig a
    have l2 := setL_len (setL l sig a) sig b
    have l3 := setL_len l sig b
    have l4 := res_len l sig
    have l5 : (subL l).length ≤ l.length := List.length_filter_le _ _
    refine Ev.shift ?_
    simp only [jobshelllaw34_TrapStays.j0]
    refine Ev.ite_neg (by simpa using hb) ?_
    refine (tset_ev (l := l) (by omega) sig a).bind ?_
    refine (tres_ev (l := l) (by omega) sig).bind ?_
    refine ((set_rt rt sig a).ev (by omega)).bind (Ev.ite_pos (by simp) ?_)
    refine (Rt.ev (l := resL l sig) (rt.sub _) (by omega)).bind (Ev.ite_pos (by simp) ?_)
    refine (tsub_ev (l := l) (by omega)).bind ?_
    refine (Rt.ev (l := subL l) (rt.sub _) (by omega)).bind (Ev.ite_pos (by simp) ?_)
    refine (tset_ev (l := setL l sig a) (by omega) sig b).bind ?_
    refine (tset_ev (l := l) (by omega) sig b).bind ?_
    rw [set_set rt]
    refine (sameL_ev (by omega)).bind (Ev.shift ?_)
    simp only [jobshelllaw34_TrapStays.j1]
    refine Ev.ite_neg (by simp) ((tres_ev (by omega) sig).bind ?_)
    rw [res_set]
    refine (sameL_ev (by omega)).bind (Ev.ite_pos (by simp) ?_)
    by_cases he : ((resL l sig).length : Int) = (l.length : Int)
    · have e : resL l sig = l := by
        have hn : (resL l sig).length = l.length := by omega
        have := List.length_filter_eq_length_iff.1 hn
        unfold resL
        exact List.filter_eq_self.2 this
      rw [e]
      exact Ev.ite_pos (by simp) ((sameL_ev (by omega)).bind (Ev.ite_pos (by simp) (Ev.ite_pos (by omega) awake_ev')))
    · exact Ev.ite_neg he (Ev.ite_pos (by omega) awake_ev')
  · exact Ev.ite_neg h1 (aw _ rfl)
end Go.Proofs.YtphgcpoefpogfaaDoor.PS

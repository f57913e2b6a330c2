/- What Add keeps, in plain words. -/
import Derived.Test.YtihibmcfklddeaaDoorHSpec
namespace Go.Proofs.YtihibmcfklddeaaDoor.HL
set_option linter.unusedVariables false
set_option linter.unusedSimpArgs false
open Go.RowKit

theorem badL_none {x : ByteArray} : badLine x = none ↔ x.data.toList ≠ [] ∧ (10 : UInt8) ∉ x.data.toList ∧ x.size ≤ 4096 := by
  unfold badLine
  constructor
  · intro h
    split at h
    · cases h
    · split at h
      · cases h
      · split at h
        · cases h
        · exact ⟨by assumption, by assumption, by omega⟩
  · rintro ⟨h1, h2, h3⟩
    rw [if_neg h1, if_neg h2, if_neg (by omega)]
theorem bad_cons {q : Option (List UInt8)} {y : ByteArray} {r : List ByteArray} : badFrom q (y :: r) = 0 ↔ badLine y = none ∧ q ≠ some y.data.toList ∧ badFrom (some y.data.toList) r = 0 := by
  have hne : ∀ e, badLine y = some e → e ≠ 0 := by
    intro e he
    unfold badLine at he
    split at he
    · obtain rfl := Option.some.inj he; decide
    · split at he
      · obtain rfl := Option.some.inj he; decide
      · split at he
        · obtain rfl := Option.some.inj he; decide
        · cases he
  rw [badFrom]
  cases hb : badLine y with
  | some e =>
    simp only
    exact ⟨fun h => absurd h (hne e hb), fun h => by cases h.1⟩
  | none =>
    simp only [true_and]
    by_cases hq : q = some y.data.toList
    · rw [if_pos hq]
      exact ⟨fun h => (by cases h), fun h => absurd hq h.1⟩
    · rw [if_neg hq]
      exact ⟨fun h => ⟨hq, h⟩, fun h => h.2⟩
theorem bad_tail {q : Option (List UInt8)} {y : ByteArray} {r : List ByteArray} (h : badFrom q (y :: r) = 0) : badFrom none r = 0 := by
  have h2 := (bad_cons.1 h).2.2
  cases r with
  | nil => rfl
  | cons z r => exact bad_cons.2 ⟨(bad_cons.1 h2).1, by simp, (bad_cons.1 h2).2.2⟩
theorem bad_app (x : ByteArray) (hx : badLine x = none) : ∀ (l : List ByteArray) (q : Option (List UInt8)), badFrom q l = 0 → (if l = [] then q else lastB l) ≠ some x.data.toList → badFrom q (l ++ [x]) = 0
  | [], q, _, h => by
    rw [List.nil_append]
    exact bad_cons.2 ⟨hx, by simpa using h, rfl⟩
  | y :: l, q, h, hl => by
    obtain ⟨h1, h2, h3⟩ := bad_cons.1 h
    rw [List.cons_append]
    refine bad_cons.2 ⟨h1, h2, bad_app x hx l _ h3 ?_⟩
    rw [if_neg (by simp)] at hl
    by_cases h0 : l = []
    · subst h0
      simpa [lastB] using hl
    · rw [if_neg h0]
      intro e
      apply hl
      rw [← e]
      unfold lastB
      rw [List.getLast?_cons]
      cases hg : l.getLast? with
      | none => exact absurd (List.getLast?_eq_none_iff.1 hg) h0
      | some z => rfl
theorem valid_iff {a : Int} {l : List ByteArray} : validP a l = 0 ↔ l.length ≤ 128 ∧ 1 ≤ a ∧ a ≤ 2147483519 ∧ badFrom none l = 0 := by
  unfold validP
  constructor
  · intro h
    split at h
    · cases h
    · split at h
      · cases h
      · split at h
        · cases h
        · exact ⟨by omega, by omega, by omega, h⟩
  · rintro ⟨h1, h2, h3, h4⟩
    rw [if_neg (by omega), if_neg (by omega), if_neg (by omega), h4]
theorem last_eq {l : List ByteArray} {x : ByteArray} (h : lastB l = some x.data.toList) : ∃ q, l = q ++ [x] := by
  unfold lastB at h
  cases hg : l.getLast? with
  | none => rw [hg] at h; cases h
  | some z =>
    rw [hg] at h
    have hz : z.data.toList = x.data.toList := Option.some.inj h
    have : z = x := by
      cases z; cases x
      exact congrArg _ (Array.toList_inj.1 hz)
    subst this
    obtain ⟨q, hq⟩ := List.getLast?_eq_some_iff.1 hg
    exact ⟨q, hq⟩
/-- An Add that fails, or adds nothing, hands back what it was given. -/
theorem add_same {a : Int} {l : List ByteArray} {x : ByteArray} (h : (addP a l x).2.2 ≠ 0 ∨ x.data.toList = []) : (addP a l x).1 = a ∧ (addP a l x).2.1 = l := by
  unfold addP at h ⊢
  by_cases h1 : (10 : UInt8) ∈ x.data.toList
  · rw [if_pos h1]; exact ⟨rfl, rfl⟩
  rw [if_neg h1] at h ⊢
  by_cases h2 : 4096 < x.size
  · rw [if_pos h2]; exact ⟨rfl, rfl⟩
  rw [if_neg h2] at h ⊢
  by_cases h3 : x.data.toList = []
  · rw [if_pos h3]; exact ⟨rfl, rfl⟩
  rw [if_neg h3] at h ⊢
  by_cases h4 : lastB l = some x.data.toList
  · rw [if_pos h4]; exact ⟨rfl, rfl⟩
  rw [if_neg h4] at h ⊢
  by_cases h5 : 128 < (l ++ [x]).length
  · rw [if_pos h5] at h ⊢
    by_cases h6 : 2147483519 ≤ a
    · rw [if_pos h6]; exact ⟨rfl, rfl⟩
    · rw [if_neg h6] at h
      rcases h with h | h
      · exact absurd rfl h
      · exact absurd h h3
  · rw [if_neg h5] at h
    rcases h with h | h
    · exact absurd rfl h
    · exact absurd h h3
/-- An Add that succeeds: the line is the last; the history is valid; either nothing has moved, or a line was put behind the others, or the first line has gone besides. -/
theorem add_ok {a : Int} {l : List ByteArray} {x : ByteArray} (hv : validP a l = 0) (h : (addP a l x).2.2 = 0) (hx : x.data.toList ≠ []) :
    (∃ q, (addP a l x).2.1 = q ++ [x]) ∧ validP (addP a l x).1 (addP a l x).2.1 = 0 ∧
    (((addP a l x).1 = a ∧ (addP a l x).2.1 = l) ∨ ((addP a l x).1 = a ∧ (addP a l x).2.1 = l ++ [x]) ∨ ((addP a l x).1 = a + 1 ∧ l.length = 128 ∧ (addP a l x).2.1 = l.drop 1 ++ [x])) := by
  obtain ⟨v1, v2, v3, v4⟩ := valid_iff.1 hv
  unfold addP at h ⊢
  by_cases h1 : (10 : UInt8) ∈ x.data.toList
  · rw [if_pos h1] at h; cases h
  rw [if_neg h1] at h ⊢
  by_cases h2 : 4096 < x.size
  · rw [if_pos h2] at h; cases h
  rw [if_neg h2] at h ⊢
  rw [if_neg hx] at h ⊢
  by_cases h4 : lastB l = some x.data.toList
  · rw [if_pos h4]
    exact ⟨last_eq h4, hv, .inl ⟨rfl, rfl⟩⟩
  rw [if_neg h4] at h ⊢
  have hbl : badLine x = none := badL_none.2 ⟨hx, h1, by omega⟩
  have hb : badFrom none (l ++ [x]) = 0 := bad_app x hbl l none v4 (by
    split
    · simp
    · exact h4)
  have hlen : (l ++ [x]).length = l.length + 1 := by simp
  by_cases h5 : 128 < (l ++ [x]).length
  · rw [if_pos h5] at h ⊢
    by_cases h6 : 2147483519 ≤ a
    · rw [if_pos h6] at h; cases h
    · rw [if_neg h6]
      have hl : l.length = 128 := by omega
      cases l with
      | nil => simp at hl
      | cons y l =>
        have hd : (y :: l ++ [x]).drop 1 = l ++ [x] := rfl
        simp only [hd, List.drop_succ_cons, List.drop_zero]
        refine ⟨⟨l, rfl⟩, valid_iff.2 ⟨?_, by omega, by omega, bad_tail hb⟩, .inr (.inr ⟨trivial, hl, trivial⟩)⟩
        simp only [List.length_append, List.length_singleton, List.length_cons] at hl ⊢
        omega
  · rw [if_neg h5]
    exact ⟨⟨l, rfl⟩, valid_iff.2 ⟨(show (l ++ [x]).length ≤ 128 by omega), v2, v3, hb⟩, .inr (.inl ⟨rfl, rfl⟩)⟩
end Go.Proofs.YtihibmcfklddeaaDoor.HL

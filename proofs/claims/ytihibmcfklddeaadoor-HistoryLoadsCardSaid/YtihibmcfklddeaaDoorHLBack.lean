/- Load and Save, in plain words: each undoes the other. -/
import Derived.Test.YtihibmcfklddeaaDoorHSpec
namespace Go.Proofs.YtihibmcfklddeaaDoor.HL
set_option linter.unusedVariables false
set_option linter.unusedSimpArgs false
open Go.RowKit

theorem parse_app : ∀ (l r : List UInt8) (acc v : Nat), Lib.parseUint10 acc l = .ok v → Lib.parseUint10 acc (l ++ r) = Lib.parseUint10 v r
  | [], r, acc, v, h => by
    simp only [Lib.parseUint10] at h
    injection h with h
    rw [h]
    rfl
  | c :: l, r, acc, v, h => by
    simp only [Lib.parseUint10] at h
    simp only [List.cons_append, Lib.parseUint10]
    split at h
    · rename_i h1
      rw [if_pos h1]
      split at h
      · cases h
      · rename_i h2
        rw [if_neg h2]
        split at h
        · cases h
        · rename_i h3
          rw [if_neg h3]
          exact parse_app l r _ v h
    · cases h
theorem dig_byte (d : Nat) (h : d < 10) : (UInt8.ofNat (48 + d)).toNat = 48 + d := by
  rw [UInt8.toNat_ofNat']
  omega
theorem parse_dec (u : Nat) (hu : u ≤ 1000000000000) : Lib.parseUint10 0 (Lib.decDigits u) = .ok u := by
  induction u using Nat.strongRecOn with
  | _ u ih =>
    by_cases h : u < 10
    · rw [Lib.decDigits, dif_pos h]
      simp only [Lib.parseUint10, dig_byte u h]
      rw [if_pos (by omega), if_neg (by omega), if_neg (by omega)]
      congr 1
      omega
    · rw [Lib.decDigits, dif_neg h, parse_app _ _ _ _ (ih (u / 10) (by omega) (by omega))]
      simp only [Lib.parseUint10, dig_byte (u % 10) (by omega)]
      rw [if_pos (by omega), if_neg (by omega), if_neg (by omega)]
      congr 1
      omega
theorem dec_digit (u : Nat) : ∀ c ∈ Lib.decDigits u, 48 ≤ c.toNat ∧ c.toNat ≤ 57 := by
  induction u using Nat.strongRecOn with
  | _ u ih =>
    intro c hc
    rw [Lib.decDigits] at hc
    split at hc
    · rename_i h
      simp only [List.mem_singleton] at hc
      subst hc
      rw [dig_byte u h]
      omega
    · rename_i h
      rcases List.mem_append.1 hc with hc | hc
      · exact ih (u / 10) (by omega) c hc
      · simp only [List.mem_singleton] at hc
        subst hc
        rw [dig_byte _ (by omega)]
        omega
theorem dec_ne (u : Nat) : Lib.decDigits u ≠ [] := by
  rw [Lib.decDigits]
  split <;> simp
theorem atoi_dec (u : Nat) (hu : u ≤ 1000000000000) : Lib.atoiAll (Lib.decDigits u) = .ok (u : Int) := by
  have hp := parse_dec u hu
  have hd := dec_digit u
  have hn := dec_ne u
  generalize Lib.decDigits u = l at hp hd hn
  cases l with
  | nil => exact absurd rfl hn
  | cons c r =>
    have hc := hd c List.mem_cons_self
    unfold Lib.atoiAll Lib.parseMag
    simp only
    rw [if_neg (show ¬ (c.toNat = 43 ∨ c.toNat = 45) by omega), if_neg (by simp), hp]
    simp only
    rw [if_neg (by omega), if_neg (by omega), if_neg (by omega)]
theorem itoaP_dec (a : Int) (h0 : 0 ≤ a) (h1 : a ≤ 9223372036854775807) : itoaP a = Lib.decDigits a.toNat := by
  rw [itoaP_eq a (by omega) h1]
  unfold Lib.itoa
  rw [if_neg (by omega)]
theorem itoaP_no10 (a : Int) (h0 : 0 ≤ a) (h1 : a ≤ 9223372036854775807) : (10 : UInt8) ∉ itoaP a := by
  rw [itoaP_dec a h0 h1]
  intro h
  have := dec_digit _ _ h
  have e : (10 : UInt8).toNat = 10 := rfl
  omega
theorem numOf_itoa (a : Int) (h0 : 1 ≤ a) (h1 : a ≤ 2147483647) : numOf ⟨(itoaP a).toArray⟩ = some a := by
  unfold numOf
  have e : Lib.atoiAll (⟨(itoaP a).toArray⟩ : ByteArray).data.toList = .ok a := by
    show Lib.atoiAll (itoaP a).toArray.toList = _
    rw [List.toList_toArray, itoaP_dec a (by omega) (by omega), atoi_dec _ (by omega)]
    congr 1
    omega
  rw [e]
  simp only
  rw [if_neg (by omega), if_neg (by omega), if_pos (by simp)]
theorem numOf_some {h : ByteArray} {n : Int} (e : numOf h = some n) : 1 ≤ n ∧ n ≤ 2147483647 ∧ itoaP n = h.data.toList := by
  unfold numOf at e
  split at e
  · split at e
    · cases e
    · split at e
      · cases e
      · split at e
        · rename_i h3
          obtain rfl := Option.some.inj e
          exact ⟨by omega, by omega, h3⟩
        · cases e
  · cases e

/-- The pieces, a line feed behind each. -/
def fed : List (List UInt8) → List UInt8
  | [] => []
  | p :: r => p ++ 10 :: fed r
theorem fed_split : ∀ t : List UInt8, fed (splitNL t) = t ++ [10]
  | [] => rfl
  | c :: r => by
    have ih := fed_split r
    unfold splitNL
    split
    · rename_i h
      subst h
      simp only [fed, ih, List.nil_append, List.cons_append]
    · split
      · rename_i h t e
        rw [e] at ih
        simp only [fed] at ih ⊢
        rw [List.cons_append, ih]
        rfl
      · rename_i e
        exact absurd e (splitNL_ne r)
theorem split_app : ∀ (p : List UInt8), (10 : UInt8) ∉ p → ∀ r, splitNL (p ++ 10 :: r) = p :: splitNL r
  | [], _, r => by simp [splitNL]
  | c :: p, h, r => by
    have hc : c ≠ 10 := fun e => h (by simp [e])
    have hp : (10 : UInt8) ∉ p := fun e => h (List.mem_cons_of_mem _ e)
    rw [List.cons_append, splitNL, if_neg hc, split_app p hp r]
theorem split_one : ∀ (p : List UInt8), (10 : UInt8) ∉ p → splitNL p = [p]
  | [], _ => rfl
  | c :: p, h => by
    have hc : c ≠ 10 := fun e => h (by simp [e])
    have hp : (10 : UInt8) ∉ p := fun e => h (List.mem_cons_of_mem _ e)
    rw [splitNL, if_neg hc, split_one p hp]
theorem split_fed : ∀ (r : List (List UInt8)) (p : List UInt8), (∀ x ∈ p :: r, (10 : UInt8) ∉ x) → splitNL ((fed (p :: r)).take ((fed (p :: r)).length - 1)) = p :: r
  | [], p, h => by
    have hp := h p List.mem_cons_self
    simp only [fed]
    rw [show (p ++ 10 :: ([] : List UInt8)).length - 1 = p.length by simp, List.take_left]
    exact split_one p hp
  | q :: r, p, h => by
    have hp := h p List.mem_cons_self
    have ih := split_fed r q fun x hx => h x (List.mem_cons_of_mem _ hx)
    have hl : (fed (p :: q :: r)).length - 1 = p.length + 1 + ((fed (q :: r)).length - 1) := by
      simp only [fed, List.length_append, List.length_cons]
      omega
    rw [hl]
    show splitNL ((p ++ 10 :: fed (q :: r)).take _) = _
    have hsub : p.length + 1 + ((fed (q :: r)).length - 1) - (p ++ [10]).length = (fed (q :: r)).length - 1 := by simp
    rw [show p ++ 10 :: fed (q :: r) = (p ++ [10]) ++ fed (q :: r) by simp, List.take_append, List.take_of_length_le (by simp), hsub, List.append_assoc, List.singleton_append, split_app p hp, ih]
theorem lines_fed : ∀ l : List ByteArray, linesB l = fed (l.map (·.data.toList))
  | [] => rfl
  | x :: r => by simp only [linesB, List.map_cons, fed, lines_fed r]
theorem save_fed (a : Int) (l : List ByteArray) : (saveP a l).data.toList = fed (itoaP a :: l.map (·.data.toList)) := by
  simp only [saveP, fed, lines_fed]
theorem fed_end : ∀ (p : List UInt8) (r : List (List UInt8)), Lib.hasSuffix (fed (p :: r)) [10] = true
  | p, [] => by
    unfold Lib.hasSuffix
    rw [List.isSuffixOf_iff_suffix]
    exact ⟨p, rfl⟩
  | p, q :: r => by
    have ih := fed_end q r
    unfold Lib.hasSuffix at ih ⊢
    rw [List.isSuffixOf_iff_suffix] at ih ⊢
    exact ih.trans ⟨p ++ [10], by simp [fed]⟩
/-- What Load reads out of a text that ends in a line feed. -/
theorem loadP_is (s : ByteArray) (hs : Lib.hasSuffix s.data.toList [10] = true) : ∃ h r, splitNL (s.data.toList.take (s.data.toList.length - 1)) = h :: r ∧ s.data.toList = fed (h :: r) ∧
    loadP s = (match numOf ⟨h.toArray⟩ with | none => (0, [], 6) | some n => if validP n (r.map (fun l => ⟨l.toArray⟩)) = 0 then (n, r.map (fun l => ⟨l.toArray⟩), 0) else (0, [], validP n (r.map (fun l => ⟨l.toArray⟩)))) := by
  have hdrop : s.data.toList.take (s.data.toList.length - 1) ++ [10] = s.data.toList := by
    unfold Lib.hasSuffix at hs
    rw [List.isSuffixOf_iff_suffix] at hs
    obtain ⟨t, ht⟩ := hs
    rw [← ht]
    simp
  cases he : splitNL (s.data.toList.take (s.data.toList.length - 1)) with
  | nil => exact absurd he (splitNL_ne _)
  | cons h r =>
    refine ⟨h, r, rfl, ?_, ?_⟩
    · rw [← he, fed_split, hdrop]
    · unfold loadP
      rw [if_pos hs]
      have : splitL ⟨(s.data.toList.take (s.data.toList.length - 1)).toArray⟩ = ⟨h.toArray⟩ :: r.map (fun l => (⟨l.toArray⟩ : ByteArray)) := by
        unfold splitL
        rw [show (⟨(s.data.toList.take (s.data.toList.length - 1)).toArray⟩ : ByteArray).data.toList = s.data.toList.take (s.data.toList.length - 1) from rfl, he]
        rfl
      rw [this]
      simp only
      cases numOf (⟨h.toArray⟩ : ByteArray) <;> rfl
theorem bad_no10 : ∀ (l : List ByteArray) (q : Option (List UInt8)), badFrom q l = 0 → ∀ x ∈ l, (10 : UInt8) ∉ x.data.toList ∧ x.size ≤ 4096 ∧ x.data.toList ≠ []
  | [], _, _, x, hx => by cases hx
  | y :: l, q, h, x, hx => by
    simp only [badFrom] at h
    unfold badLine at h
    by_cases h0 : y.data.toList = []
    · rw [if_pos h0] at h; cases h
    rw [if_neg h0] at h
    by_cases h1 : (10 : UInt8) ∈ y.data.toList
    · rw [if_pos h1] at h; cases h
    rw [if_neg h1] at h
    by_cases h2 : 4096 < y.size
    · rw [if_pos h2] at h; cases h
    rw [if_neg h2] at h
    simp only at h
    split at h
    · cases h
    · rcases List.mem_cons.1 hx with rfl | hx
      · exact ⟨h1, by omega, h0⟩
      · exact bad_no10 l _ h x hx
theorem ba_back (x : ByteArray) : (⟨x.data.toList.toArray⟩ : ByteArray) = x := by cases x; simp
theorem load_save (a : Int) (l : List ByteArray) (h : validP a l = 0) : loadP (saveP a l) = (a, l, 0) := by
  have hr : 1 ≤ a ∧ a ≤ 2147483519 ∧ badFrom none l = 0 := by
    have := h
    unfold validP at this
    split at this
    · cases this
    split at this
    · cases this
    split at this
    · cases this
    exact ⟨by omega, by omega, this⟩
  have hno : ∀ x ∈ itoaP a :: l.map (·.data.toList), (10 : UInt8) ∉ x := by
    intro x hx
    rcases List.mem_cons.1 hx with rfl | hx
    · exact itoaP_no10 a (by omega) (by omega)
    · obtain ⟨y, hy, rfl⟩ := List.mem_map.1 hx
      exact (bad_no10 l none hr.2.2 y hy).1
  obtain ⟨p, r, e1, e2, e3⟩ := loadP_is (saveP a l) (by rw [save_fed]; exact fed_end _ _)
  rw [save_fed, split_fed _ _ hno] at e1
  obtain ⟨rfl, rfl⟩ := List.cons.inj e1
  rw [e3, numOf_itoa a hr.1 (by omega)]
  have hm : (l.map (·.data.toList)).map (fun l => (⟨l.toArray⟩ : ByteArray)) = l := by
    rw [List.map_map]
    have : ((fun l : List UInt8 => (⟨l.toArray⟩ : ByteArray)) ∘ fun x : ByteArray => x.data.toList) = id := by
      funext x
      exact ba_back x
    rw [this, List.map_id]
  simp only [hm, h, if_true]
theorem save_load (s : ByteArray) (h : (loadP s).2.2 = 0) : (saveP (loadP s).1 (loadP s).2.1).data.toList = s.data.toList ∧ validP (loadP s).1 (loadP s).2.1 = 0 ∧ ∀ x ∈ (loadP s).2.1, x.size ≤ s.size := by
  by_cases hs : Lib.hasSuffix s.data.toList [10] = true
  · obtain ⟨p, r, e1, e2, e3⟩ := loadP_is s hs
    rw [e3] at h ⊢
    cases hn : numOf ⟨p.toArray⟩ with
    | none => rw [hn] at h; cases h
    | some n =>
      rw [hn] at h
      simp only at h ⊢
      by_cases hv : validP n (r.map (fun l => ⟨l.toArray⟩)) = 0
      · rw [if_pos hv]
        obtain ⟨_, _, hi⟩ := numOf_some hn
        refine ⟨?_, hv, ?_⟩
        · rw [save_fed, e2, hi]
          simp only [List.map_map]
          congr 1
          have : ((fun x : ByteArray => x.data.toList) ∘ fun l : List UInt8 => (⟨l.toArray⟩ : ByteArray)) = id := by
            funext x
            simp
          rw [this, List.map_id]
        · intro x hx
          obtain ⟨y, hy, rfl⟩ := List.mem_map.1 hx
          have h1 := splitNL_sizes _ y (by rw [e1]; exact List.mem_cons_of_mem _ hy)
          have h2 : s.data.toList.length = s.size := rfl
          show (List.toArray y).size ≤ _
          simp at h1 ⊢
          omega
      · rw [if_neg hv] at h
        exact absurd h hv
  · unfold loadP at h
    rw [if_neg hs] at h
    cases h
theorem loadP_rng (s : ByteArray) : 0 ≤ (loadP s).1 ∧ (loadP s).1 ≤ 2147483647 := by
  by_cases hs : Lib.hasSuffix s.data.toList [10] = true
  · obtain ⟨p, r, e1, e2, e3⟩ := loadP_is s hs
    rw [e3]
    cases hn : numOf ⟨p.toArray⟩ with
    | none => simp
    | some n =>
      obtain ⟨h1, h2, _⟩ := numOf_some hn
      simp only
      split
      · exact ⟨by omega, h2⟩
      · simp
  · unfold loadP
    rw [if_neg hs]
    simp
end Go.Proofs.YtihibmcfklddeaaDoor.HL

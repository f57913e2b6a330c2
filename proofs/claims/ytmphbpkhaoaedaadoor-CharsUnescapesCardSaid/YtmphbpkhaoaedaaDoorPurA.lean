import Derived.Test.YtmphbpkhaoaedaaDoorPAx
namespace Go.Proofs.YtmphbpkhaoaedaaDoor.PA
open Go.RowKit Go.Proofs.YtmphbpkhaoaedaaDoorW.PrintWords Go.Proofs.YtmphbpkhaoaedaaDoorW.PrintLast Go.Proofs.YtmphbpkhaoaedaaDoor.Ch
set_option linter.unusedSimpArgs false

theorem bt_nat (s : ByteArray) (i : Nat) (h : i < s.size) : bt s (i : Int) = (s[i].toNat : Int) := by
  have := bt_at s (i : Int) (by simpa using h)
  rw [← this]; simp
theorem wr {x : Int} (h0 : -9223372036854775808 ≤ x) (h1 : x ≤ 9223372036854775807) : wrap64 x = x := by unfold wrap64; omega
theorem wr1 (i : Nat) (h : i ≤ 1000000000000) : wrap64 ((i : Int) + 1) = ((i + 1 : Nat) : Int) := by rw [wr (by omega) (by omega)]; omega
theorem wr2 (i : Nat) (h : i ≤ 1000000000000) : wrap64 ((i : Int) + 2) = ((i + 2 : Nat) : Int) := by rw [wr (by omega) (by omega)]; omega
theorem awake_true : jobshelllaw01_awake.f = some true := by decide +kernel

/-! The classes. -/
theorem digit_eq (c : Int) : jobshellref01_Digit.f c = some (digI c) := by
  unfold jobshellref01_Digit.f digI
  by_cases h : c ≥ 48
  · rw [if_pos h, decide_eq_true h]; simp
  · rw [if_neg h]; simp; omega
theorem letter_eq (c : Int) : jobshellref01_Letter.f c = some (letI' c) := by
  unfold jobshellref01_Letter.f letI'
  repeat' split
  all_goals
    refine congrArg some ?_
    rw [Bool.eq_iff_iff]
    simp
    omega
theorem word_eq (c : UInt8) : jobshellref01_Word.f (c.toNat : Int) = some (nameB c) := by
  unfold jobshellref01_Word.f
  rw [letter_eq, Option.bind_some, nameB_I]
  cases h1 : letI' c.toNat
  · rw [if_neg (by decide), digit_eq, Option.bind_some]
    cases h2 : digI c.toNat
    · rw [if_neg (by decide)]; simp
    · rw [if_pos rfl]; simp
  · rw [if_pos rfl]; simp

/-! Digits. -/
def digRes (l : List UInt8) (n : Int) : Int × Bool := if l.all isDig then (if 2147483647 < digitsN l n then (0, false) else (digitsN l n, true)) else (0, false)
theorem digRes_cons (c : UInt8) (r : List UInt8) (n : Int) : digRes (c :: r) n = if isDig c = true then digRes r (10 * n + ((c.toNat : Int) - 48)) else (0, false) := by
  unfold digRes
  rw [show digitsN (c :: r) n = digitsN r (10 * n + ((c.toNat : Int) - 48)) from rfl]
  cases h : isDig c <;> simp [h]
theorem dig_loop (s : ByteArray) (hs : s.size ≤ 10) (d : Nat) : ∀ (i k : Nat) (n : Int), i + d = s.size → d < k → 0 ≤ n → n < 10 ^ i → jobshellref01_Digits.l0 k s n i = some (digRes (s.data.toList.drop i) n) := by
  induction d with
  | zero =>
    intro i k n hi hk h0 h1
    obtain ⟨k, rfl⟩ : ∃ m, k = m + 1 := ⟨k - 1, by omega⟩
    simp only [jobshellref01_Digits.l0]
    rw [if_neg (by omega), drop_end s i (by omega)]
    unfold digRes
    simp only [List.all_nil, if_true]
    show _ = some (if 2147483647 < n then _ else _)
    by_cases h : n > 2147483647
    · rw [if_pos h, if_pos (by omega)]
    · rw [if_neg h, if_neg (by omega)]; rfl
  | succ d ih =>
    intro i k n hi hk h0 h1
    obtain ⟨k, rfl⟩ : ∃ m, k = m + 1 := ⟨k - 1, by omega⟩
    have hlt : i < s.size := by omega
    simp only [jobshellref01_Digits.l0]
    rw [if_pos (by omega), if_pos (by omega), bt_nat s i hlt, digit_eq, Option.bind_some, drop_cons s i hlt, digRes_cons, isDig_I]
    by_cases h : digI s[i].toNat = true
    · obtain ⟨r1, r2⟩ := digI_range h
      have hp := pow_le9 (k := i) (by omega)
      rw [if_pos h, if_pos h, wr1 i (by omega), wr (x := 10 * n) (by omega) (by omega), wr (by omega) (by omega)]
      rw [show ((s[i].toNat : Int) - 48) % 256 = (s[i].toNat : Int) - 48 by omega]
      exact ih (i + 1) k _ (by omega) (by omega) (by omega) (by rw [Int.pow_succ]; omega)
    · rw [if_neg h, if_neg h]
theorem refDigits_eq (s : ByteArray) (k : Nat) (hk : 20 < k) : jobshellref01_Digits.f k s = some (digitsL s.data.toList) := by
  obtain ⟨k, rfl⟩ : ∃ m, k = m + 1 := ⟨k - 1, by omega⟩
  unfold jobshellref01_Digits.f
  by_cases h0 : s.size = 0
  · obtain rfl := toList_e h0
    rw [if_pos (by rw [ByteArray.toList_eq])]
    rfl
  obtain ⟨_, hn, _⟩ := toList_ne (s := s) (by omega)
  rw [if_neg hn]
  by_cases h10 : 10 < s.size
  · rw [if_pos (by omega)]
    simp only [jobshellref01_Digits.j0]
    rw [if_pos trivial, ← digitsL_bad (.inl h10)]
  have hb0 : bt s 0 = (s[0].toNat : Int) := bt_nat s 0 (by omega)
  rw [if_neg (by omega), if_pos (by omega), hb0]
  by_cases hz : ∃ _ : 1 < s.size, s[0] = 48
  · obtain ⟨h1, h2⟩ := hz
    have hb : (s[0].toNat : Int) = 48 := by rw [h2]; rfl
    rw [if_pos hb, decide_eq_true (by omega)]
    simp only [jobshellref01_Digits.j0]
    rw [if_pos trivial, ← digitsL_bad (.inr ⟨h1, h2⟩)]
  · have hj : ∀ b, b = false → jobshellref01_Digits.j0 (k + 1) s b = some (digitsL s.data.toList) := by
      intro b hb
      subst hb
      simp only [jobshellref01_Digits.j0]
      have hL : jobshellref01_Digits.l0 k s 0 0 = some (digRes (s.data.toList.drop 0) 0) := dig_loop s (by omega) s.size 0 k 0 (by omega) (by omega) (by omega) (by decide)
      rw [if_neg (by decide), hL, List.drop_zero]
      congr 1
      rw [cons_of s (by omega), digitsL_cons]
      unfold digRes
      by_cases ha : (s[0] :: List.drop 1 s.data.toList).all isDig = true
      · have hc : (decide (10 ≤ (List.drop 1 s.data.toList).length) || (decide (0 < (List.drop 1 s.data.toList).length) && s[0] == 48) || !(s[0] :: List.drop 1 s.data.toList).all isDig) = false := by
          rw [ha]
          simp
          exact ⟨by omega, fun h1 h2 => hz ⟨by omega, h2⟩⟩
        rw [if_pos ha, hc]; rfl
      · rw [if_neg ha, if_pos]
        simp only [Bool.not_eq_true] at ha
        rw [ha]; simp
    by_cases hb : (s[0].toNat : Int) = 48
    · rw [if_pos hb]
      refine hj _ (decide_eq_false ?_)
      intro h
      exact hz ⟨by omega, u8_eq_iff.2 hb⟩
    · rw [if_neg hb]
      exact hj _ rfl

/-! Name. -/
theorem name_loop (s : ByteArray) (hs : s.size ≤ 32) (d : Nat) : ∀ (i k : Nat), i + d = s.size → d < k → jobshellref01_Name.l0 k s i = some ((s.data.toList.drop i).all nameB) := by
  induction d with
  | zero =>
    intro i k hi hk
    obtain ⟨k, rfl⟩ : ∃ m, k = m + 1 := ⟨k - 1, by omega⟩
    simp only [jobshellref01_Name.l0]
    rw [if_neg (by omega), drop_end s i (by omega)]; rfl
  | succ d ih =>
    intro i k hi hk
    obtain ⟨k, rfl⟩ : ∃ m, k = m + 1 := ⟨k - 1, by omega⟩
    have hlt : i < s.size := by omega
    simp only [jobshellref01_Name.l0]
    rw [if_pos (by omega), if_pos (by omega), bt_nat s i hlt, word_eq, Option.bind_some, drop_cons s i hlt, List.all_cons]
    cases h : nameB s[i]
    · rw [if_neg (by decide)]; rfl
    · rw [if_pos rfl, wr1 i (by omega), ih (i + 1) k (by omega) (by omega)]; rfl
theorem refName_eq (s : ByteArray) (k : Nat) (hk : 40 < k) : jobshellref01_Name.f k s = some (nameL s.data.toList) := by
  obtain ⟨k, rfl⟩ : ∃ m, k = m + 1 := ⟨k - 1, by omega⟩
  unfold jobshellref01_Name.f
  by_cases h0 : s.size = 0
  · obtain rfl := toList_e h0
    rw [if_pos (by rw [ByteArray.toList_eq])]
    rfl
  obtain ⟨_, hn, _⟩ := toList_ne (s := s) (by omega)
  rw [if_neg hn]
  by_cases h10 : 32 < s.size
  · rw [if_pos (by omega)]
    simp only [jobshellref01_Name.j0]
    rw [if_pos trivial, ← nameL_long h10]
  have hb0 : bt s 0 = (s[0].toNat : Int) := bt_nat s 0 (by omega)
  have hL : jobshellref01_Name.l0 k s 0 = some ((s.data.toList.drop 0).all nameB) := name_loop s (by omega) s.size 0 k (by omega) (by omega)
  rw [if_neg (by omega), if_pos (by omega), hb0, digit_eq, Option.bind_some, ← isDig_I]
  simp only [jobshellref01_Name.j0]
  rw [cons_of s (by omega), nameL_cons, decide_eq_true (by simp; omega)]
  cases h : isDig s[0]
  · rw [if_neg (by decide), hL, List.drop_zero]
    rw [← cons_of s (by omega)]; rfl
  · rw [if_pos rfl]; rfl

/-! Has, Plain. -/
theorem has_loop (t : ByteArray) (c : UInt8) (ht : t.size ≤ 1000) (d : Nat) : ∀ (i k : Nat), i + d = t.size → d < k → jobshellref01_Has.l0 k t (c.toNat : Int) i = some ((t.data.toList.drop i).contains c) := by
  induction d with
  | zero =>
    intro i k hi hk
    obtain ⟨k, rfl⟩ : ∃ m, k = m + 1 := ⟨k - 1, by omega⟩
    simp only [jobshellref01_Has.l0]
    rw [if_neg (by omega), drop_end t i (by omega)]; rfl
  | succ d ih =>
    intro i k hi hk
    obtain ⟨k, rfl⟩ : ∃ m, k = m + 1 := ⟨k - 1, by omega⟩
    have hlt : i < t.size := by omega
    simp only [jobshellref01_Has.l0]
    rw [if_pos (by omega), if_pos (by omega), bt_nat t i hlt, drop_cons t i hlt, List.contains_cons]
    by_cases h : c = t[i]
    · rw [if_pos (by rw [h]), h]; simp
    · rw [if_neg (fun e => h (u8_eq_iff.2 e.symm)), wr1 i (by omega), ih (i + 1) k (by omega) (by omega), beq_eq_false_iff_ne.2 h]; simp
theorem has_eq (l : List UInt8) (c : UInt8) (hl : l.length ≤ 1000) (k : Nat) (hk : l.length < k) : jobshellref01_Has.f k ⟨l.toArray⟩ (c.toNat : Int) = some (l.contains c) := by
  unfold jobshellref01_Has.f
  have hz : (⟨l.toArray⟩ : ByteArray).size = l.length := by simp [ByteArray.size]
  have hL : jobshellref01_Has.l0 k ⟨l.toArray⟩ (c.toNat : Int) 0 = _ := has_loop ⟨l.toArray⟩ c (by omega) l.length 0 k (by omega) hk
  rw [hL]
  simp
theorem okB_has (c : UInt8) : okB c = (nameB c || [45, 46, 47, 44, 58, 43, 37, 64, 94].contains c) := by
  refine u8_all (p := fun c => okB c = (nameB c || [45, 46, 47, 44, 58, 43, 37, 64, 94].contains c)) ?_ c
  decide +kernel
theorem plain_loop (s : ByteArray) (hs : s.size ≤ 1000000) (d : Nat) : ∀ (i k : Nat), i + d = s.size → d + 10 < k → jobshellref01_Plain.l0 k s i = some ((s.data.toList.drop i).all okB && !s.data.toList.isEmpty) := by
  induction d with
  | zero =>
    intro i k hi hk
    obtain ⟨k, rfl⟩ : ∃ m, k = m + 1 := ⟨k - 1, by omega⟩
    simp only [jobshellref01_Plain.l0]
    rw [if_neg (by omega), drop_end s i (by omega), ← not_empty s]; rfl
  | succ d ih =>
    intro i k hi hk
    obtain ⟨k, rfl⟩ : ∃ m, k = m + 1 := ⟨k - 1, by omega⟩
    have hlt : i < s.size := by omega
    simp only [jobshellref01_Plain.l0]
    rw [if_pos (by omega), if_pos (by omega), bt_nat s i hlt, word_eq, Option.bind_some, drop_cons s i hlt, List.all_cons, okB_has, wr1 i (by omega)]
    cases h : nameB s[i]
    · rw [if_neg (by decide), has_eq [45, 46, 47, 44, 58, 43, 37, 64, 94] s[i] (by decide) k (by simp; omega), Option.bind_some]
      cases h2 : [45, 46, 47, 44, 58, 43, 37, 64, 94].contains s[i]
      · rw [if_neg (by decide)]; rfl
      · rw [if_pos rfl, ih (i + 1) k (by omega) (by omega)]; rfl
    · rw [if_pos rfl, ih (i + 1) k (by omega) (by omega)]; rfl
theorem refPlain_eq (s : ByteArray) (hs : s.size ≤ 1000000) (k : Nat) (hk : s.size + 10 < k) : jobshellref01_Plain.f k s = some (plainL s.data.toList) := by
  unfold jobshellref01_Plain.f
  have hL : jobshellref01_Plain.l0 k s 0 = _ := plain_loop s hs s.size 0 k (by omega) hk
  rw [hL, List.drop_zero]; rfl

theorem CharsNames : jobshelllaw01_CharsNames.Pure := by
  intro s _
  unfold jobshelllaw01_CharsNames.f
  by_cases h : (s.size : Int) > 1000
  · exact ⟨0, by rw [if_pos h, awake_true]; rfl⟩
  refine ⟨2000, ?_⟩
  rw [if_neg h, chars_Digits.f, Option.bind_some, refDigits_eq s _ (by omega), Option.bind_some, chars_Name.f, Option.bind_some, refName_eq s _ (by omega), Option.bind_some, if_pos (by simp), if_pos rfl, if_pos (by simp), chars_Plain.f, Option.bind_some, refPlain_eq s (by omega) _ (by omega), Option.bind_some, if_pos (by simp), awake_true]
  rfl
end Go.Proofs.YtmphbpkhaoaedaaDoor.PA

import Derived.Test.YtphgcpoefpogfaaDoorPurG
import Derived.Test.YtphgcpoefpogfaaDoorPSx17
namespace Go.Proofs.YtphgcpoefpogfaaDoor.PQ
open Go.Proofs.YtphgcpoefpogfaaDoor.PS Go.RowKit Go.Proofs.YtphgcpoefpogfaaDoorW.PrintWords Go.Proofs.YtphgcpoefpogfaaDoorW.PrintLast Go.Proofs.YtphgcpoefpogfaaDoor.Ch
set_option linter.unusedSimpArgs false

theorem u8_eq_iff {c d : UInt8} : c = d ↔ (c.toNat : Int) = (d.toNat : Int) := by rw [← UInt8.toNat_inj]; omega
theorem u8_all {p : UInt8 → Prop} (h : ∀ n : Fin 256, p (UInt8.ofNat n.val)) (u : UInt8) : p u := by
  have := h ⟨u.toNat, u.toNat_lt⟩
  simpa using this

theorem bt_nat (s : ByteArray) (i : Nat) (h : i < s.size) : bt s (i : Int) = (s[i].toNat : Int) := by
  have := bt_at s (i : Int) (by simpa using h)
  rw [← this]; simp
theorem wr {x : Int} (h0 : -9223372036854775808 ≤ x) (h1 : x ≤ 9223372036854775807) : wrap64 x = x := by unfold wrap64; omega
theorem wr1 (i : Nat) (h : i ≤ 1000000000000) : wrap64 ((i : Int) + 1) = ((i + 1 : Nat) : Int) := by rw [wr (by omega) (by omega)]; omega
theorem wr2 (i : Nat) (h : i ≤ 1000000000000) : wrap64 ((i : Int) + 2) = ((i + 2 : Nat) : Int) := by rw [wr (by omega) (by omega)]; omega

/-! The classes. -/
theorem digit_eq (c : Int) : jobshellref01_Digit.f c = some (digI c) := by
  unfold jobshellref01_Digit.f digI
  by_cases h : c ≥ 48
  · rw [if_pos h, decide_eq_true h]; simp
  · rw [if_neg h]; simp; omega
theorem letter_eq (c : Int) : jobshellref01_Letter.f c = some (letI' c) := by
  unfold jobshellref01_Letter.f letI'
  repeat' split
  all_goals
    refine congrArg some ?_
    rw [Bool.eq_iff_iff]
    simp
    omega
theorem word_eq (c : UInt8) : jobshellref01_Word.f (c.toNat : Int) = some (nameB c) := by
  unfold jobshellref01_Word.f
  rw [letter_eq, Option.bind_some, nameB_I]
  cases h1 : letI' c.toNat
  · rw [if_neg (by decide), digit_eq, Option.bind_some]
    cases h2 : digI c.toNat
    · rw [if_neg (by decide)]; simp
    · rw [if_pos rfl]; simp
  · rw [if_pos rfl]; simp

/-! Digits. -/
def digRes (l : List UInt8) (n : Int) : Int × Bool := if l.all isDig then (if 2147483647 < digitsN l n then (0, false) else (digitsN l n, true)) else (0, false)
theorem has_loop (t : ByteArray) (c : UInt8) (ht : t.size ≤ 1000) (d : Nat) : ∀ (i k : Nat), i + d = t.size → d < k → jobshellref01_Has.l0 k t (c.toNat : Int) i = some ((t.data.toList.drop i).contains c) := by
  induction d with
  | zero =>
    intro i k hi hk
    obtain ⟨k, rfl⟩ : ∃ m, k = m + 1 := ⟨k - 1, by omega⟩
    simp only [jobshellref01_Has.l0]
    rw [if_neg (by omega), drop_end t i (by omega)]; rfl
  | succ d ih =>
    intro i k hi hk
    obtain ⟨k, rfl⟩ : ∃ m, k = m + 1 := ⟨k - 1, by omega⟩
    have hlt : i < t.size := by omega
    simp only [jobshellref01_Has.l0]
    rw [if_pos (by omega), if_pos (by omega), bt_nat t i hlt, drop_cons t i hlt, List.contains_cons]
    by_cases h : c = t[i]
    · rw [if_pos (by rw [h]), h]; simp
    · rw [if_neg (fun e => h (u8_eq_iff.2 e.symm)), wr1 i (by omega), ih (i + 1) k (by omega) (by omega), beq_eq_false_iff_ne.2 h]; simp
theorem has_eq (l : List UInt8) (c : UInt8) (hl : l.length ≤ 1000) (k : Nat) (hk : l.length < k) : jobshellref01_Has.f k ⟨l.toArray⟩ (c.toNat : Int) = some (l.contains c) := by
  unfold jobshellref01_Has.f
  have hz : (⟨l.toArray⟩ : ByteArray).size = l.length := by simp [ByteArray.size]
  have hL : jobshellref01_Has.l0 k ⟨l.toArray⟩ (c.toNat : Int) 0 = _ := has_loop ⟨l.toArray⟩ c (by omega) l.length 0 k (by omega) hk
  rw [hL]
  simp
theorem okB_has (c : UInt8) : okB c = (nameB c || [45, 46, 47, 44, 58, 43, 37, 64, 94].contains c) := by
  refine u8_all (p := fun c => okB c = (nameB c || [45, 46, 47, 44, 58, 43, 37, 64, 94].contains c)) ?_ c
  decide +kernel
theorem plain_loop (s : ByteArray) (hs : s.size ≤ 1000000) (d : Nat) : ∀ (i k : Nat), i + d = s.size → d + 10 < k → jobshellref01_Plain.l0 k s i = some ((s.data.toList.drop i).all okB && !s.data.toList.isEmpty) := by
  induction d with
  | zero =>
    intro i k hi hk
    obtain ⟨k, rfl⟩ : ∃ m, k = m + 1 := ⟨k - 1, by omega⟩
    simp only [jobshellref01_Plain.l0]
    rw [if_neg (by omega), drop_end s i (by omega), ← not_empty s]; rfl
  | succ d ih =>
    intro i k hi hk
    obtain ⟨k, rfl⟩ : ∃ m, k = m + 1 := ⟨k - 1, by omega⟩
    have hlt : i < s.size := by omega
    simp only [jobshellref01_Plain.l0]
    rw [if_pos (by omega), if_pos (by omega), bt_nat s i hlt, word_eq, Option.bind_some, drop_cons s i hlt, List.all_cons, okB_has, wr1 i (by omega)]
    cases h : nameB s[i]
    · rw [if_neg (by decide), has_eq [45, 46, 47, 44, 58, 43, 37, 64, 94] s[i] (by decide) k (by simp; omega), Option.bind_some]
      cases h2 : [45, 46, 47, 44, 58, 43, 37, 64, 94].contains s[i]
      · rw [if_neg (by decide)]; rfl
      · rw [if_pos rfl, ih (i + 1) k (by omega) (by omega)]; rfl
    · rw [if_pos rfl, ih (i + 1) k (by omega) (by omega)]; rfl
theorem refPlain_eq (s : ByteArray) (hs : s.size ≤ 1000000) (k : Nat) (hk : s.size + 10 < k) : jobshellref01_Plain.f k s = some (plainL s.data.toList) := by
  unfold jobshellref01_Plain.f
  have hL : jobshellref01_Plain.l0 k s 0 = _ := plain_loop s hs s.size 0 k (by omega) hk
  rw [hL, List.drop_zero]; rfl

theorem i_ne {c d : UInt8} (m : Int) (h : ¬ c = d) (hm : (d.toNat : Int) = m) : ¬ (c.toNat : Int) = m := fun e => h (u8_eq_iff.2 (by omega))
/-! Strings as lists of bytes. -/
def mkB (l : List UInt8) : ByteArray := ⟨l.toArray⟩
theorem ba_ext {x y : ByteArray} (h : x.data.toList = y.data.toList) : x = y := by
  cases x; cases y
  exact congrArg _ (Array.toList_inj.1 h)
theorem mkB_data (l : List UInt8) : (mkB l).data.toList = l := rfl
theorem mkB_self (s : ByteArray) : mkB s.data.toList = s := ba_ext rfl
theorem mkB_size (l : List UInt8) : (mkB l).size = l.length := by simp [mkB, ByteArray.size]
theorem mkB_append (a b : List UInt8) : mkB a ++ mkB b = mkB (a ++ b) := ba_ext (by simp [mkB])
theorem mkB_toList (l : List UInt8) : (mkB l).toList = l := by rw [ByteArray.toList_eq]; rfl
theorem ext_at (s : ByteArray) (i j : Nat) : s.extract i j = mkB ((s.data.toList.drop i).take (j - i)) := ba_ext (by rw [Lib.extract_data]; rfl)
theorem ext1 (s : ByteArray) (i : Nat) (h : i < s.size) : s.extract i (i + 1) = mkB [s[i]] := by
  rw [ext_at, drop_cons s i h, show i + 1 - i = 1 by omega]; rfl
theorem toN (i : Nat) : ((i : Nat) : Int).toNat = i := rfl

/-! Quote. -/
theorem quote_loop (s : ByteArray) (hs : s.size ≤ 1000000) (d : Nat) : ∀ (i k : Nat) (acc : List UInt8), i + d = s.size → d < k → acc.length ≤ 4 * i + 1 →
    jobshellref01_Quote.l0 k s (mkB acc) i = some (mkB (acc ++ (s.data.toList.drop i).flatMap quoB ++ [39])) := by
  induction d with
  | zero =>
    intro i k acc hi hk ha
    obtain ⟨k, rfl⟩ : ∃ m, k = m + 1 := ⟨k - 1, by omega⟩
    simp only [jobshellref01_Quote.l0]
    rw [if_neg (by omega), drop_end s i (by omega), if_pos (by rw [mkB_size]; omega), show (⟨#[39]⟩ : ByteArray) = mkB [39] from rfl, mkB_append]
    simp
  | succ d ih =>
    intro i k acc hi hk ha
    obtain ⟨k, rfl⟩ : ∃ m, k = m + 1 := ⟨k - 1, by omega⟩
    have hlt : i < s.size := by omega
    simp only [jobshellref01_Quote.l0]
    rw [if_pos (by omega), if_pos (by omega), bt_nat s i hlt, wr1 i (by omega), toN, toN, drop_cons s i hlt, List.flatMap_cons]
    by_cases h : s[i] = 39
    · rw [if_pos (by rw [h]; rfl), if_pos (by rw [mkB_size]; omega), show (⟨#[39, 92, 39, 39]⟩ : ByteArray) = mkB [39, 92, 39, 39] from rfl, mkB_append, ih (i + 1) k _ (by omega) (by omega) (by simp; omega)]
      rw [quoB, if_pos h]
      simp
    · rw [if_neg (i_ne 39 h rfl), if_pos (by omega), if_pos (by omega), ext1 s i hlt, if_pos (by rw [mkB_size, mkB_size]; simp; omega), mkB_append, ih (i + 1) k _ (by omega) (by omega) (by simp; omega)]
      rw [quoB, if_neg h]
      simp
theorem refQuote_eq (s : ByteArray) (hs : s.size ≤ 1000000) (k : Nat) (hk : s.size + 10 < k) : jobshellref01_Quote.f k s = some (mkB (quoteL s.data.toList)) := by
  unfold jobshellref01_Quote.f
  rw [refPlain_eq s hs k hk, Option.bind_some]
  unfold quoteL
  cases h : plainL s.data.toList
  · have hL : jobshellref01_Quote.l0 k s (mkB [39]) 0 = _ := quote_loop s hs s.size 0 k [39] (by omega) (by omega) (by simp)
    rw [if_neg (by decide), if_neg (by decide), show (⟨#[39]⟩ : ByteArray) = mkB [39] from rfl, hL, List.drop_zero]
  · rw [if_pos rfl, if_pos rfl, mkB_self]
end Go.Proofs.YtphgcpoefpogfaaDoor.PQ

import Derived.Test.YtmphbpkhaoaedaaDoorPurA
namespace Go.Proofs.YtmphbpkhaoaedaaDoor.PA
open Go.RowKit Go.Proofs.YtmphbpkhaoaedaaDoorW.PrintWords Go.Proofs.YtmphbpkhaoaedaaDoorW.PrintLast Go.Proofs.YtmphbpkhaoaedaaDoor.Ch
set_option linter.unusedSimpArgs false

theorem i_ne {c d : UInt8} (m : Int) (h : ¬ c = d) (hm : (d.toNat : Int) = m) : ¬ (c.toNat : Int) = m := fun e => h (u8_eq_iff.2 (by omega))
/-! Strings as lists of bytes. -/
def mkB (l : List UInt8) : ByteArray := ⟨l.toArray⟩
theorem ba_ext {x y : ByteArray} (h : x.data.toList = y.data.toList) : x = y := by
  cases x; cases y
  exact congrArg _ (Array.toList_inj.1 h)
theorem mkB_data (l : List UInt8) : (mkB l).data.toList = l := rfl
theorem mkB_self (s : ByteArray) : mkB s.data.toList = s := ba_ext rfl
theorem mkB_size (l : List UInt8) : (mkB l).size = l.length := by simp [mkB, ByteArray.size]
theorem mkB_append (a b : List UInt8) : mkB a ++ mkB b = mkB (a ++ b) := ba_ext (by simp [mkB])
theorem mkB_toList (l : List UInt8) : (mkB l).toList = l := by rw [ByteArray.toList_eq]; rfl
theorem ext_at (s : ByteArray) (i j : Nat) : s.extract i j = mkB ((s.data.toList.drop i).take (j - i)) := ba_ext (by rw [Lib.extract_data]; rfl)
theorem ext1 (s : ByteArray) (i : Nat) (h : i < s.size) : s.extract i (i + 1) = mkB [s[i]] := by
  rw [ext_at, drop_cons s i h, show i + 1 - i = 1 by omega]; rfl
theorem toN (i : Nat) : ((i : Nat) : Int).toNat = i := rfl

/-! Quote. -/
theorem quote_loop (s : ByteArray) (hs : s.size ≤ 1000000) (d : Nat) : ∀ (i k : Nat) (acc : List UInt8), i + d = s.size → d < k → acc.length ≤ 4 * i + 1 →
    jobshellref01_Quote.l0 k s (mkB acc) i = some (mkB (acc ++ (s.data.toList.drop i).flatMap quoB ++ [39])) := by
  induction d with
  | zero =>
    intro i k acc hi hk ha
    obtain ⟨k, rfl⟩ : ∃ m, k = m + 1 := ⟨k - 1, by omega⟩
    simp only [jobshellref01_Quote.l0]
    rw [if_neg (by omega), drop_end s i (by omega), if_pos (by rw [mkB_size]; omega), show (⟨#[39]⟩ : ByteArray) = mkB [39] from rfl, mkB_append]
    simp
  | succ d ih =>
    intro i k acc hi hk ha
    obtain ⟨k, rfl⟩ : ∃ m, k = m + 1 := ⟨k - 1, by omega⟩
    have hlt : i < s.size := by omega
    simp only [jobshellref01_Quote.l0]
    rw [if_pos (by omega), if_pos (by omega), bt_nat s i hlt, wr1 i (by omega), toN, toN, drop_cons s i hlt, List.flatMap_cons]
    by_cases h : s[i] = 39
    · rw [if_pos (by rw [h]; rfl), if_pos (by rw [mkB_size]; omega), show (⟨#[39, 92, 39, 39]⟩ : ByteArray) = mkB [39, 92, 39, 39] from rfl, mkB_append, ih (i + 1) k _ (by omega) (by omega) (by simp; omega)]
      rw [quoB, if_pos h]
      simp
    · rw [if_neg (i_ne 39 h rfl), if_pos (by omega), if_pos (by omega), ext1 s i hlt, if_pos (by rw [mkB_size, mkB_size]; simp; omega), mkB_append, ih (i + 1) k _ (by omega) (by omega) (by simp; omega)]
      rw [quoB, if_neg h]
      simp
theorem refQuote_eq (s : ByteArray) (hs : s.size ≤ 1000000) (k : Nat) (hk : s.size + 10 < k) : jobshellref01_Quote.f k s = some (mkB (quoteL s.data.toList)) := by
  unfold jobshellref01_Quote.f
  rw [refPlain_eq s hs k hk, Option.bind_some]
  unfold quoteL
  cases h : plainL s.data.toList
  · have hL : jobshellref01_Quote.l0 k s (mkB [39]) 0 = _ := quote_loop s hs s.size 0 k [39] (by omega) (by omega) (by simp)
    rw [if_neg (by decide), if_neg (by decide), show (⟨#[39]⟩ : ByteArray) = mkB [39] from rfl, hL, List.drop_zero]
  · rw [if_pos rfl, if_pos rfl, mkB_self]
theorem quoteL_ne (l : List UInt8) (h : plainL l = false) : quoteL l ≠ l := by
  intro e
  have h1 : (quoteL l).length = l.length := by rw [e]
  have h2 : l.length ≤ (l.flatMap quoB).length := by
    clear e h h1
    induction l with
    | nil => exact Nat.le_refl _
    | cons c r ih =>
      have : 1 ≤ (quoB c).length := by unfold quoB; split <;> simp
      simp only [List.flatMap_cons, List.length_append, List.length_cons]
      omega
  unfold quoteL at h1
  rw [h, if_neg (by decide)] at h1
  simp only [List.length_append, List.length_cons, List.length_nil] at h1
  omega
theorem CharsQuotes : jobshelllaw01_CharsQuotes.Pure := by
  intro s _
  unfold jobshelllaw01_CharsQuotes.f
  by_cases h : (s.size : Int) > 1000
  · exact ⟨0, by rw [if_pos h, awake_true]; rfl⟩
  refine ⟨2000, ?_⟩
  rw [if_neg h, chars_Quote.f, if_pos (by omega), Option.bind_some, refQuote_eq s (by omega) _ (by omega), Option.bind_some, show (⟨(quoteL s.data.toList).toArray⟩ : ByteArray) = mkB (quoteL s.data.toList) from rfl, if_pos rfl, chars_Plain.f, Option.bind_some, mkB_toList, ByteArray.toList_eq]
  rw [if_pos, awake_true]
  · rfl
  · cases hp : plainL s.data.toList
    · rw [beq_eq_false_iff_ne.2 (quoteL_ne _ hp)]; rfl
    · rw [quoteL, if_pos hp]; simp

/-! Unquote. -/
theorem single_loop (s : ByteArray) (hs : s.size ≤ 1000000) (i : Nat) (d : Nat) : ∀ (j k : Nat), j + d = s.size → i + 1 ≤ j → d < k →
    jobshellref01_single.l0 k s i j = if (39 : UInt8) ∈ s.data.toList.drop j then some (mkB ((s.data.toList.drop (i + 1)).take (j - (i + 1) + ((s.data.toList.drop j).takeWhile (· != 39)).length)), ((j + ((s.data.toList.drop j).takeWhile (· != 39)).length + 1 : Nat) : Int), 0) else some (mkB [], 0, 7) := by
  induction d with
  | zero =>
    intro j k hj hij hk
    obtain ⟨k, rfl⟩ : ∃ m, k = m + 1 := ⟨k - 1, by omega⟩
    simp only [jobshellref01_single.l0]
    rw [if_neg (by omega), if_pos (by omega), drop_end s j (by omega), if_neg (by simp)]; rfl
  | succ d ih =>
    intro j k hj hij hk
    obtain ⟨k, rfl⟩ : ∃ m, k = m + 1 := ⟨k - 1, by omega⟩
    have hlt : j < s.size := by omega
    simp only [jobshellref01_single.l0]
    rw [if_pos (by omega), if_pos (by omega), bt_nat s j hlt, wr1 j (by omega), wr1 i (by omega), toN, toN]
    by_cases h : s[j] = 39
    · rw [if_pos (by rw [h]; rfl), if_neg (by omega), if_pos (by omega), if_pos (by omega), if_pos (by omega), ext_at]
      rw [drop_cons s j hlt, h, if_pos (by simp), List.takeWhile_cons_of_neg (by simp)]
      simp
    · rw [if_neg (i_ne 39 h rfl), ih (j + 1) k (by omega) (by omega) (by omega)]
      have e1 : ((39 : UInt8) ∈ s.data.toList.drop j) = ((39 : UInt8) ∈ s.data.toList.drop (j + 1)) := by
        rw [drop_cons s j hlt]; simp [Ne.symm h, fun e : (39 : UInt8) = s[j] => h e.symm]
      have e2 : ((s.data.toList.drop j).takeWhile (· != 39)).length = ((s.data.toList.drop (j + 1)).takeWhile (· != 39)).length + 1 := by
        rw [drop_cons s j hlt, List.takeWhile_cons_of_pos (by simpa using h)]; rfl
      simp only [e1, e2]
      rw [show j + 1 - (i + 1) + ((s.data.toList.drop (j + 1)).takeWhile (· != 39)).length = j - (i + 1) + (((s.data.toList.drop (j + 1)).takeWhile (· != 39)).length + 1) by omega, show j + 1 + ((s.data.toList.drop (j + 1)).takeWhile (· != 39)).length + 1 = j + (((s.data.toList.drop (j + 1)).takeWhile (· != 39)).length + 1) + 1 by omega]
theorem single_eq (s : ByteArray) (hs : s.size ≤ 1000000) (i k : Nat) (hi : i < s.size) (hk : s.size < k) :
    jobshellref01_single.f k s i = if (39 : UInt8) ∈ s.data.toList.drop (i + 1) then some (mkB ((s.data.toList.drop (i + 1)).takeWhile (· != 39)), ((i + ((s.data.toList.drop (i + 1)).takeWhile (· != 39)).length + 2 : Nat) : Int), 0) else some (mkB [], 0, 7) := by
  unfold jobshellref01_single.f
  rw [wr1 i (by omega), single_loop s hs i (s.size - (i + 1)) (i + 1) k (by omega) (by omega) (by omega), show i + 1 - (i + 1) + ((s.data.toList.drop (i + 1)).takeWhile (· != 39)).length = ((s.data.toList.drop (i + 1)).takeWhile (· != 39)).length by omega, take_tw, show i + 1 + ((s.data.toList.drop (i + 1)).takeWhile (· != 39)).length + 1 = i + ((s.data.toList.drop (i + 1)).takeWhile (· != 39)).length + 2 by omega]

/-- What the reference's double hands back for what is read of a double-quoted string. -/
def dblOut (s : ByteArray) (R : List UInt8 × Nat × Int) : ByteArray × Int × Int := if R.2.2 = 0 then (mkB R.1, (s.size : Int) - R.2.1, 0) else (mkB [], 0, R.2.2)
theorem has4 (c : UInt8) (k : Nat) (hk : 4 < k) : jobshellref01_Has.f k (⟨#[36, 96, 34, 92]⟩ : ByteArray) (c.toNat : Int) = some (isDbl c) := by
  have := has_eq [36, 96, 34, 92] c (by decide) k hk
  rw [show (⟨#[36, 96, 34, 92]⟩ : ByteArray) = ⟨[36, 96, 34, 92].toArray⟩ from rfl, this]
  congr 1
  unfold isDbl
  simp only [List.contains_cons, List.contains_nil, Bool.or_false, Bool.or_assoc]
theorem double_loop (s : ByteArray) (hs : s.size ≤ 1000000) (d : Nat) : ∀ (j k : Nat) (acc : List UInt8), j + d = s.size → 3 * d + 10 < k → acc.length ≤ j →
    jobshellref01_double.l0 k s (mkB acc) j = some (dblOut s (pre acc (dbl (s.data.toList.drop j)))) := by
  induction d using Nat.strongRecOn with
  | _ d ih =>
  intro j k acc hj hk ha
  obtain ⟨k, rfl⟩ : ∃ m, k = m + 3 := ⟨k - 3, by omega⟩
  simp only [jobshellref01_double.l0]
  by_cases hlt : j < s.size
  · rw [if_pos (by omega), if_pos (by omega), bt_nat s j hlt]
    simp only [jobshellref01_double.j1]
    by_cases c1 : s[j] = 34
    · have b1 : ((s[j].toNat : Int) != 34) = false := b_eq' c1 rfl
      rw [b1, if_neg (by decide), if_neg (by omega), wr1 j (by omega), drop_cons s j hlt, c1, dbl_34, drop_len]
      unfold pre dblOut
      simp
      omega
    have b1 : ((s[j].toNat : Int) != 34) = true := b_ne' c1 rfl
    rw [b1, if_pos rfl, if_pos (by omega), if_pos (by omega), bt_nat s j hlt]
    simp only [jobshellref01_double.j2]
    by_cases c2 : s[j] = 36 ∨ s[j] = 96
    · have e : pre acc (dbl (s.data.toList.drop j)) = ([], 0, 6) := by rw [drop_cons s j hlt, dbl_66 _ c2]; rfl
      rw [e]
      rcases c2 with c2 | c2
      · rw [if_pos (by rw [c2]; rfl), if_pos trivial]; rfl
      · have b2 : ((s[j].toNat : Int) == 96) = true := b_eq c2 rfl
        rw [if_neg (by rw [c2]; decide), b2, if_pos rfl]; rfl
    obtain ⟨c2a, c2b⟩ := not_or.1 c2
    have b2 : ((s[j].toNat : Int) == 96) = false := b_ne c2b rfl
    rw [if_neg (i_ne 36 c2a rfl), b2, if_neg (by decide), if_pos (by omega), if_pos (by omega), bt_nat s j hlt]
    by_cases c3 : s[j] = 92
    · rw [if_pos (by rw [c3]; rfl), wr1 j (by omega), wr2 j (by omega)]
      by_cases hend : j + 1 = s.size
      · rw [if_pos (by omega), drop_cons s j hlt, c3, drop_end s (j + 1) (by omega), dbl_92e]; rfl
      have hlt1 : j + 1 < s.size := by omega
      rw [if_neg (by omega), if_pos (by omega), if_pos (by omega), bt_nat s (j + 1) hlt1, has4 _ _ (by omega), Option.bind_some, drop_cons s j hlt, drop_cons s (j + 1) hlt1, c3, toN, toN, toN]
      by_cases c4 : isDbl s[j + 1] = true
      · have c5 : ¬ s[j + 1] = 10 := by intro e; rw [e] at c4; exact absurd c4 (by decide)
        rw [if_pos c4, if_pos (by omega), if_pos (by omega), ext1 s (j + 1) hlt1, if_pos (by rw [mkB_size, mkB_size]; simp; omega), mkB_append, ih (d - 2) (by omega) (j + 2) k _ (by omega) (by omega) (by simp; omega), dbl_sp _ c4 c5, pre_pre]
      rw [if_neg c4]
      by_cases c5 : s[j + 1] = 10
      · rw [if_pos (by rw [c5]; rfl), ih (d - 2) (by omega) (j + 2) k _ (by omega) (by omega) (by omega), c5, dbl_10]
      · rw [if_neg (i_ne 10 c5 rfl), if_pos (by omega), if_pos (by omega), ext_at, drop_cons s j hlt, drop_cons s (j + 1) hlt1, show j + 2 - j = 2 by omega, if_pos (by rw [mkB_size, mkB_size]; simp; omega), mkB_append, ih (d - 2) (by omega) (j + 2) k _ (by omega) (by omega) (by simp; omega), dbl_no _ c4 c5]
        rw [c3]
        have c6 : ¬ s[j + 1] = 34 := by intro e; rw [e] at c4; exact c4 (by decide)
        have c7 : ¬ (s[j + 1] = 36 ∨ s[j + 1] = 96) := by rintro (e | e) <;> (rw [e] at c4; exact c4 (by decide))
        have c8 : ¬ s[j + 1] = 92 := by intro e; rw [e] at c4; exact c4 (by decide)
        rw [dbl_other _ c6 c7 c8, pre_pre, pre_pre]
        simp
    · rw [if_neg (i_ne 92 c3 rfl), wr1 j (by omega), if_pos (by omega), if_pos (by omega), toN, toN, ext1 s j hlt, if_pos (by rw [mkB_size, mkB_size]; simp; omega), mkB_append, ih (d - 1) (by omega) (j + 1) k _ (by omega) (by omega) (by simp; omega), drop_cons s j hlt, dbl_other _ c1 c2 c3, pre_pre]
  · rw [if_neg (by omega)]
    simp only [jobshellref01_double.j1]
    rw [if_neg (by decide), if_pos (by omega), drop_end s j hlt]; rfl
theorem double_eq (s : ByteArray) (hs : s.size ≤ 1000000) (i k : Nat) (hi : i < s.size) (hk : 3 * s.size + 10 < k) : jobshellref01_double.f k s i = some (dblOut s (dbl (s.data.toList.drop (i + 1)))) := by
  unfold jobshellref01_double.f
  have hL := double_loop s hs (s.size - (i + 1)) (i + 1) k [] (by omega) (by omega) (by simp)
  rw [dbl_norm] at hL
  rw [wr1 i (by omega)]
  exact hL
end Go.Proofs.YtmphbpkhaoaedaaDoor.PA

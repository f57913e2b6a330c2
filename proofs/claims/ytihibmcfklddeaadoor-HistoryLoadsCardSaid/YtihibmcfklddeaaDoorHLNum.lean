/- The reference's number: what it reads, and that it is the number whose decimal form the line is. -/
import Derived.Test.YtihibmcfklddeaaDoorHLBack
import Derived.Test.YtihibmcfklddeaaDoorHAEx
import Derived.Test.YtihibmcfklddeaaDoorPVx7
namespace Go.Proofs.YtihibmcfklddeaaDoor.PV
set_option linter.unusedVariables false
set_option linter.unusedSimpArgs false
open Go.RowKit Go.Proofs.YtihibmcfklddeaaDoorW.PrintWords Go.Proofs.YtihibmcfklddeaaDoorW.PrintLast Go.Proofs.YtihibmcfklddeaaDoorW.PrintMore Go.Proofs.YtihibmcfklddeaaDoor.PE Go.Proofs.YtihibmcfklddeaaDoor.HL
def isDigB (c : UInt8) : Bool := decide (48 ≤ c.toNat) && decide (c.toNat ≤ 57)
def valD : List UInt8 → Nat → Nat
  | [], a => a
  | c :: r, a => valD r (a * 10 + (c.toNat - 48))
def capV (v : Nat) : Int := if 2147483647 < v then 0 else v
def numT (l : List UInt8) (n : Nat) : Int := match l.all isDigB with | true => capV (valD l n) | false => 0
theorem numT_bad {c : UInt8} {r : List UInt8} {n : Nat} (h : isDigB c = false) : numT (c :: r) n = 0 := by
  unfold numT
  rw [List.all_cons, h]
  rfl
theorem numT_ok {c : UInt8} {r : List UInt8} {n : Nat} (h : isDigB c = true) : numT (c :: r) n = numT r (n * 10 + (c.toNat - 48)) := by
  unfold numT
  rw [List.all_cons, h]
  rfl
def numV (h : List UInt8) : Int := if h = [] then 0 else if 10 < h.length then 0 else if h.head? = some 48 then 0 else numT h 0
theorem isDigB_iff {c : UInt8} : isDigB c = true ↔ 48 ≤ c.toNat ∧ c.toNat ≤ 57 := by unfold isDigB; simp
theorem number_l0 (h : ByteArray) (hh : h.size ≤ 10) : ∀ (d i : Nat), i + d = h.size → ∀ n : Nat, n < 10 ^ i → Evt (fun k => jobshellref43_number.l0 k h (n : Int) (i : Int)) (numT (h.data.toList.drop i) n)
  | 0, i, hi, n, hn => by
    have hl : h.data.toList.length = h.size := rfl
    refine Evt.shift ?_
    simp only [jobshellref43_number.l0]
    refine Evt.ite_neg (by omega) ?_
    rw [List.drop_eq_nil_of_le (by omega)]
    show Evt _ (capV n)
    unfold capV
    by_cases hb : 2147483647 < n
    · rw [if_pos hb]; exact Evt.ite_pos (by omega) (Evt.pure' _)
    · rw [if_neg hb]; exact Evt.ite_neg (by omega) (Evt.pure' _)
  | d + 1, i, hi, n, hn => by
    have hl : h.data.toList.length = h.size := rfl
    have hlt : i < h.size := by omega
    have hp : 10 ^ i ≤ 10 ^ 9 := Nat.pow_le_pow_right (by decide) (by omega)
    refine Evt.shift ?_
    simp only [jobshellref43_number.l0, bt_nat h i hlt]
    refine Evt.ite_pos (by omega) (Evt.ite_pos (by omega) ?_)
    rw [List.drop_eq_getElem_cons (show i < h.data.toList.length from hlt)]
    have hc := (h.data.toList[i]'hlt).toNat_lt
    by_cases h1 : (h.data.toList[i]'hlt).toNat < 48
    · refine Evt.ite_pos (by omega) ?_
      have : isDigB (h.data.toList[i]'hlt) = false := Bool.eq_false_iff.2 fun e => by have := isDigB_iff.1 e; omega
      rw [numT_bad this]
      exact Evt.pure' _
    refine Evt.ite_neg (by omega) ?_
    by_cases h2 : 57 < (h.data.toList[i]'hlt).toNat
    · refine Evt.ite_pos (by omega) ?_
      have : isDigB (h.data.toList[i]'hlt) = false := Bool.eq_false_iff.2 fun e => by have := isDigB_iff.1 e; omega
      rw [numT_bad this]
      exact Evt.pure' _
    refine Evt.ite_neg (by omega) ?_
    have hd : isDigB (h.data.toList[i]'hlt) = true := isDigB_iff.2 ⟨by omega, by omega⟩
    have e1 : wrap64 ((wrap64 ((n : Int) * 10)) + ((((h.data.toList[i]'hlt).toNat : Int) - 48) % 256)) = ((n * 10 + ((h.data.toList[i]'hlt).toNat - 48) : Nat) : Int) := by
      rw [wr (x := (n : Int) * 10) (by omega) (by omega), Int.emod_eq_of_lt (by omega) (by omega), wr (by omega) (by omega)]
      omega
    have e2 : wrap64 ((i : Int) + 1) = ((i + 1 : Nat) : Int) := by rw [wr (by omega) (by omega)]; simp
    rw [numT_ok hd]
    simp only [e1, e2]
    exact number_l0 h hh d (i + 1) (by omega) _ (by rw [Nat.pow_succ]; omega)
theorem number_ev (h : ByteArray) (hs : h.size ≤ 4611686018427387904) : Evt (fun k => jobshellref43_number.f k h) (numV h.data.toList) := by
  have hl : h.data.toList.length = h.size := rfl
  have zero : Evt (fun k => jobshellref43_number.j0 k h true) 0 := by
    refine Evt.shift ?_
    simp only [jobshellref43_number.j0]
    exact Evt.ite_pos trivial (Evt.pure' _)
  unfold jobshellref43_number.f numV
  simp only [toL]
  by_cases h0 : h.data.toList = []
  · rw [if_pos h0]; exact Evt.ite_pos h0 zero
  rw [if_neg h0]
  refine Evt.ite_neg h0 ?_
  have hpos : 0 < h.data.toList.length := List.length_pos_iff.2 h0
  by_cases h1 : 10 < h.data.toList.length
  · rw [if_pos h1]; exact Evt.ite_pos (by omega) zero
  rw [if_neg h1]
  refine Evt.ite_neg (by omega) (Evt.ite_pos (by omega) ?_)
  have hb := bt_nat h 0 (by omega)
  rw [show ((0 : Nat) : Int) = 0 from rfl] at hb
  rw [hb]
  have hh : h.data.toList.head? = some (h.data.toList[0]'hpos) := by rw [List.head?_eq_getElem?, List.getElem?_eq_getElem hpos]
  rw [hh]
  by_cases h2 : h.data.toList[0]'hpos = 48
  · rw [if_pos (by rw [h2])]
    rw [h2]
    exact zero
  · rw [if_neg (by simpa using h2)]
    have hne : (((h.data.toList[0]'hpos).toNat : Int) == 48) = false := beq_eq_false_iff_ne.2 fun e => h2 (UInt8.toNat_inj.1 (show (h.data.toList[0]'hpos).toNat = (48 : UInt8).toNat from Int.ofNat_inj.1 e))
    rw [hne]
    refine Evt.shift ?_
    simp only [jobshellref43_number.j0]
    refine Evt.ite_neg (by decide) ?_
    have := number_l0 h (by omega) h.size 0 (by omega) 0 (by decide)
    rw [List.drop_zero] at this
    exact this

theorem valD_snoc : ∀ (l : List UInt8) (c : UInt8) (a : Nat), valD (l ++ [c]) a = valD l a * 10 + (c.toNat - 48)
  | [], c, a => rfl
  | x :: l, c, a => by simp only [List.cons_append, valD, valD_snoc l c]
theorem valD_ge : ∀ (l : List UInt8) (a : Nat), a ≤ valD l a
  | [], a => Nat.le_refl _
  | c :: r, a => by
    have := valD_ge r (a * 10 + (c.toNat - 48))
    simp only [valD]
    omega
theorem dec_val (m : Nat) : ∀ h : List UInt8, h.length ≤ m → h ≠ [] → h.head? ≠ some 48 → h.all isDigB = true → 1 ≤ valD h 0 ∧ Lib.decDigits (valD h 0) = h := by
  induction m with
  | zero =>
    intro h hm hn
    exact absurd (List.eq_nil_of_length_eq_zero (Nat.le_zero.1 hm)) hn
  | succ m ih =>
    intro h hm hn h0 hd
    rcases List.eq_nil_or_concat h with rfl | ⟨l, c, rfl⟩
    · exact absurd rfl hn
    rw [List.concat_eq_append] at hm h0 hd ⊢
    rw [List.all_append, Bool.and_eq_true] at hd
    have hc := isDigB_iff.1 (show isDigB c = true by simpa using hd.2)
    have hcb : UInt8.ofNat (48 + (c.toNat - 48)) = c := by
      rw [show 48 + (c.toNat - 48) = c.toNat by omega]
      simp
    rw [valD_snoc]
    by_cases hl : l = []
    · subst hl
      have hc0 : c ≠ 48 := fun e => h0 (by rw [e]; rfl)
      have hc1 : c.toNat ≠ 48 := fun e => hc0 (UInt8.toNat_inj.1 e)
      simp only [valD, List.nil_append]
      refine ⟨by omega, ?_⟩
      rw [Lib.decDigits, dif_pos (by omega), show 0 * 10 + (c.toNat - 48) = c.toNat - 48 by omega, hcb]
    · have h0' : l.head? ≠ some 48 := by
        cases l with
        | nil => exact absurd rfl hl
        | cons y l => simpa using h0
      obtain ⟨i1, i2⟩ := ih l (by simp at hm; omega) hl h0' hd.1
      refine ⟨by omega, ?_⟩
      rw [Lib.decDigits, dif_neg (by omega), show (valD l 0 * 10 + (c.toNat - 48)) / 10 = valD l 0 by omega, i2, show (valD l 0 * 10 + (c.toNat - 48)) % 10 = c.toNat - 48 by omega, hcb]
theorem dec_len : ∀ (k u : Nat), u < 10 ^ (k + 1) → (Lib.decDigits u).length ≤ k + 1
  | 0, u, h => by
    rw [Lib.decDigits, dif_pos (by simpa using h)]
    simp
  | k + 1, u, h => by
    rw [Lib.decDigits]
    split
    · simp
    · have := dec_len k (u / 10) (by rw [Nat.pow_succ] at h; omega)
      simp only [List.length_append, List.length_singleton]
      omega
theorem dec_head (u : Nat) (hu : 1 ≤ u) : (Lib.decDigits u).head? ≠ some 48 := by
  induction u using Nat.strongRecOn with
  | _ u ih =>
    rw [Lib.decDigits]
    split
    · rename_i h
      intro e
      simp only [List.head?_cons, Option.some.injEq] at e
      have := congrArg UInt8.toNat e
      rw [dig_byte u h] at this
      have h48 : (48 : UInt8).toNat = 48 := rfl
      omega
    · have h1 := ih (u / 10) (by omega) (by omega)
      have hne := dec_ne (u / 10)
      revert h1 hne
      generalize Lib.decDigits (u / 10) = l
      intro h1 hne
      cases l with
      | nil => exact absurd rfl hne
      | cons y l => simpa using h1
theorem dec_all (u : Nat) : (Lib.decDigits u).all isDigB = true := List.all_eq_true.2 fun c hc => isDigB_iff.2 (dec_digit u c hc)
theorem val_dec (u : Nat) : valD (Lib.decDigits u) 0 = u := by
  induction u using Nat.strongRecOn with
  | _ u ih =>
    rw [Lib.decDigits]
    split
    · rename_i h
      simp only [valD, dig_byte u h]
      omega
    · rw [valD_snoc, ih (u / 10) (by omega), dig_byte _ (by omega)]
      omega
/-- Both readings of the first line are one. -/
theorem num_same (h : ByteArray) : numOf h = if numV h.data.toList = 0 then none else some (numV h.data.toList) := by
  have hform : ∀ n, numOf h = some n → numV h.data.toList = n ∧ n ≠ 0 := by
    intro n hn
    obtain ⟨h1, h2, h3⟩ := numOf_some hn
    rw [itoaP_dec n (by omega) (by omega)] at h3
    refine ⟨?_, by omega⟩
    rw [← h3]
    unfold numV
    have hlen := dec_len 9 n.toNat (by omega)
    rw [if_neg (dec_ne _), if_neg (by omega), if_neg (dec_head _ (by omega))]
    unfold numT
    rw [dec_all, val_dec]
    show capV n.toNat = n
    unfold capV
    rw [if_neg (by omega)]
    omega
  by_cases hz : numV h.data.toList = 0
  · rw [if_pos hz]
    cases hn : numOf h with
    | none => rfl
    | some n =>
      obtain ⟨e1, e2⟩ := hform n hn
      exact absurd (e1.symm.trans hz) e2
  · rw [if_neg hz]
    have hv : numV h.data.toList = numV h.data.toList := rfl
    unfold numV at hz
    by_cases c0 : h.data.toList = []
    · rw [if_pos c0] at hz; exact absurd rfl hz
    rw [if_neg c0] at hz
    by_cases c1 : 10 < h.data.toList.length
    · rw [if_pos c1] at hz; exact absurd rfl hz
    rw [if_neg c1] at hz
    by_cases c2 : h.data.toList.head? = some 48
    · rw [if_pos c2] at hz; exact absurd rfl hz
    rw [if_neg c2] at hz
    cases c3 : h.data.toList.all isDigB with
    | true =>
      unfold numT at hz
      rw [c3] at hz
      obtain ⟨d1, d2⟩ := dec_val h.data.toList.length h.data.toList (Nat.le_refl _) c0 c2 c3
      have hz' : capV (valD h.data.toList 0) ≠ 0 := hz
      unfold capV at hz'
      by_cases c4 : 2147483647 < valD h.data.toList 0
      · rw [if_pos c4] at hz'; exact absurd rfl hz'
      · have hn : numV h.data.toList = ((valD h.data.toList 0 : Nat) : Int) := by
          unfold numV numT
          rw [if_neg c0, if_neg c1, if_neg c2, c3]
          show capV _ = _
          unfold capV
          rw [if_neg c4]
        rw [hn]
        have := numOf_itoa ((valD h.data.toList 0 : Nat) : Int) (by omega) (by omega)
        rw [itoaP_dec _ (by omega) (by omega), Int.toNat_natCast, d2, ba_back] at this
        exact this
    | false =>
      unfold numT at hz
      rw [c3] at hz
      exact absurd rfl hz
end Go.Proofs.YtihibmcfklddeaaDoor.PV

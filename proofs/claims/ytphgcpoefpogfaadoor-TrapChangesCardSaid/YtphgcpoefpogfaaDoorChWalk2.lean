import Derived.Test.YtphgcpoefpogfaaDoorChWalk1
import Derived.Lib.Strings
namespace Go.Proofs.YtphgcpoefpogfaaDoor.Ch
open Go.RowKit

/-! The classes at bytes. -/
theorem u8le (a b : UInt8) : decide (a ≤ b) = decide ((a.toNat : Int) ≤ (b.toNat : Int)) := by
  simp [UInt8.le_iff_toNat_le]
theorem u8eq (a b : UInt8) : (a == b) = decide ((a.toNat : Int) = (b.toNat : Int)) := by
  by_cases h : a = b
  · subst h; simp
  · have : a.toNat ≠ b.toNat := fun e => h (UInt8.toNat_inj.1 e)
    rw [beq_eq_false_iff_ne.2 h]
    exact (decide_eq_false (by omega)).symm
theorem isDig_I (c : UInt8) : isDig c = digI c.toNat := by unfold isDig digI; rw [u8le, u8le]; rfl
theorem isLet_I (c : UInt8) : isLet c = letI' c.toNat := by unfold isLet letI'; rw [u8le, u8le, u8le, u8le]; rfl
theorem isHarm_I (c : UInt8) : isHarm c = harmI c.toNat := by
  unfold isHarm harmI
  simp only [u8eq]
  simp [Bool.beq_eq_decide_eq]

theorem high_not (n : Int) (h : 128 ≤ n) : digI n = false ∧ letI' n = false ∧ harmI n = false := by
  refine ⟨?_, ?_, ?_⟩
  · unfold digI; simp; omega
  · unfold letI'; simp; omega
  · unfold harmI; simp; omega

theorem take_snoc (s : ByteArray) (k : Nat) (h : k < s.size) : s.data.toList.take (k + 1) = s.data.toList.take k ++ [s[k]] := by
  rw [List.take_succ_eq_append_getElem (by simpa using h)]; rfl
theorem drop_cons (s : ByteArray) (k : Nat) (h : k < s.size) : s.data.toList.drop k = s[k] :: s.data.toList.drop (k + 1) := by
  rw [List.drop_eq_getElem_cons (by simpa using h)]; rfl
theorem drop_end (s : ByteArray) (k : Nat) (h : ¬ k < s.size) : s.data.toList.drop k = [] := List.drop_eq_nil_of_le (by simpa using Nat.le_of_not_lt h)
theorem take_all (s : ByteArray) (k : Nat) (h : ¬ k < s.size) : s.data.toList.take k = s.data.toList := List.take_of_length_le (by simpa using Nat.le_of_not_lt h)
theorem all_at (p : UInt8 → Bool) (s : ByteArray) (k : Nat) (h : k < s.size) (hp : p s[k] = false) : s.data.toList.all p = false := by
  rw [List.all_eq_false]
  exact ⟨s[k], by rw [← List.take_append_drop k s.data.toList, drop_cons s k h]; simp, by simp [hp]⟩
theorem rune_pos (s : ByteArray) (pos : Nat) (h : pos < s.size) : 1 ≤ (Utf8.decode s pos).2 := by
  by_cases ha : (s[pos]'h).toNat < 128
  · rw [decode_ascii s pos h ha]
    exact Nat.le_refl _
  · exact (decode_high s pos h (by omega)).2

theorem okB_I (c : UInt8) : okB c = (letI' c.toNat || digI c.toNat || harmI c.toNat) := by unfold okB; rw [isLet_I, isDig_I, isHarm_I]
theorem nameB_I (c : UInt8) : nameB c = (letI' c.toNat || digI c.toNat || (c.toNat : Int) == 95) := by
  unfold nameB; rw [isLet_I, isDig_I, u8eq]; simp [Bool.beq_eq_decide_eq]

theorem toList_nil (s : ByteArray) : (s.toList = []) ↔ s.data.toList = [] := by rw [ByteArray.toList_eq s]
end Go.Proofs.YtphgcpoefpogfaaDoor.Ch

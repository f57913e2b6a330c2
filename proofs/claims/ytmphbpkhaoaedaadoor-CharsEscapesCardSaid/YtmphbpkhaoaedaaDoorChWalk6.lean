import Derived.Test.YtmphbpkhaoaedaaDoorChWalk5
import Derived.Test.YtmphbpkhaoaedaaDoorBld
import Derived.Test.YtmphbpkhaoaedaaDoorShelf
namespace Go.Proofs.YtmphbpkhaoaedaaDoor.Ch
open Go.RowKit

theorem bc_snoc (l : List UInt8) (c : UInt8) : Lib.byteCells l ++ [Value.int .u8 (c.toNat : Int)] = Lib.byteCells (l ++ [c]) := by simp [Lib.byteCells]
theorem bc_str (l m : List UInt8) : Lib.byteCells l ++ Lib.strCells ⟨m.toArray⟩ = Lib.byteCells (l ++ m) := by simp [Lib.byteCells, Lib.strCells]
theorem escapeL_snoc (l : List UInt8) (c : UInt8) : escapeL (l ++ [c]) = escapeL l ++ escB c := by simp [escapeL]
theorem escB_len (c : UInt8) : (escB c).length ≤ 4 := by
  unfold escB
  repeat' split
  all_goals simp
theorem escapeL_len (l : List UInt8) : (escapeL l).length ≤ 4 * l.length := by
  induction l with
  | nil => simp [escapeL]
  | cons c r ih =>
    have := escB_len c
    simp only [escapeL, List.flatMap_cons, List.length_append, List.length_cons] at ih ⊢
    omega
theorem escapeTo_len (s : ByteArray) (k : Nat) : (escapeL (s.data.toList.take k)).length ≤ 4 * k := by
  refine Nat.le_trans (escapeL_len _) ?_
  have : (s.data.toList.take k).length ≤ k := List.length_take_le _ _
  omega
abbrev BT : Nat := 40
/-- A builder in the block b that holds the bytes l, in a world that is as w below b. -/
def Has (w : World) (l : List UInt8) (wr : World) : Prop := Lib.IsBuilder BT 5 w.heap.size w.heap.size (Lib.byteCells l) wr ∧ Below w.heap.size w wr
theorem has_fresh (w : World) : Has w [] (w.alloc (.cells #[.pointer none, .slice none 0 0] BT)) :=
  ⟨Lib.fresh_isBuilder BT 5 w, (Below.refl _ w).alloc (Nat.le_refl _) _⟩

theorem writeByte_any (w W : World) (l : List UInt8) (c : Int) (u : UInt8) (hc : c = (u.toNat : Int)) (h : Has w l W) (hl : l.length ≤ 100000000000000) :
    Calls Tryd.prog 35 #[.pointer (some ⟨w.heap.size, 0, none⟩), .int .u8 c] W fun e w' => e = .returned .nilIface ∧ Hid (Has w (l ++ [u]) w') := by
  refine (Tryd.b_WriteByte w.heap.size w.heap.size _ c W h.1 (by rw [Lib.byteCells_length]; omega) h.2.size).mono ?_
  rintro e w' ⟨he, h1, hb⟩
  subst hc
  rw [bc_snoc] at h1
  exact ⟨he, .inr h1, h.2.trans hb⟩
theorem writeString_any (w W : World) (l m : List UInt8) (t : ByteArray) (ht : t.data.toList = m) (h : Has w l W) (hl : l.length + m.length ≤ 100000000000000) :
    Calls Tryd.prog 33 #[.pointer (some ⟨w.heap.size, 0, none⟩), .string t] W fun e w' => e = .returned (.tuple #[.int .i64 t.size, .nilIface]) ∧ Hid (Has w (l ++ m) w') := by
  subst ht
  have hsz := Lib.size_eq t
  refine (Tryd.b_WriteString w.heap.size w.heap.size _ t W h.1 (by rw [Lib.byteCells_length]; omega) h.2.size).mono ?_
  rintro e w' ⟨he, h1, hb⟩
  rw [Lib.strCells_eq, ← Lib.byteCells_append] at h1
  exact ⟨he, .inr h1, h.2.trans hb⟩
theorem string_any (w W : World) (l : List UInt8) (h : Has w l W) :
    Calls Tryd.prog 36 #[.pointer (some ⟨w.heap.size, 0, none⟩)] W fun e w' => e = .returned (.string ⟨l.toArray⟩) ∧ Below w.heap.size w w' := by
  refine (Tryd.Builder_String_any w.heap.size w.heap.size l W h.1 h.2.size).mono ?_
  rintro e w' ⟨he, hb⟩
  exact ⟨he, h.2.trans hb⟩
theorem u8_facts (c : UInt8) : 0 ≤ (c.toNat : Int) ∧ (c.toNat : Int) ≤ 255 := by have := c.toNat_lt; omega
theorem u8_eq_iff {c d : UInt8} : c = d ↔ (c.toNat : Int) = (d.toNat : Int) := by rw [← UInt8.toNat_inj]; omega
theorem hexAt (n : Nat) (m : UInt8) (hm : n = m.toNat) (h : n < 16) {q : n < (⟨#[48, 49, 50, 51, 52, 53, 54, 55, 56, 57, 97, 98, 99, 100, 101, 102]⟩ : ByteArray).size} :
    (((⟨#[48, 49, 50, 51, 52, 53, 54, 55, 56, 57, 97, 98, 99, 100, 101, 102]⟩ : ByteArray)[n]'q).toNat : Int) = ((hexD m).toNat : Int) := by
  have : m = 0 ∨ m = 1 ∨ m = 2 ∨ m = 3 ∨ m = 4 ∨ m = 5 ∨ m = 6 ∨ m = 7 ∨ m = 8 ∨ m = 9 ∨ m = 10 ∨ m = 11 ∨ m = 12 ∨ m = 13 ∨ m = 14 ∨ m = 15 := by
    simp only [← UInt8.toNat_inj]
    simp
    omega
  rcases this with h | h | h | h | h | h | h | h | h | h | h | h | h | h | h | h <;> subst h <;> subst hm <;> rfl

set_option maxHeartbeats 4000000 in
set_option maxRecDepth 100000 in
theorem escape_walk (s : ByteArray) (w : World) (hs : s.size ≤ 10000000000) :
    Calls Tryd.prog 21 #[.string s] w fun e w' => e = .returned (.string ⟨(escapeL s.data.toList).toArray⟩) ∧ Below w.heap.size w w' := by
  go_enter Tryd.func21, Tryd.ntmps21
  go_wp2
  go_loopw [4] (fun v wr => ∃ k : Nat, v = .int .i64 k ∧ k ≤ s.size ∧ Hid (Has w (escapeL (s.data.toList.take k)) wr)) (fun v _ => s.size - (intOf v).toNat)
  case atStart => exact ⟨0, rfl, Nat.zero_le _, has_fresh w⟩
  case round =>
    obtain ⟨k, rfl, hk, hH⟩ := hrel
    have hl := escapeTo_len s k
    by_cases hlt : k < s.size
    · obtain ⟨r0, r1⟩ := u8_facts s[k]
      have hts := take_snoc s k hlt
      have HS : Hid (escapeL (s.data.toList.take (k + 1)) = escapeL (s.data.toList.take k) ++ escB s[k]) := by rw [hts, escapeL_snoc]; exact rfl
      clear hts
      by_cases c1 : s[k] = 10
      · have b1 : ((s[k].toNat : Int) == 10) = true := by rw [c1]; rfl
        have E : Hid (escB s[k] = [92, 110]) := by rw [c1]; exact rfl
        clear c1
        go_wp2_with (go_at_call 33; refine (writeString_any w _ _ [92, 110] _ rfl hH (by simp; omega)).mono ?_; rintro e w' ⟨rfl, h2⟩)
        go_roundw
        case rel => exact ⟨k + 1, by go_num, by omega, by rw [HS.out, E.out]; exact h2⟩
        case measure => simp [intOf]; omega
      have b1 : ((s[k].toNat : Int) == 10) = false := by rw [beq_eq_false_iff_ne]; intro e; exact c1 (u8_eq_iff.2 e)
      by_cases c2 : s[k] = 9
      · have b2 : ((s[k].toNat : Int) == 9) = true := by rw [c2]; rfl
        have E : Hid (escB s[k] = [92, 116]) := by rw [c2]; exact rfl
        clear c2
        go_wp2_with (go_at_call 33; refine (writeString_any w _ _ [92, 116] _ rfl hH (by simp; omega)).mono ?_; rintro e w' ⟨rfl, h2⟩)
        go_roundw
        case rel => exact ⟨k + 1, by go_num, by omega, by rw [HS.out, E.out]; exact h2⟩
        case measure => simp [intOf]; omega
      have b2 : ((s[k].toNat : Int) == 9) = false := by rw [beq_eq_false_iff_ne]; intro e; exact c2 (u8_eq_iff.2 e)
      by_cases c3 : s[k] = 92
      · have b3 : ((s[k].toNat : Int) == 92) = true := by rw [c3]; rfl
        have E : Hid (escB s[k] = [92, 92]) := by rw [c3]; exact rfl
        clear c3
        go_wp2_with (go_at_call 33; refine (writeString_any w _ _ [92, 92] _ rfl hH (by simp; omega)).mono ?_; rintro e w' ⟨rfl, h2⟩)
        go_roundw
        case rel => exact ⟨k + 1, by go_num, by omega, by rw [HS.out, E.out]; exact h2⟩
        case measure => simp [intOf]; omega
      have b3 : ((s[k].toNat : Int) == 92) = false := by rw [beq_eq_false_iff_ne]; intro e; exact c3 (u8_eq_iff.2 e)
      by_cases c4 : (s[k].toNat : Int) < 32 ∨ 126 < (s[k].toNat : Int)
      · have E : Hid (escB s[k] = (([92, 120] ++ [hexD (s[k] / 16)]) ++ [hexD (s[k] % 16)])) := by
          have h4 : ((s[k] < 32 || 126 < s[k]) = true) := by simp [UInt8.lt_iff_toNat_lt]; omega
          unfold escB
          rw [if_neg c1, if_neg c2, if_neg c3, if_pos h4]; exact rfl
        clear c1 c2 c3
        have c4' : (s[k].toNat : Int) < 32 ∨ (¬ (s[k].toNat : Int) < 32 ∧ 126 < (s[k].toNat : Int)) := by omega
        clear c4
        rcases c4' with c4 | ⟨c5, c4⟩
        all_goals
          go_wp2_with (go_at_call 33; refine (writeString_any w _ _ [92, 120] _ rfl hH (by simp; omega)).mono ?_; rintro e w1 ⟨rfl, h2⟩)
          refine (writeByte_any w _ _ _ (hexD (s[k] / 16)) (hexAt _ _ (by rw [UInt8.toNat_div]; rfl) (by omega)) h2 (by simp; omega)).mono ?_
          rintro e w2 ⟨rfl, h3⟩
          go_wp2_with fail
          refine (writeByte_any w _ _ _ (hexD (s[k] % 16)) (hexAt _ _ (by rw [UInt8.toNat_mod]; rfl) (by omega)) h3 (by simp; omega)).mono ?_
          rintro e w3 ⟨rfl, h4⟩
          go_wp2
          go_roundw
          case rel => exact ⟨k + 1, by go_num, by omega, by rw [HS.out, E.out]; rw [List.append_assoc, List.append_assoc] at h4; rw [List.append_assoc]; exact h4⟩
          case measure => simp [intOf]; omega
      · have E : Hid (escB s[k] = [s[k]]) := by
          have h4 : ¬ ((s[k] < 32 || 126 < s[k]) = true) := by simp [UInt8.lt_iff_toNat_lt]; omega
          unfold escB
          rw [if_neg c1, if_neg c2, if_neg c3, if_neg h4]; exact rfl
        have c4a : ¬ (s[k].toNat : Int) < 32 := by omega
        have c4b : ¬ 126 < (s[k].toNat : Int) := by omega
        clear c1 c2 c3 c4
        go_wp2_with (go_at_call 35; refine (writeByte_any w _ _ _ s[k] rfl hH (by omega)).mono ?_; rintro e w' ⟨rfl, h2⟩)
        go_roundw
        case rel => exact ⟨k + 1, by go_num, by omega, by rw [HS.out, E.out]; exact h2⟩
        case measure => simp [intOf]; omega
    · go_wp2_with (go_at_call 36; refine (string_any w _ _ hH).mono ?_; rintro e w' ⟨rfl, h2⟩)
      go_ret
      rw [take_all s k hlt]
      exact ⟨rfl, h2⟩
end Go.Proofs.YtmphbpkhaoaedaaDoor.Ch

import Derived.Test.YtmphbpkhaoaedaaDoorChWalk4
namespace Go.Proofs.YtmphbpkhaoaedaaDoor.Ch
open Go.RowKit

theorem digitsN_snoc (l : List UInt8) (c : UInt8) : digitsN (l ++ [c]) 0 = 10 * digitsN l 0 + ((c.toNat : Int) - 48) := by simp [digitsN]
def DigTo (s : ByteArray) (k : Nat) (n : Int) : Prop := (s.data.toList.take k).all isDig = true ∧ digitsN (s.data.toList.take k) 0 = n
theorem digTo_zero (s : ByteArray) : DigTo s 0 0 := by simp [DigTo, digitsN]
theorem digTo_snoc {s : ByteArray} {k : Nat} {n : Int} (h : k < s.size) (ht : DigTo s k n) (hp : isDig s[k] = true) : DigTo s (k + 1) (10 * n + ((s[k].toNat : Int) - 48)) := by
  obtain ⟨h1, h2⟩ := ht
  unfold DigTo
  rw [take_snoc s k h, digitsN_snoc, h2, List.all_append, h1]
  simp [hp]
theorem rt_of {a a' : Int} {b b' : Bool} (h : (a, b) = (a', b')) : Ending.returned (.tuple #[.int .i64 a, .bool b]) = Ending.returned (.tuple #[.int .i64 a', .bool b']) := by
  obtain ⟨rfl, rfl⟩ := Prod.mk.inj h; rfl
theorem cons_of (s : ByteArray) (h : 0 < s.size) : s.data.toList = s[0] :: s.data.toList.drop 1 := by have := drop_cons s 0 (by omega); simpa using this
theorem digitsL_cons (c : UInt8) (r : List UInt8) : digitsL (c :: r) = if 10 ≤ r.length || (decide (0 < r.length) && c == 48) || !(c :: r).all isDig then (0, false) else if 2147483647 < digitsN (c :: r) 0 then (0, false) else (digitsN (c :: r) 0, true) := rfl
theorem digitsL_bad {s : ByteArray} (h : 10 < s.size ∨ ∃ _ : 1 < s.size, s[0] = 48) : (0, false) = digitsL s.data.toList := by
  have h0 : 0 < s.size := by rcases h with h | ⟨h, _⟩ <;> omega
  rw [cons_of s h0, digitsL_cons, if_pos]
  rcases h with h | ⟨h, h'⟩
  · have : 10 ≤ (s.data.toList.drop 1).length := by simp; omega
    rw [decide_eq_true this]; rfl
  · rw [decide_eq_true (show 0 < (s.data.toList.drop 1).length by simp; omega), h']; simp
theorem digitsL_no {s : ByteArray} {k : Nat} (h : k < s.size) (hp : isDig s[k] = false) : (0, false) = digitsL s.data.toList := by
  have ha := all_at isDig s k h hp
  rw [cons_of s (by omega)] at ha ⊢
  rw [digitsL_cons, ha, if_pos (by simp)]
theorem digitsL_yes {s : ByteArray} {k : Nat} {n : Int} (h0 : 0 < s.size) (h : ¬ k < s.size) (h10 : s.size ≤ 10) (hz : ¬ ∃ _ : 1 < s.size, s[0] = 48) (ha : Hid (DigTo s k n)) : digitsL s.data.toList = if 2147483647 < n then (0, false) else (n, true) := by
  obtain ⟨h1, h2⟩ := ha
  rw [take_all s k h] at h1 h2
  rw [cons_of s h0] at h1 h2 ⊢
  rw [digitsL_cons, h1, h2, if_neg]
  simp
  constructor
  · omega
  · intro h1 h2
    exact hz ⟨by omega, h2⟩
theorem pow_le9 {k : Nat} (h : k ≤ 9) : (10 : Int) ^ k ≤ 1000000000 := by
  have : k = 0 ∨ k = 1 ∨ k = 2 ∨ k = 3 ∨ k = 4 ∨ k = 5 ∨ k = 6 ∨ k = 7 ∨ k = 8 ∨ k = 9 := by omega
  rcases this with rfl | rfl | rfl | rfl | rfl | rfl | rfl | rfl | rfl | rfl <;> decide
theorem digI_range {n : Int} (h : digI n = true) : 48 ≤ n ∧ n ≤ 57 := by unfold digI at h; simp at h; exact h

set_option maxHeartbeats 4000000 in
set_option maxRecDepth 100000 in
theorem digits_walk (s : ByteArray) (w : World) :
    Calls Tryd.prog 11 #[.string s] w fun e w' => e = .returned (.tuple #[.int .i64 (digitsL s.data.toList).1, .bool (digitsL s.data.toList).2]) ∧ Below w.heap.size w w' := by
  by_cases h0 : s.size = 0
  · obtain rfl := toList_e h0
    clear h0
    go_enter Tryd.func11, Tryd.ntmps11
    go_wp2
    go_ret2
    exact ⟨rt_of rfl, Below.refl _ _⟩
  obtain ⟨hn1, hn2, hn3⟩ := toList_ne (s := s) (by omega)
  by_cases h10 : 10 < s.size
  · have HN := Lib.hid (digitsL_bad (.inl h10))
    go_enter Tryd.func11, Tryd.ntmps11
    go_wp2
    go_ret2
    exact ⟨rt_of HN.out, Below.refl _ _⟩
  by_cases hz : ∃ _ : 1 < s.size, s[0] = 48
  · have HN := Lib.hid (digitsL_bad (.inr hz))
    obtain ⟨h1, h2⟩ := hz
    have hb : ((s[0].toNat : Int) == 48) = true := by rw [h2]; rfl
    have H2 := Lib.hid h2
    clear h2
    go_enter Tryd.func11, Tryd.ntmps11
    go_wp2
    go_ret2
    exact ⟨rt_of HN.out, Below.refl _ _⟩
  have HZ := Lib.hid hz
  have h00 : 0 < s.size := by omega
  have hb : 1 < s.size → ((s[0].toNat : Int) == 48) = false := fun h => by
    rw [beq_eq_false_iff_ne]
    intro e
    exact hz ⟨h, UInt8.toNat_inj.1 (by have : s[0].toNat = 48 := by omega
                                       rw [this]; rfl)⟩
  clear hz
  by_cases h1 : 1 < s.size
  all_goals try have hb1 := hb h1
  all_goals
    clear hb
    go_enter Tryd.func11, Tryd.ntmps11
    go_wp2
    go_loopw [4] (fun v wr => ∃ (pos : Nat) (n : Int), v = .int .i64 n ∧ 0 ≤ n ∧ Hid (n < 10 ^ pos) ∧ wr.heap[w.heap.size]? = some (.stringIter s pos) ∧ Below w.heap.size w wr ∧ Hid (DigTo s pos n)) (fun _ wr => s.size - wr.iterPos w.heap.size)
    case atStart =>
      refine ⟨0, 0, rfl, by omega, Lib.hid (by decide), ?_, (Below.refl _ w).alloc (Nat.le_refl _) _, digTo_zero s⟩
      simpa using World.iter_heap w s 0
    case round =>
      obtain ⟨pos, n, rfl, hn0, hnp, hit, hbw, hall⟩ := hrel
      by_cases hp : pos < s.size
      · have hnx : ∀ ty, (Instr.next (.pointer (some ⟨w.heap.size, 0, none⟩)) true ty).run Tryd.prog wr = _ := fun ty => Lib.run_next_any_at wr w.heap.size s pos ty hit hp
        have hwd := rune_pos s pos hp
        have hit2 := Lib.iterAt_heap wr w.heap.size s pos (pos + (Utf8.decode s pos).2) hit
        have hbw2 := Lib.below_iterAt hbw (k := w.heap.size) (Nat.le_refl _) s (pos + (Utf8.decode s pos).2)
        have hnb : n ≤ 1000000000 := by have := hnp.out; have := pow_le9 (k := pos) (by omega); omega
        by_cases ha : (s[pos]'hp).toNat < 128
        · rw [decode_ascii s pos hp ha] at hnx hit2 hbw2 hwd
          by_cases c2 : digI s[pos].toNat = true
          · obtain ⟨r1, r2⟩ := digI_range c2
            go_wp2_with (go_at_call 25; refine (isDigit_any _ _).mono ?_; rintro e w' ⟨rfl, rfl⟩)
            go_roundw
            case rel => exact ⟨pos + 1, _, rfl, by omega, Lib.hid (by have := hnp.out; rw [Int.pow_succ]; omega), hit2, hbw2, digTo_snoc hp hall (by rw [isDig_I]; exact c2)⟩
            case measure => simp only [World.iterPos, hit2, hit]; omega
          · simp only [Bool.not_eq_true] at c2
            go_wp2_with (go_at_call 25; refine (isDigit_any _ _).mono ?_; rintro e w' ⟨rfl, rfl⟩)
            go_ret2
            exact ⟨rt_of (digitsL_no hp (by rw [isDig_I]; exact c2)), hbw2⟩
        · have hd1 := (decode_high s pos hp (by omega)).1
          obtain ⟨c2, c1, _⟩ := high_not ((Utf8.decode s pos).1 : Int) (by omega)
          obtain ⟨d2, d1, _⟩ := high_not (s[pos].toNat : Int) (by omega)
          go_wp2_with (go_at_call 25; refine (isDigit_any _ _).mono ?_; rintro e w' ⟨rfl, rfl⟩)
          go_ret2
          exact ⟨rt_of (digitsL_no hp (by rw [isDig_I]; exact d2)), hbw2⟩
      · have hnx : ∀ ty, (Instr.next (.pointer (some ⟨w.heap.size, 0, none⟩)) true ty).run Tryd.prog wr = _ := fun ty => Lib.run_next_end_at wr w.heap.size s pos ty hit hp
        have HY := Lib.hid (digitsL_yes h00 hp (by omega) HZ.out hall)
        by_cases hm : 2147483647 < n
        · go_wp2
          go_ret2
          exact ⟨rt_of (by rw [HY.out, if_pos hm]), hbw⟩
        · go_wp2
          go_ret2
          exact ⟨rt_of (by rw [HY.out, if_neg (by omega)]), hbw⟩
end Go.Proofs.YtmphbpkhaoaedaaDoor.Ch

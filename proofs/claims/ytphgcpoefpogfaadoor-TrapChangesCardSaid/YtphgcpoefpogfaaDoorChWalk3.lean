import Derived.Test.YtphgcpoefpogfaaDoorChWalk2
namespace Go.Proofs.YtphgcpoefpogfaaDoor.Ch
open Go.RowKit

theorem all_snoc {p : UInt8 → Bool} {s : ByteArray} {k : Nat} (h : k < s.size) (ha : Hid ((s.data.toList.take k).all p = true)) (hp : p s[k] = true) : Hid ((s.data.toList.take (k + 1)).all p = true) := by
  show _ = _
  rw [take_snoc s k h, List.all_append, ha.out]
  simp [hp]
theorem not_empty (s : ByteArray) : (!s.data.toList.isEmpty) = (s.toList != []) := by
  rw [ByteArray.toList_eq s]
  cases s.data.toList <;> rfl
theorem rb_of {b b' : Bool} (h : b = b') : Ending.returned (.bool b) = Ending.returned (.bool b') := by rw [h]
theorem plainL_no {s : ByteArray} {k : Nat} (h : k < s.size) (hp : okB s[k] = false) : false = plainL s.data.toList := by
  unfold plainL; rw [all_at okB s k h hp]; rfl
theorem plainL_yes {s : ByteArray} {k : Nat} (h : ¬ k < s.size) (ha : Hid ((s.data.toList.take k).all okB = true)) : (!s.toList.isEmpty) = plainL s.data.toList := by
  have HA := ha.out
  rw [take_all s k h] at HA
  unfold plainL; rw [HA, ByteArray.toList_eq s]; rfl

set_option maxHeartbeats 4000000 in
set_option maxRecDepth 100000 in
theorem plain_walk (s : ByteArray) (w : World) :
    Calls Tryd.prog 48 #[.string s] w fun e w' => e = .returned (.bool (plainL s.data.toList)) ∧ Below w.heap.size w w' := by
  go_enter Tryd.func48, Tryd.ntmps48
  go_wp2
  go_loopw [] (fun wr => ∃ pos : Nat, wr.heap[w.heap.size]? = some (.stringIter s pos) ∧ Below w.heap.size w wr ∧ Hid ((s.data.toList.take pos).all okB = true)) (fun wr => s.size - wr.iterPos w.heap.size)
  case atStart =>
    refine ⟨0, ?_, (Below.refl _ w).alloc (Nat.le_refl _) _, Lib.hid (by simp)⟩
    simpa using World.iter_heap w s 0
  case round =>
    obtain ⟨pos, hit, hbw, hall⟩ := hrel
    by_cases hp : pos < s.size
    · have hnx : ∀ ty, (Instr.next (.pointer (some ⟨w.heap.size, 0, none⟩)) true ty).run Tryd.prog wr = _ := fun ty => Lib.run_next_any_at wr w.heap.size s pos ty hit hp
      have hwd := rune_pos s pos hp
      have hit2 := Lib.iterAt_heap wr w.heap.size s pos (pos + (Utf8.decode s pos).2) hit
      have hbw2 := Lib.below_iterAt hbw (k := w.heap.size) (Nat.le_refl _) s (pos + (Utf8.decode s pos).2)
      by_cases ha : (s[pos]'hp).toNat < 128
      · rw [decode_ascii s pos hp ha] at hnx hit2 hbw2 hwd
        by_cases c1 : letI' s[pos].toNat = true
        all_goals by_cases c2 : digI s[pos].toNat = true
        all_goals by_cases c3 : harmI s[pos].toNat = true
        all_goals try simp only [Bool.not_eq_true] at c1
        all_goals try simp only [Bool.not_eq_true] at c2
        all_goals try simp only [Bool.not_eq_true] at c3
        all_goals
          go_wp2_with (first
            | (go_at_call 53; refine (isLetter_any _ _).mono ?_; rintro e w' ⟨rfl, rfl⟩)
            | (go_at_call 54; refine (isDigit_any _ _).mono ?_; rintro e w' ⟨rfl, rfl⟩)
            | (go_at_call 55; refine (harmless_any _ _).mono ?_; rintro e w' ⟨rfl, rfl⟩))
        all_goals first
          | (go_roundw
             case rel => exact ⟨pos + 1, hit2, hbw2, all_snoc hp hall (by rw [okB_I]; simp [c1, c2, c3])⟩
             case measure => simp only [World.iterPos, hit2, hit]; omega)
          | (go_ret
             exact ⟨rb_of (plainL_no hp (by rw [okB_I]; simp [c1, c2, c3])), hbw2⟩)
      · have hd1 := (decode_high s pos hp (by omega)).1
        obtain ⟨c2, c1, c3⟩ := high_not ((Utf8.decode s pos).1 : Int) (by omega)
        obtain ⟨d2, d1, d3⟩ := high_not (s[pos].toNat : Int) (by omega)
        go_wp2_with (first
            | (go_at_call 53; refine (isLetter_any _ _).mono ?_; rintro e w' ⟨rfl, rfl⟩)
            | (go_at_call 54; refine (isDigit_any _ _).mono ?_; rintro e w' ⟨rfl, rfl⟩)
            | (go_at_call 55; refine (harmless_any _ _).mono ?_; rintro e w' ⟨rfl, rfl⟩))
        go_ret
        exact ⟨rb_of (plainL_no hp (by rw [okB_I]; simp [d1, d2, d3])), hbw2⟩
    · have hnx : ∀ ty, (Instr.next (.pointer (some ⟨w.heap.size, 0, none⟩)) true ty).run Tryd.prog wr = _ := fun ty => Lib.run_next_end_at wr w.heap.size s pos ty hit hp
      go_wp2
      go_ret
      exact ⟨rb_of (plainL_yes hp hall), hbw⟩
end Go.Proofs.YtphgcpoefpogfaaDoor.Ch

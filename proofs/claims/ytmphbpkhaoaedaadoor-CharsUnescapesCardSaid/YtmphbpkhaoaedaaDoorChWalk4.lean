import Derived.Test.YtmphbpkhaoaedaaDoorChWalk3
namespace Go.Proofs.YtmphbpkhaoaedaaDoor.Ch
open Go.RowKit

def headOk : List UInt8 → Bool
  | [] => true
  | c :: _ => !isDig c
def NameTo (s : ByteArray) (k : Nat) : Prop := (s.data.toList.take k).all nameB = true ∧ headOk (s.data.toList.take k) = true
theorem nameTo_zero (s : ByteArray) : NameTo s 0 := by simp [NameTo, headOk]
theorem nameTo_snoc {s : ByteArray} {k : Nat} (h : k < s.size) (ht : NameTo s k) (hp : nameB s[k] = true) (h0 : k = 0 → isDig s[k] = false) : NameTo s (k + 1) := by
  obtain ⟨h1, h2⟩ := ht
  unfold NameTo
  rw [take_snoc s k h]
  refine ⟨by rw [List.all_append, h1]; simp [hp], ?_⟩
  cases k with
  | zero => simp [headOk, h0 rfl]
  | succ k =>
    have hlt : 0 < s.size := by omega
    have e : s.data.toList = s[0] :: s.data.toList.drop 1 := by have := drop_cons s 0 hlt; simpa using this
    rw [e] at h2 ⊢
    simp [headOk] at h2 ⊢
    exact h2
theorem nameL_empty {s : ByteArray} (h : s.size = 0) : false = nameL s.data.toList := by
  have : s.data.toList = [] := List.eq_nil_of_length_eq_zero (by simpa using h)
  rw [this]; rfl
theorem nameL_cons (c : UInt8) (r : List UInt8) : nameL (c :: r) = (decide (r.length < 32) && !isDig c && (c :: r).all nameB) := rfl
theorem nameL_long {s : ByteArray} (h : 32 < s.size) : false = nameL s.data.toList := by
  have e : s.data.toList = s[0] :: s.data.toList.drop 1 := by have := drop_cons s 0 (by omega); simpa using this
  rw [e, nameL_cons, decide_eq_false (by simp; omega)]
  rfl
theorem nameL_no {s : ByteArray} {k : Nat} (h : k < s.size) (hp : nameB s[k] = false ∨ (k = 0 ∧ isDig s[k] = true)) : false = nameL s.data.toList := by
  have e : s.data.toList = s[0] :: s.data.toList.drop 1 := by have := drop_cons s 0 (by omega); simpa using this
  rcases hp with hp | ⟨rfl, hp⟩
  · have ha := all_at nameB s k h hp
    rw [e] at ha ⊢
    rw [nameL_cons, ha]; simp
  · rw [e, nameL_cons, hp]
    simp
theorem nameL_yes {s : ByteArray} {k : Nat} (h : ¬ k < s.size) (h0 : 0 < s.size) (h32 : s.size ≤ 32) (ha : NameTo s k) : true = nameL s.data.toList := by
  obtain ⟨h1, h2⟩ := ha
  rw [take_all s k h] at h1 h2
  have e : s.data.toList = s[0] :: s.data.toList.drop 1 := by have := drop_cons s 0 (by omega); simpa using this
  rw [e] at h1 h2 ⊢
  rw [nameL_cons, h1, decide_eq_true (by simp; omega)]
  simp [headOk] at h2
  rw [h2]; rfl
theorem toList_ne {s : ByteArray} (h : 0 < s.size) : (!s.toList.isEmpty) = true ∧ ¬ s.toList = [] ∧ (s.toList.isEmpty = false) := by
  have e : s.data.toList = s[0] :: s.data.toList.drop 1 := by have := drop_cons s 0 (by omega); simpa using this
  rw [ByteArray.toList_eq s, e]; simp
theorem toList_e {s : ByteArray} (h : s.size = 0) : s = ⟨#[]⟩ := by
  cases s with
  | mk d => cases d with
    | mk l => cases l with
      | nil => rfl
      | cons a b => simp [ByteArray.size] at h

set_option maxHeartbeats 4000000 in
set_option maxRecDepth 100000 in
theorem name_walk (s : ByteArray) (w : World) :
    Calls Tryd.prog 13 #[.string s] w fun e w' => e = .returned (.bool (nameL s.data.toList)) ∧ Below w.heap.size w w' := by
  by_cases h0 : s.size = 0
  · obtain rfl := toList_e h0
    clear h0
    go_enter Tryd.func13, Tryd.ntmps13
    go_wp2
    go_ret
    exact ⟨rb_of rfl, Below.refl _ _⟩
  obtain ⟨hn1, hn2, hn3⟩ := toList_ne (s := s) (by omega)
  by_cases h32 : 32 < s.size
  · have HN := Lib.hid (nameL_long h32)
    go_enter Tryd.func13, Tryd.ntmps13
    go_wp2
    go_ret
    exact ⟨rb_of HN.out, Below.refl _ _⟩
  go_enter Tryd.func13, Tryd.ntmps13
  go_wp2
  go_loopw [] (fun wr => ∃ pos : Nat, wr.heap[w.heap.size]? = some (.stringIter s pos) ∧ Below w.heap.size w wr ∧ Hid (NameTo s pos)) (fun wr => s.size - wr.iterPos w.heap.size)
  case atStart =>
    refine ⟨0, ?_, (Below.refl _ w).alloc (Nat.le_refl _) _, nameTo_zero s⟩
    simpa using World.iter_heap w s 0
  case round =>
    obtain ⟨pos, hit, hbw, hall⟩ := hrel
    by_cases hp : pos < s.size
    · have hnx : ∀ ty, (Instr.next (.pointer (some ⟨w.heap.size, 0, none⟩)) true ty).run Tryd.prog wr = _ := fun ty => Lib.run_next_any_at wr w.heap.size s pos ty hit hp
      have hwd := rune_pos s pos hp
      have hit2 := Lib.iterAt_heap wr w.heap.size s pos (pos + (Utf8.decode s pos).2) hit
      have hbw2 := Lib.below_iterAt hbw (k := w.heap.size) (Nat.le_refl _) s (pos + (Utf8.decode s pos).2)
      by_cases ha : (s[pos]'hp).toNat < 128
      · rw [decode_ascii s pos hp ha] at hnx hit2 hbw2 hwd
        by_cases c1 : letI' s[pos].toNat = true
        all_goals by_cases c2 : digI s[pos].toNat = true
        all_goals by_cases c3 : ((s[pos].toNat : Int) == 95) = true
        all_goals by_cases c4 : ((pos : Int) == 0) = true
        all_goals try simp only [Bool.not_eq_true] at c1
        all_goals try simp only [Bool.not_eq_true] at c2
        all_goals try (simp only [Bool.not_eq_true] at c3; have c3' : ((s[pos].toNat : Int) != 95) = true := by rw [bne, c3]; rfl)
        all_goals try simp only [Bool.not_eq_true] at c4
        all_goals try have c3' : ((s[pos].toNat : Int) != 95) = false := by rw [bne, c3]; rfl
        all_goals
          go_wp2_with (first
            | (go_at_call 27; refine (isLetter_any _ _).mono ?_; rintro e w' ⟨rfl, rfl⟩)
            | (go_at_call 25; refine (isDigit_any _ _).mono ?_; rintro e w' ⟨rfl, rfl⟩))
        all_goals first
          | (go_roundw
             case rel => exact ⟨pos + 1, hit2, hbw2, nameTo_snoc hp hall (by rw [nameB_I]; simp [c1, c2, c3]) (by intro h; subst h; first | (simp at c4; done) | (rw [isDig_I]; first | exact c2 | (simp [digI, letI'] at c1 c2 c3; omega)))⟩
             case measure => simp only [World.iterPos, hit2, hit]; omega)
          | (go_ret
             exact ⟨rb_of (nameL_no hp (by first | (left; rw [nameB_I]; simp [c1, c2, c3]; done) | (right; exact ⟨by simp at c4; omega, by rw [isDig_I]; exact c2⟩))), hbw2⟩)
      · have hd1 := (decode_high s pos hp (by omega)).1
        obtain ⟨c2, c1, _⟩ := high_not ((Utf8.decode s pos).1 : Int) (by omega)
        obtain ⟨d2, d1, _⟩ := high_not (s[pos].toNat : Int) (by omega)
        have d3 : ((s[pos].toNat : Int) == 95) = false := beq_eq_false_iff_ne.2 (by omega)
        have c3 : (((Utf8.decode s pos).1 : Int) != 95) = true := by rw [bne_iff_ne]; omega
        by_cases c4 : ((pos : Int) == 0) = true
        all_goals try simp only [Bool.not_eq_true] at c4
        all_goals go_wp2_with (first
            | (go_at_call 27; refine (isLetter_any _ _).mono ?_; rintro e w' ⟨rfl, rfl⟩)
            | (go_at_call 25; refine (isDigit_any _ _).mono ?_; rintro e w' ⟨rfl, rfl⟩))
        all_goals go_ret
        all_goals exact ⟨rb_of (nameL_no hp (.inl (by rw [nameB_I]; simp [d1, d2, d3]))), hbw2⟩
    · have hnx : ∀ ty, (Instr.next (.pointer (some ⟨w.heap.size, 0, none⟩)) true ty).run Tryd.prog wr = _ := fun ty => Lib.run_next_end_at wr w.heap.size s pos ty hit hp
      go_wp2
      go_ret
      exact ⟨rb_of (nameL_yes hp (by omega) (by omega) hall), hbw⟩
end Go.Proofs.YtmphbpkhaoaedaaDoor.Ch

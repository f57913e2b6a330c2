import Derived.Test.YtmphbpkhaoaedaaDoorChWalk6
import Derived.Lib.IndexLaws
namespace Go.Proofs.YtmphbpkhaoaedaaDoor.Ch
open Go.RowKit

theorem pre_nil_err {x : List UInt8 × Nat × Int} (a : List UInt8) (h : x.2.2 ≠ 0) : pre a x = ([], 0, x.2.2) := by unfold pre; rw [if_neg h]
theorem pre_pre (a b : List UInt8) (x : List UInt8 × Nat × Int) : pre a (pre b x) = pre (a ++ b) x := by
  unfold pre
  by_cases h : x.2.2 = 0
  · simp [h]
  · simp [h]
theorem dbl_norm (l : List UInt8) : pre [] (dbl l) = dbl l := by
  have hpp : ∀ a x, pre [] (pre a x) = pre a x := fun a x => by rw [pre_pre]; rfl
  match l with
  | [] => rfl
  | c :: r =>
    rw [dbl.eq_def]
    dsimp only
    split
    · rfl
    · split
      · rfl
      · split
        · split
          · rfl
          · split
            · exact dbl_norm _
            · split <;> exact hpp _ _
        · exact hpp _ _
/-- Where the contents end: the offset behind the closing quote, or 0. -/
def dblAt (s : ByteArray) (x : List UInt8 × Nat × Int) : Int := if x.2.2 = 0 then (s.size : Int) - x.2.1 else 0

theorem ix_yes (u : UInt8) (w : World) (h : isDbl u = true) : Calls Tryd.prog 32 #[.string ⟨#[36, 96, 34, 92]⟩, .int .u8 u.toNat] w fun e w' => ∃ n : Int, 0 ≤ n ∧ e = .returned (.int .i64 n) ∧ w' = w := by
  refine (Tryd.strings_IndexByte _ _ w).mono ?_
  rintro e w' ⟨rfl, rfl⟩
  refine ⟨_, ?_, rfl, rfl⟩
  rw [show ((u.toNat : Int)).toNat.toUInt8 = u from by simp]
  have : u = 36 ∨ u = 96 ∨ u = 34 ∨ u = 92 := by unfold isDbl at h; simp at h; rcases h with ((h | h) | h) | h <;> simp [h]
  rcases this with rfl | rfl | rfl | rfl <;> decide
theorem ix_no (u : UInt8) (w : World) (h : isDbl u = false) : Calls Tryd.prog 32 #[.string ⟨#[36, 96, 34, 92]⟩, .int .u8 u.toNat] w fun e w' => e = .returned (.int .i64 (-1)) ∧ w' = w := by
  refine (Tryd.strings_IndexByte _ _ w).mono ?_
  rintro e w' ⟨rfl, rfl⟩
  refine ⟨?_, rfl⟩
  rw [show ((u.toNat : Int)).toNat.toUInt8 = u from by simp]
  unfold isDbl at h
  simp at h
  obtain ⟨⟨⟨h1, h2⟩, h3⟩, h4⟩ := h
  simp [Lib.indexByte, beq_eq_false_iff_ne.2 (Ne.symm h1), beq_eq_false_iff_ne.2 (Ne.symm h2), beq_eq_false_iff_ne.2 (Ne.symm h3), beq_eq_false_iff_ne.2 (Ne.symm h4)]

theorem b_eq {c d : UInt8} {m : Int} (h : c = d) (hm : (d.toNat : Int) = m) : ((c.toNat : Int) == m) = true := by
  rw [h, beq_iff_eq]; exact hm
theorem b_ne {c d : UInt8} {m : Int} (h : ¬ c = d) (hm : (d.toNat : Int) = m) : ((c.toNat : Int) == m) = false := by
  rw [beq_eq_false_iff_ne]
  intro e
  exact h (UInt8.toNat_inj.1 (by omega))
theorem b_eq' {c d : UInt8} {m : Int} (h : c = d) (hm : (d.toNat : Int) = m) : ((c.toNat : Int) != m) = false := by rw [bne, b_eq h hm]; rfl
theorem b_ne' {c d : UInt8} {m : Int} (h : ¬ c = d) (hm : (d.toNat : Int) = m) : ((c.toNat : Int) != m) = true := by rw [bne, b_ne h hm]; rfl

theorem dbl_34 (r : List UInt8) : dbl (34 :: r) = ([], r.length, 0) := by rw [dbl.eq_def]; simp
theorem dbl_66 {c : UInt8} (r : List UInt8) (h : c = 36 ∨ c = 96) : dbl (c :: r) = ([], 0, 6) := by rw [dbl.eq_def]; rcases h with rfl | rfl <;> simp
theorem dbl_92e : dbl [92] = ([], 0, 7) := by rw [dbl.eq_def]; simp
theorem dbl_10 (r : List UInt8) : dbl (92 :: 10 :: r) = dbl r := by rw [dbl.eq_def]; simp
theorem dbl_sp {d : UInt8} (r : List UInt8) (h : isDbl d = true) (h1 : ¬ d = 10) : dbl (92 :: d :: r) = pre [d] (dbl r) := by rw [dbl.eq_def]; simp [h, h1]
theorem dbl_no {d : UInt8} (r : List UInt8) (h : ¬ isDbl d = true) (h1 : ¬ d = 10) : dbl (92 :: d :: r) = pre [92] (dbl (d :: r)) := by rw [dbl.eq_def]; simp [h, h1]
theorem dbl_other {c : UInt8} (r : List UInt8) (h1 : ¬ c = 34) (h2 : ¬ (c = 36 ∨ c = 96)) (h3 : ¬ c = 92) : dbl (c :: r) = pre [c] (dbl r) := by rw [dbl.eq_def]; dsimp only; rw [if_neg h1, if_neg h2, if_neg h3]
theorem eh {α : Type} {a b : α} (h : a = b) : Hid (a = b) := h

theorem rt3_of {x y : List UInt8} {a b c d : Int} (h1 : x = y) (h2 : a = b) (h3 : c = d) : Ending.returned (.tuple #[.string ⟨x.toArray⟩, .int .i64 a, .int .i64 c]) = Ending.returned (.tuple #[.string ⟨y.toArray⟩, .int .i64 b, .int .i64 d]) := by
  subst h1; subst h2; subst h3; rfl
theorem drop_len (s : ByteArray) (k : Nat) : (s.data.toList.drop k).length = s.size - k := by rw [List.length_drop]; rfl

set_option maxHeartbeats 8000000 in
set_option maxRecDepth 100000 in
theorem double_walk (s : ByteArray) (k0 : Nat) (w : World) (hs : s.size ≤ 10000000000) (hk0 : k0 ≤ s.size) (R : List UInt8 × Nat × Int) (hR : Hid (dbl (s.data.toList.drop k0) = R)) :
    Calls Tryd.prog 34 #[.string s, .int .i64 k0] w fun e w' => e = .returned (.tuple #[.string ⟨R.1.toArray⟩, .int .i64 (dblAt s R), .int .i64 R.2.2]) ∧ Below w.heap.size w w' := by
  go_enter Tryd.func34, Tryd.ntmps34
  go_wp2
  go_loopw [1] (fun v wr => ∃ (k : Nat) (acc : List UInt8), v = .int .i64 k ∧ k ≤ s.size ∧ acc.length ≤ k ∧ Hid (Has w acc wr) ∧ Hid (pre acc (dbl (s.data.toList.drop k)) = R)) (fun v _ => s.size - (intOf v).toNat)
  case atStart => exact ⟨k0, [], rfl, hk0, Nat.zero_le _, has_fresh w, by rw [show Hid (pre [] (dbl (s.data.toList.drop k0)) = R) = (pre [] (dbl (s.data.toList.drop k0)) = R) from rfl, dbl_norm]; exact hR.out⟩
  case round =>
    obtain ⟨k, acc, rfl, hk, hal, hH, hP⟩ := hrel
    by_cases hlt : k < s.size
    · have HD := Lib.hid (drop_cons s k hlt)
      by_cases c1 : s[k] = 34
      · have b1 : ((s[k].toNat : Int) == 34) = true := b_eq c1 rfl
        have E : Hid (R = (acc, s.size - (k + 1), 0)) := eh (by rw [← hP.out, HD.out, c1, dbl_34, drop_len]; simp [pre])
        clear c1
        go_wp2_with (go_at_call 36; refine (string_any w _ _ hH).mono ?_; rintro e w' ⟨rfl, h2⟩)
        go_ret3
        rw [E.out]
        exact ⟨rt3_of rfl (by unfold dblAt; simp; omega) rfl, h2⟩
      have b1 : ((s[k].toNat : Int) == 34) = false := b_ne c1 rfl
      by_cases c2 : s[k] = 36 ∨ s[k] = 96
      · have E : Hid (R = ([], 0, 6)) := eh (by rw [← hP.out, HD.out, dbl_66 _ c2]; rfl)
        rcases c2 with c2 | c2
        · have b2 : ((s[k].toNat : Int) == 36) = true := b_eq c2 rfl
          clear c1 c2
          go_wp2
          go_ret3
          rw [E.out]
          exact ⟨rt3_of rfl rfl rfl, hH.out.2⟩
        · have b2 : ((s[k].toNat : Int) == 96) = true := b_eq c2 rfl
          have b3 : ((s[k].toNat : Int) == 36) = false := b_ne (d := 36) (by rw [c2]; decide) rfl
          clear c1 c2
          go_wp2
          go_ret3
          rw [E.out]
          exact ⟨rt3_of rfl rfl rfl, hH.out.2⟩
      have c2' := not_or.1 c2
      have b2 : ((s[k].toNat : Int) == 36) = false := b_ne c2'.1 rfl
      have b3 : ((s[k].toNat : Int) == 96) = false := b_ne c2'.2 rfl
      by_cases c3 : s[k] = 92
      · have b4 : ((s[k].toNat : Int) == 92) = true := b_eq c3 rfl
        by_cases hend : k + 1 = s.size
        · have E : Hid (R = ([], 0, 7)) := eh (by rw [← hP.out, HD.out, drop_end s (k + 1) (by omega), c3, dbl_92e]; rfl)
          have b5 : ((k : Int) + 1 == (s.size : Int)) = true := beq_iff_eq.2 (by omega)
          clear c1 c2 c2' c3 hend
          go_wp2
          go_ret3
          rw [E.out]
          exact ⟨rt3_of rfl rfl rfl, hH.out.2⟩
        have b5 : ((k : Int) + 1 == (s.size : Int)) = false := beq_eq_false_iff_ne.2 (by omega)
        have hlt1 : k + 1 < s.size := by omega
        have HD1 := Lib.hid (drop_cons s (k + 1) hlt1)
        clear hend
        by_cases c4 : s[k + 1] = 10
        · have b6 : ((s[k + 1].toNat : Int) == 10) = true := b_eq c4 rfl
          have E : Hid (pre acc (dbl (s.data.toList.drop (k + 2))) = R) := eh (by rw [← hP.out, HD.out, HD1.out, c3, c4, dbl_10])
          clear c1 c2 c2' c3 c4
          go_wp2
          go_roundw
          case rel => exact ⟨k + 2, acc, by go_num, by omega, by omega, hH, E⟩
          case measure => simp [intOf]; omega
        have b6 : ((s[k + 1].toNat : Int) == 10) = false := b_ne c4 rfl
        by_cases c5 : isDbl s[k + 1] = true
        · have E : Hid (pre (acc ++ [s[k + 1]]) (dbl (s.data.toList.drop (k + 2))) = R) := eh (by rw [← hP.out, HD.out, HD1.out, c3, dbl_sp _ c5 c4, pre_pre])
          have C5 := Lib.hid c5
          clear c1 c2 c2' c3 c4 c5
          go_wp2_with fail
          refine (ix_yes s[k + 1] _ C5.out).mono ?_
          rintro e w1 ⟨n, hn, rfl, rfl⟩
          go_wp2_with fail
          refine (writeByte_any w _ _ _ s[k + 1] rfl hH (by omega)).mono ?_
          rintro e w2 ⟨rfl, h2⟩
          go_wp2
          go_roundw
          case rel => exact ⟨k + 2, acc ++ [s[k + 1]], by go_num, by omega, by simp; omega, h2, E⟩
          case measure => simp [intOf]; omega
        · have E : Hid (pre (acc ++ [s[k]]) (dbl (s.data.toList.drop (k + 1))) = R) := eh (by rw [← hP.out, HD.out, HD1.out, c3, dbl_no _ c5 c4, pre_pre])
          have C5 := Lib.hid (by simpa using c5 : isDbl s[k + 1] = false)
          clear c1 c2 c2' c3 c4 c5
          go_wp2_with fail
          refine (ix_no s[k + 1] _ C5.out).mono ?_
          rintro e w1 ⟨rfl, rfl⟩
          go_wp2_with fail
          refine (writeByte_any w _ _ _ s[k] rfl hH (by omega)).mono ?_
          rintro e w2 ⟨rfl, h2⟩
          go_wp2
          go_roundw
          case rel => exact ⟨k + 1, acc ++ [s[k]], by go_num, by omega, by simp; omega, h2, E⟩
          case measure => simp [intOf]; omega
      · have b4 : ((s[k].toNat : Int) == 92) = false := b_ne c3 rfl
        have E : Hid (pre (acc ++ [s[k]]) (dbl (s.data.toList.drop (k + 1))) = R) := eh (by rw [← hP.out, HD.out, dbl_other _ c1 c2 c3, pre_pre])
        clear c1 c2 c2' c3
        go_wp2_with fail
        refine (writeByte_any w _ _ _ s[k] rfl hH (by omega)).mono ?_
        rintro e w2 ⟨rfl, h2⟩
        go_wp2
        go_roundw
        case rel => exact ⟨k + 1, acc ++ [s[k]], by go_num, by omega, by simp; omega, h2, E⟩
        case measure => simp [intOf]; omega
    · have E : Hid (R = ([], 0, 7)) := eh (by rw [← hP.out, drop_end s k hlt]; rfl)
      go_wp2
      go_ret3
      rw [E.out]
      exact ⟨rt3_of rfl rfl rfl, hH.out.2⟩
end Go.Proofs.YtmphbpkhaoaedaaDoor.Ch

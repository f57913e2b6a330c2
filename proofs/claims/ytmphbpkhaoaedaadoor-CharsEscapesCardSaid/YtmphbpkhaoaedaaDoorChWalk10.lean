import Derived.Test.YtmphbpkhaoaedaaDoorChWalk9
namespace Go.Proofs.YtmphbpkhaoaedaaDoor.Ch
open Go.RowKit

theorem unesc_bad {c : UInt8} (r : List UInt8) (h : (c < 32 || 126 < c) = true) : unesc (c :: r) = ([], 6) := by rw [unesc.eq_def]; simp only [if_pos h]
theorem unesc_plain {c : UInt8} (r : List UInt8) (h : ¬ (c < 32 || 126 < c) = true) (h2 : ¬ c = 92) : unesc (c :: r) = app [c] (unesc r) := by rw [unesc.eq_def]; simp only [if_neg h, if_pos h2, ne_eq]
theorem unesc_e : unesc [92] = ([], 28) := by rw [unesc.eq_def]; rfl
theorem unesc_n (r : List UInt8) : unesc (92 :: 110 :: r) = app [10] (unesc r) := by rw [unesc.eq_def]; rfl
theorem unesc_t (r : List UInt8) : unesc (92 :: 116 :: r) = app [9] (unesc r) := by rw [unesc.eq_def]; rfl
theorem unesc_b (r : List UInt8) : unesc (92 :: 92 :: r) = app [92] (unesc r) := by rw [unesc.eq_def]; rfl
theorem unesc_x (h l : UInt8) (r : List UInt8) (e : (hexL (h :: l :: r)).2 = 0) : unesc (92 :: 120 :: h :: l :: r) = app [UInt8.ofNat (hexL (h :: l :: r)).1.toNat] (unesc r) := by
  rw [unesc.eq_def]
  show (if (hexL (h :: l :: r)).2 = 0 then _ else _) = _
  rw [if_pos e]
theorem unesc_xe (r : List UInt8) (e : ¬ (hexL r).2 = 0) : unesc (92 :: 120 :: r) = ([], (hexL r).2) := by
  rw [unesc.eq_def]
  show (if (hexL r).2 = 0 then _ else _) = _
  rw [if_neg e]
theorem unesc_o {d : UInt8} (r : List UInt8) (h1 : ¬ d = 110) (h2 : ¬ d = 116) (h3 : ¬ d = 92) (h4 : ¬ d = 120) : unesc (92 :: d :: r) = ([], 6) := by
  rw [unesc.eq_def]
  show (if d = 110 then _ else _) = _
  rw [if_neg h1, if_neg h2, if_neg h3, if_neg h4]
theorem unesc_nil : unesc [] = ([], 0) := by rw [unesc.eq_def]
/-- Where there is no error there are two digits, and the byte is one. -/
theorem hexL_ok (r : List UInt8) (h : (hexL r).2 = 0) : ∃ a b r', r = a :: b :: r' ∧ 0 ≤ (hexL r).1 ∧ (hexL r).1 ≤ 255 := by
  match r with
  | [] => exact absurd h (by decide)
  | [a] =>
    by_cases c : hexV a < 0 ∨ (1 < hexV a ∧ hexV a < 7)
    · rw [hexL_1 _ c] at h; exact absurd h (by decide)
    · rw [hexL_2 c] at h; exact absurd h (by decide)
  | a :: b :: r' =>
    refine ⟨a, b, r', rfl, ?_⟩
    by_cases c : hexV a < 0 ∨ (1 < hexV a ∧ hexV a < 7)
    · rw [hexL_1 _ c] at h; exact absurd h (by decide)
    · by_cases d : hexV b < 0 ∨ (16 * hexV a + hexV b) = 10 ∨ (16 * hexV a + hexV b) = 9 ∨ (32 ≤ (16 * hexV a + hexV b) ∧ (16 * hexV a + hexV b) ≤ 126)
      · rw [hexL_3 _ c d] at h; exact absurd h (by decide)
      · rw [hexL_4 _ c d]
        have := hexV_range a
        have := hexV_range b
        dsimp only
        omega
theorem app_nil_of (x : List UInt8 × Int) (h : ¬ x.2 = 0 → x.1 = []) : app [] x = x := by
  unfold app
  by_cases e : x.2 = 0
  · rw [if_pos e]; rw [List.nil_append, ← e]
  · rw [if_neg e, ← h e]
theorem app_err1 (a : List UInt8) (x : List UInt8 × Int) (h : ¬ (app a x).2 = 0) : (app a x).1 = [] := by
  unfold app at h ⊢
  by_cases e : x.2 = 0
  · simp [e] at h
  · simp [e]
theorem unesc_err : ∀ (l : List UInt8), ¬ (unesc l).2 = 0 → (unesc l).1 = []
  | [] => fun _ => by rw [unesc_nil]
  | c :: r => by
    by_cases h1 : (c < 32 || 126 < c) = true
    · rw [unesc_bad r h1]; exact fun _ => rfl
    by_cases h2 : c = 92
    · subst h2
      match r with
      | [] => rw [unesc_e]; exact fun _ => rfl
      | d :: r =>
        by_cases d1 : d = 110
        · subst d1; rw [unesc_n]; exact app_err1 _ _
        by_cases d2 : d = 116
        · subst d2; rw [unesc_t]; exact app_err1 _ _
        by_cases d3 : d = 92
        · subst d3; rw [unesc_b]; exact app_err1 _ _
        by_cases d4 : d = 120
        · subst d4
          by_cases e : (hexL r).2 = 0
          · obtain ⟨a, b, r', rfl, _⟩ := hexL_ok r e
            rw [unesc_x a b r' e]; exact app_err1 _ _
          · rw [unesc_xe r e]; exact fun _ => rfl
        · rw [unesc_o r d1 d2 d3 d4]; exact fun _ => rfl
    · rw [unesc_plain r h1 h2]; exact app_err1 _ _

theorem unprint (c : UInt8) : ((c < 32 || 126 < c) = true) ↔ ((c.toNat : Int) < 32 ∨ 126 < (c.toNat : Int)) := by
  simp only [Bool.or_eq_true, decide_eq_true_eq, UInt8.lt_iff_toNat_lt, show (32 : UInt8).toNat = 32 from rfl, show (126 : UInt8).toNat = 126 from rfl]
  omega
theorem hex_call (s t : ByteArray) (k : Nat) (ht : t.data.toList = s.data.toList.drop k) (w : World) (R : Int × Int) (hR : Hid (hexL (s.data.toList.drop k) = R)) :
    Calls Tryd.prog 38 #[.string t] w fun e w' => e = .returned (.tuple #[.int .u8 R.1, .int .i64 R.2]) ∧ w' = w := hex_walk t w R (by rw [ht]; exact hR)

set_option maxHeartbeats 8000000 in
set_option maxRecDepth 100000 in
theorem unescape_walk (s : ByteArray) (w : World) (hs : s.size ≤ 10000000000) (R : List UInt8 × Int) (hR : Hid (unesc s.data.toList = R)) :
    Calls Tryd.prog 22 #[.string s] w fun e w' => e = .returned (.tuple #[.string ⟨R.1.toArray⟩, .int .i64 R.2]) ∧ Below w.heap.size w w' := by
  go_enter Tryd.func22, Tryd.ntmps22
  go_wp2
  go_loopw [5] (fun v wr => ∃ (k : Nat) (acc : List UInt8), v = .int .i64 k ∧ k ≤ s.size ∧ acc.length ≤ k ∧ Hid (Has w acc wr) ∧ Hid (app acc (unesc (s.data.toList.drop k)) = R)) (fun v _ => s.size - (intOf v).toNat)
  case atStart => exact ⟨0, [], rfl, Nat.zero_le _, Nat.zero_le _, has_fresh w, eh (by rw [List.drop_zero, app_nil_of _ (unesc_err _)]; exact hid_eq hR)⟩
  case round =>
    obtain ⟨k, acc, rfl, hk, hal, hH, hP⟩ := hrel
    by_cases hlt : k < s.size
    · have HD := Lib.hid (drop_cons s k hlt)
      obtain ⟨r0, r1⟩ := u8_facts s[k]
      by_cases c0 : (s[k].toNat : Int) < 32 ∨ 126 < (s[k].toNat : Int)
      · have E : Hid (R = ([], 6)) := eh (by rw [← hid_eq hP, HD.out, unesc_bad _ ((unprint _).2 c0), app_err _ (by decide)])
        have c0' : (s[k].toNat : Int) < 32 ∨ (¬ (s[k].toNat : Int) < 32 ∧ 126 < (s[k].toNat : Int)) := by omega
        clear c0
        rcases c0' with c | ⟨c, d⟩
        all_goals
          go_wp2
          go_ret2
          rw [hid_eq E]
          exact ⟨rt2_of rfl rfl, hH.out.2⟩
      have hp : ¬ (s[k] < 32 || 126 < s[k]) = true := fun e => c0 ((unprint _).1 e)
      have HP := Lib.hid hp
      have p0 : ¬ (s[k].toNat : Int) < 32 := by omega
      have p1 : ¬ 126 < (s[k].toNat : Int) := by omega
      clear c0 hp
      by_cases c1 : s[k] = 92
      · have b1 : ((s[k].toNat : Int) != 92) = false := b_eq' c1 rfl
        by_cases hend : k + 1 = s.size
        · have E : Hid (R = ([], 28)) := eh (by rw [← hid_eq hP, HD.out, drop_end s (k + 1) (by omega), c1, unesc_e, app_err _ (by decide)])
          have b5 : ((k : Int) + 1 == (s.size : Int)) = true := beq_iff_eq.2 (by omega)
          clear c1 hend
          go_wp2
          go_ret2
          rw [hid_eq E]
          exact ⟨rt2_of rfl rfl, hH.out.2⟩
        have b5 : ((k : Int) + 1 == (s.size : Int)) = false := beq_eq_false_iff_ne.2 (by omega)
        have hlt1 : k + 1 < s.size := by omega
        have HD1 := Lib.hid (drop_cons s (k + 1) hlt1)
        clear hend
        by_cases d1 : s[k + 1] = 110
        · have e1 : ((s[k + 1].toNat : Int) == 110) = true := b_eq d1 rfl
          have E : Hid (app (acc ++ [10]) (unesc (s.data.toList.drop (k + 2))) = R) := eh (by rw [← hid_eq hP, HD.out, HD1.out, c1, d1, unesc_n, app_app])
          clear c1 d1
          go_wp2_with fail
          refine (writeByte_any w _ _ _ 10 rfl hH (by omega)).mono ?_
          rintro e w2 ⟨rfl, h2⟩
          go_wp2
          go_roundw
          case rel => exact ⟨k + 2, _, by go_num, by omega, by simp; omega, h2, E⟩
          case measure => simp [intOf]; omega
        have e1 : ((s[k + 1].toNat : Int) == 110) = false := b_ne d1 rfl
        by_cases d2 : s[k + 1] = 116
        · have e2 : ((s[k + 1].toNat : Int) == 116) = true := b_eq d2 rfl
          have E : Hid (app (acc ++ [9]) (unesc (s.data.toList.drop (k + 2))) = R) := eh (by rw [← hid_eq hP, HD.out, HD1.out, c1, d2, unesc_t, app_app])
          clear c1 d1 d2
          go_wp2_with fail
          refine (writeByte_any w _ _ _ 9 rfl hH (by omega)).mono ?_
          rintro e w2 ⟨rfl, h2⟩
          go_wp2
          go_roundw
          case rel => exact ⟨k + 2, _, by go_num, by omega, by simp; omega, h2, E⟩
          case measure => simp [intOf]; omega
        have e2 : ((s[k + 1].toNat : Int) == 116) = false := b_ne d2 rfl
        by_cases d3 : s[k + 1] = 92
        · have e3 : ((s[k + 1].toNat : Int) == 92) = true := b_eq d3 rfl
          have E : Hid (app (acc ++ [92]) (unesc (s.data.toList.drop (k + 2))) = R) := eh (by rw [← hid_eq hP, HD.out, HD1.out, c1, d3, unesc_b, app_app])
          clear c1 d1 d2 d3
          go_wp2_with fail
          refine (writeByte_any w _ _ _ 92 rfl hH (by omega)).mono ?_
          rintro e w2 ⟨rfl, h2⟩
          go_wp2
          go_roundw
          case rel => exact ⟨k + 2, _, by go_num, by omega, by simp; omega, h2, E⟩
          case measure => simp [intOf]; omega
        have e3 : ((s[k + 1].toNat : Int) == 92) = false := b_ne d3 rfl
        by_cases d4 : s[k + 1] = 120
        · have e4 : ((s[k + 1].toNat : Int) == 120) = true := b_eq d4 rfl
          have i1 : (0 : Int) ≤ (k : Int) + 1 + 1 := by omega
          have i2 : (k : Int) + 1 + 1 ≤ (s.size : Int) := by omega
          obtain ⟨D, hD⟩ : ∃ D, hexL (s.data.toList.drop (k + 2)) = D := ⟨_, rfl⟩
          have HDD := Lib.hid hD
          have hx : (s.extract (k + 1 + 1) s.size).data.toList = s.data.toList.drop (k + 2) := Lib.extract_to_end s (k + 1 + 1)
          have C := hex_call s (s.extract (k + 1 + 1) s.size) (k + 2) hx wr D HDD
          by_cases hq : D.2 = 0
          · obtain ⟨a, b, r', hr, q0, q1⟩ := hexL_ok (s.data.toList.drop (k + 2)) (by rw [hD]; exact hq)
            have hl := congrArg List.length hr
            rw [drop_len] at hl
            simp only [List.length_cons] at hl
            have hr4 : s.data.toList.drop (k + 4) = r' := by
              have := congrArg (List.drop 2) hr
              rw [List.drop_drop] at this
              exact this
            have E : Hid (app (acc ++ [UInt8.ofNat D.1.toNat]) (unesc (s.data.toList.drop (k + 4))) = R) := eh (by
              rw [← hid_eq hP, HD.out, HD1.out, c1, d4, show k + 1 + 1 = k + 2 from rfl, hr, unesc_x a b r' (by rw [← hr, hD]; exact hq), app_app, ← hr, hD, hr4])
            rw [hD] at q0 q1
            obtain ⟨D1, D2⟩ := D
            dsimp only at hq q0 q1 C E
            subst hq
            have HC := Lib.hid C
            clear C hx hr hr4 hD HDD c1 d1 d2 d3 d4
            go_wp2_with fail
            refine HC.out.mono ?_
            rintro e w1 ⟨rfl, rfl⟩
            go_wp2_with fail
            refine (writeByte_any w _ _ _ (UInt8.ofNat D1.toNat) (by rw [UInt8.toNat_ofNat']; omega) hH (by omega)).mono ?_
            rintro e w2 ⟨rfl, h2⟩
            go_wp2
            go_roundw
            case rel => exact ⟨k + 4, _, by go_num, by omega, by simp; omega, h2, E⟩
            case measure => simp [intOf]; omega
          · have E : Hid (R = ([], D.2)) := eh (by rw [← hid_eq hP, HD.out, HD1.out, c1, d4, show k + 1 + 1 = k + 2 from rfl, unesc_xe _ (by rw [hD]; exact hq), hD, app_err _ hq])
            have b3 : (D.2 != 0) = true := by simpa using hq
            have HC := Lib.hid C
            clear C hx hD HDD hq c1 d1 d2 d3 d4
            go_wp2_with fail
            refine HC.out.mono ?_
            rintro e w1 ⟨rfl, rfl⟩
            go_wp2
            go_ret2
            rw [hid_eq E]
            exact ⟨rt2_of rfl rfl, hH.out.2⟩
        have e4 : ((s[k + 1].toNat : Int) == 120) = false := b_ne d4 rfl
        have E : Hid (R = ([], 6)) := eh (by rw [← hid_eq hP, HD.out, HD1.out, c1, unesc_o _ d1 d2 d3 d4, app_err _ (by decide)])
        clear c1 d1 d2 d3 d4
        go_wp2
        go_ret2
        rw [hid_eq E]
        exact ⟨rt2_of rfl rfl, hH.out.2⟩
      · have b1 : ((s[k].toNat : Int) != 92) = true := b_ne' c1 rfl
        have E : Hid (app (acc ++ [s[k]]) (unesc (s.data.toList.drop (k + 1))) = R) := eh (by rw [← hid_eq hP, HD.out, unesc_plain _ HP.out c1, app_app])
        clear c1
        go_wp2_with fail
        refine (writeByte_any w _ _ _ s[k] rfl hH (by omega)).mono ?_
        rintro e w2 ⟨rfl, h2⟩
        go_wp2
        go_roundw
        case rel => exact ⟨k + 1, _, by go_num, by omega, by simp; omega, h2, E⟩
        case measure => simp [intOf]; omega
    · have E : Hid (R = (acc, 0)) := eh (by rw [← hid_eq hP, drop_end s k hlt, unesc_nil]; simp [app])
      go_wp2_with fail
      refine (string_any w _ _ hH).mono ?_
      rintro e w2 ⟨rfl, h2⟩
      go_wp2
      go_ret2
      rw [hid_eq E]
      exact ⟨rt2_of rfl rfl, h2⟩
end Go.Proofs.YtmphbpkhaoaedaaDoor.Ch

import Derived.Test.YtmphbpkhaoaedaaDoorChWalk8
namespace Go.Proofs.YtmphbpkhaoaedaaDoor.Ch
open Go.RowKit

theorem u8_all {p : UInt8 → Prop} (h : ∀ n : Fin 256, p (UInt8.ofNat n.val)) (u : UInt8) : p u := by
  have := h ⟨u.toNat, u.toNat_lt⟩
  simpa using this
theorem ix_hex (u : UInt8) : Lib.indexByte [48, 49, 50, 51, 52, 53, 54, 55, 56, 57, 97, 98, 99, 100, 101, 102] u = hexV u := by
  refine u8_all (p := fun u => Lib.indexByte [48, 49, 50, 51, 52, 53, 54, 55, 56, 57, 97, 98, 99, 100, 101, 102] u = hexV u) ?_ u
  decide +kernel
theorem hexV_range (u : UInt8) : -1 ≤ hexV u ∧ hexV u ≤ 15 := by
  refine u8_all (p := fun u => -1 ≤ hexV u ∧ hexV u ≤ 15) ?_ u
  decide +kernel
theorem ixhex_any (u : UInt8) (w : World) : Calls Tryd.prog 32 #[.string ⟨#[48, 49, 50, 51, 52, 53, 54, 55, 56, 57, 97, 98, 99, 100, 101, 102]⟩, .int .u8 u.toNat] w fun e w' => e = .returned (.int .i64 (hexV u)) ∧ w' = w := by
  refine (Tryd.strings_IndexByte _ _ w).mono ?_
  rintro e w' ⟨rfl, rfl⟩
  rw [show ((u.toNat : Int)).toNat.toUInt8 = u from by simp]
  exact ⟨by rw [← ix_hex], rfl⟩
theorem rh_of {a b c d : Int} (h : (a, c) = (b, d)) : Ending.returned (.tuple #[.int .u8 a, .int .i64 c]) = Ending.returned (.tuple #[.int .u8 b, .int .i64 d]) := by
  obtain ⟨rfl, rfl⟩ := Prod.mk.inj h; rfl
theorem hexL_1 {h : UInt8} (r : List UInt8) (c : hexV h < 0 ∨ (1 < hexV h ∧ hexV h < 7)) : hexL (h :: r) = (0, 6) := by rw [hexL.eq_def]; simp only [if_pos c]
theorem hexL_2 {h : UInt8} (c : ¬ (hexV h < 0 ∨ (1 < hexV h ∧ hexV h < 7))) : hexL [h] = (0, 28) := by rw [hexL.eq_def]; simp only [if_neg c]
theorem hexL_3 {h l : UInt8} (r : List UInt8) (c : ¬ (hexV h < 0 ∨ (1 < hexV h ∧ hexV h < 7))) (d : hexV l < 0 ∨ (16 * hexV h + hexV l) = 10 ∨ (16 * hexV h + hexV l) = 9 ∨ (32 ≤ (16 * hexV h + hexV l) ∧ (16 * hexV h + hexV l) ≤ 126)) : hexL (h :: l :: r) = (0, 6) := by rw [hexL.eq_def]; simp only [if_neg c, if_pos d]
theorem hexL_4 {h l : UInt8} (r : List UInt8) (c : ¬ (hexV h < 0 ∨ (1 < hexV h ∧ hexV h < 7))) (d : ¬ (hexV l < 0 ∨ (16 * hexV h + hexV l) = 10 ∨ (16 * hexV h + hexV l) = 9 ∨ (32 ≤ (16 * hexV h + hexV l) ∧ (16 * hexV h + hexV l) ≤ 126))) : hexL (h :: l :: r) = (16 * hexV h + hexV l, 0) := by rw [hexL.eq_def]; simp only [if_neg c, if_neg d]

set_option maxHeartbeats 8000000 in
set_option maxRecDepth 100000 in
theorem hex_walk (s : ByteArray) (w : World) (R : Int × Int) (hR : Hid (hexL s.data.toList = R)) :
    Calls Tryd.prog 38 #[.string s] w fun e w' => e = .returned (.tuple #[.int .u8 R.1, .int .i64 R.2]) ∧ w' = w := by
  by_cases h0 : s.size = 0
  · obtain rfl := toList_e h0
    clear h0
    go_enter Tryd.func38, Tryd.ntmps38
    go_wp2
    go_ret2
    rw [← hid_eq hR]
    exact ⟨rh_of rfl, rfl⟩
  obtain ⟨hn1, hn2, hn3⟩ := toList_ne (s := s) (by omega)
  have hlt : 0 < s.size := by omega
  have HD := Lib.hid (drop_cons s 0 hlt)
  have C0 := Lib.hid (ixhex_any s[0] w)
  obtain ⟨g0, g1⟩ := hexV_range s[0]
  obtain ⟨h, hh⟩ : ∃ h, hexV s[0] = h := ⟨_, rfl⟩
  rw [hh] at C0 g0 g1
  have HH := Lib.hid hh
  clear hh
  by_cases c1 : h < 0 ∨ (1 < h ∧ h < 7)
  · have E : Hid (R = (0, 6)) := eh (by rw [← hid_eq hR, ← List.drop_zero (l := s.data.toList), HD.out, hexL_1 _ (by rw [HH.out]; exact c1)])
    rcases c1 with c1 | ⟨c1, c2⟩
    · go_enter Tryd.func38, Tryd.ntmps38
      go_wp2_with fail
      refine C0.out.mono ?_
      rintro e w1 ⟨rfl, rfl⟩
      go_wp2
      all_goals (go_ret2; rw [hid_eq E]; exact ⟨rh_of rfl, rfl⟩)
    · have c3 : ¬ h < 0 := by omega
      go_enter Tryd.func38, Tryd.ntmps38
      go_wp2_with fail
      refine C0.out.mono ?_
      rintro e w1 ⟨rfl, rfl⟩
      go_wp2
      all_goals (go_ret2; rw [hid_eq E]; exact ⟨rh_of rfl, rfl⟩)
  have c1' := Lib.hid c1
  have c2 : ¬ h < 0 := by omega
  have c3 : h = 0 ∨ h = 1 ∨ 7 ≤ h := by omega
  have c4 : (1 < h ∧ ¬ h < 7) ∨ (¬ 1 < h) := by omega
  clear c1 c3
  by_cases h1 : s.size = 1
  · have E : Hid (R = (0, 28)) := eh (by rw [← hid_eq hR, ← List.drop_zero (l := s.data.toList), HD.out, drop_end s 1 (by omega), hexL_2 (by rw [HH.out]; exact c1'.out)])
    have b1 : ((s.size : Int) == 1) = true := beq_iff_eq.2 (by omega)
    clear h1 h0
    rcases c4 with ⟨c4, c5⟩ | c4
    all_goals
      go_enter Tryd.func38, Tryd.ntmps38
      go_wp2_with fail
      refine C0.out.mono ?_
      rintro e w1 ⟨rfl, rfl⟩
      go_wp2
      all_goals (go_ret2; rw [hid_eq E]; exact ⟨rh_of rfl, rfl⟩)
  have b1 : ((s.size : Int) == 1) = false := beq_eq_false_iff_ne.2 (by omega)
  have hlt1 : 1 < s.size := by omega
  have HD1 := Lib.hid (drop_cons s 1 hlt1)
  have C1 := Lib.hid (ixhex_any s[1] w)
  obtain ⟨k0, k1⟩ := hexV_range s[1]
  obtain ⟨l, hl⟩ : ∃ l, hexV s[1] = l := ⟨_, rfl⟩
  rw [hl] at C1 k0 k1
  have HL := Lib.hid hl
  clear hl h1 h0
  by_cases d1 : l < 0
  · have E : Hid (R = (0, 6)) := eh (by rw [← hid_eq hR, ← List.drop_zero (l := s.data.toList), HD.out, HD1.out, hexL_3 _ (by rw [HH.out]; exact c1'.out) (by rw [HH.out, HL.out]; exact .inl d1)])
    rcases c4 with ⟨c4, c5⟩ | c4
    all_goals
      go_enter Tryd.func38, Tryd.ntmps38
      go_wp2_with fail
      refine C0.out.mono ?_
      rintro e w1 ⟨rfl, rfl⟩
      go_wp2_with fail
      refine C1.out.mono ?_
      rintro e w1 ⟨rfl, rfl⟩
      go_wp2
      all_goals (go_ret2; rw [hid_eq E]; exact ⟨rh_of rfl, rfl⟩)
  have m0 : 0 ≤ 16 * h + l := by omega
  have m1 : 16 * h + l ≤ 255 := by omega
  by_cases d2 : 16 * h + l = 10 ∨ 16 * h + l = 9 ∨ (32 ≤ 16 * h + l ∧ 16 * h + l ≤ 126)
  · have E : Hid (R = (0, 6)) := eh (by rw [← hid_eq hR, ← List.drop_zero (l := s.data.toList), HD.out, HD1.out, hexL_3 _ (by rw [HH.out]; exact c1'.out) (by rw [HH.out, HL.out]; exact .inr d2)])
    have d3 : ((16 * h + l == 10) = true) ∨ ((16 * h + l == 10) = false ∧ (16 * h + l == 9) = true) ∨ ((16 * h + l == 10) = false ∧ (16 * h + l == 9) = false ∧ 32 ≤ 16 * h + l ∧ 16 * h + l ≤ 126) := by
      simp only [beq_iff_eq, beq_eq_false_iff_ne]; omega
    clear d2
    rcases c4 with ⟨c4, c5⟩ | c4
    all_goals
      rcases d3 with d3 | ⟨d3, d4⟩ | ⟨d3, d4, d5, d6⟩
    all_goals try (exfalso; first | omega | (have := beq_iff_eq.1 d3; omega) | (have := beq_iff_eq.1 d4; omega))
    all_goals
      go_enter Tryd.func38, Tryd.ntmps38
      go_wp2_with fail
      refine C0.out.mono ?_
      rintro e w1 ⟨rfl, rfl⟩
      go_wp2_with fail
      refine C1.out.mono ?_
      rintro e w1 ⟨rfl, rfl⟩
      go_wp2
      all_goals (go_ret2; rw [hid_eq E]; exact ⟨rh_of rfl, rfl⟩)
  · have E : Hid (R = (16 * h + l, 0)) := eh (by rw [← hid_eq hR, ← List.drop_zero (l := s.data.toList), HD.out, HD1.out, hexL_4 _ (by rw [HH.out]; exact c1'.out) (by rw [HH.out, HL.out]; omega), HH.out, HL.out])
    have d3 : (16 * h + l == 10) = false := beq_eq_false_iff_ne.2 (by omega)
    have d4 : (16 * h + l == 9) = false := beq_eq_false_iff_ne.2 (by omega)
    have d5 : (32 ≤ 16 * h + l ∧ ¬ 16 * h + l ≤ 126) ∨ ¬ 32 ≤ 16 * h + l := by omega
    clear d2
    rcases c4 with ⟨c4, c5⟩ | c4
    all_goals
      rcases d5 with ⟨d5, d6⟩ | d5
    all_goals try (exfalso; omega)
    all_goals
      go_enter Tryd.func38, Tryd.ntmps38
      go_wp2_with fail
      refine C0.out.mono ?_
      rintro e w1 ⟨rfl, rfl⟩
      go_wp2_with fail
      refine C1.out.mono ?_
      rintro e w1 ⟨rfl, rfl⟩
      go_wp2
      all_goals (go_ret2; rw [hid_eq E]; exact ⟨rh_of rfl, rfl⟩)
end Go.Proofs.YtmphbpkhaoaedaaDoor.Ch

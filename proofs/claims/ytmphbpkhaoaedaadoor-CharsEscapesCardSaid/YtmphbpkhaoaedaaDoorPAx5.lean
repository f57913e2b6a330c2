-- Written by a program of this session's (wip/mkprint.py) out of the translation; the texts of functions that the program does not take are mine.
import Derived.Test.YtmphbpkhaoaedaaDoorPAx0
import Derived.Test.YtmphbpkhaoaedaaDoorPAx1
import Derived.Test.YtmphbpkhaoaedaaDoorPAx3
import Derived.Test.YtmphbpkhaoaedaaDoorPAx4
namespace Go.Proofs.YtmphbpkhaoaedaaDoor.PA
open Go.RowKit Go.Proofs.YtmphbpkhaoaedaaDoorW.PrintWords Go.Proofs.YtmphbpkhaoaedaaDoorW.PrintLast Go.Proofs.YtmphbpkhaoaedaaDoorW.PrintMore
attribute [local go_sem] max2_int min2_int max_two min_two max_three min_three max_four min_four   -- for this text's walks alone
set_option linter.unusedVariables false
set_option linter.unusedSimpArgs false

/-! ### jobshellref01_piece: function 37 -/
mutual
def jobshellref01_piece.j0 : Nat → ByteArray → Int → Int → Bool → Option (ByteArray × Int × Int)
  | 0, _, _, _, _ => none
  | k + 1, x0, x1, x7, x29 => if x29 = true then (some ((⟨#[]⟩ : ByteArray), 0, 7)) else (if x7 = 92 then (if 0 ≤ (wrap64 (x1 + 1)) then (if (wrap64 (x1 + 1)) < (x0.size : Int) then (jobshellref01_piece.j1 k x0 x1 x7 ((bt x0 (wrap64 (x1 + 1))) == 10)) else (none)) else (none)) else (jobshellref01_piece.j1 k x0 x1 x7 false))
def jobshellref01_piece.j1 : Nat → ByteArray → Int → Int → Bool → Option (ByteArray × Int × Int)
  | 0, _, _, _, _ => none
  | k + 1, x0, x1, x7, x39 => if x39 = true then (some ((⟨#[]⟩ : ByteArray), wrap64 (x1 + 2), 0)) else (if x7 = 92 then (if 0 ≤ (wrap64 (x1 + 1)) then (if (wrap64 (x1 + 1)) ≤ (wrap64 (x1 + 2)) then (if (wrap64 (x1 + 2)) ≤ (x0.size : Int) then (some (x0.extract ((wrap64 (x1 + 1)) : Int).toNat ((wrap64 (x1 + 2)) : Int).toNat, wrap64 (x1 + 2), 0)) else (none)) else (none)) else (none)) else ((jobshellref01_Blank.f x7).bind fun t142 => (if t142 = true then (some ((⟨#[]⟩ : ByteArray), 0, 6)) else (if x7 = 10 then (some ((⟨#[]⟩ : ByteArray), 0, 6)) else ((jobshellref01_OpByte.f x7).bind fun t143 => (if t143 = true then (some ((⟨#[]⟩ : ByteArray), 0, 6)) else (if x7 = 36 then (some ((⟨#[]⟩ : ByteArray), 0, 6)) else (if x7 = 96 then (some ((⟨#[]⟩ : ByteArray), 0, 6)) else (if 0 ≤ x1 then (if x1 ≤ (wrap64 (x1 + 1)) then (if (wrap64 (x1 + 1)) ≤ (x0.size : Int) then (some (x0.extract (x1 : Int).toNat ((wrap64 (x1 + 1)) : Int).toNat, wrap64 (x1 + 1), 0)) else (none)) else (none)) else (none))))))))))
end
def jobshellref01_piece.f (k : Nat) (a0 : ByteArray) (a1 : Int) : Option (ByteArray × Int × Int) := if 0 ≤ a1 then (if a1 < (a0.size : Int) then (if (bt a0 a1) = 39 then ((jobshellref01_single.f k a0 a1).bind fun bt136 => (some (bt136.1, bt136.2.1, bt136.2.2))) else (if (bt a0 a1) = 34 then ((jobshellref01_double.f k a0 a1).bind fun bt139 => (some (bt139.1, bt139.2.1, bt139.2.2))) else (if (bt a0 a1) = 92 then (jobshellref01_piece.j0 k a0 a1 (bt a0 a1) ((wrap64 (a1 + 1)) == (a0.size : Int))) else (jobshellref01_piece.j0 k a0 a1 (bt a0 a1) false)))) else (none)) else (none)
theorem jobshellref01_piece.mono_l : ∀ k, (∀ y0 y1 y2 y3, LeO (jobshellref01_piece.j0 k y0 y1 y2 y3) (jobshellref01_piece.j0 (k + 1) y0 y1 y2 y3)) ∧ (∀ y0 y1 y2 y3, LeO (jobshellref01_piece.j1 k y0 y1 y2 y3) (jobshellref01_piece.j1 (k + 1) y0 y1 y2 y3))
  | 0 => ⟨fun _ _ _ _ r h => by simp [jobshellref01_piece.j0] at h, fun _ _ _ _ r h => by simp [jobshellref01_piece.j1] at h⟩
  | k + 1 => by
    obtain ⟨ih0, ih1⟩ := jobshellref01_piece.mono_l k
    refine ⟨?_, ?_⟩
    · intro y0 y1 y2 y3
      unfold jobshellref01_piece.j0
      repeat' first
      | (with_reducible exact ih0 _ _ _ _)
      | (with_reducible exact ih1 _ _ _ _)
      | (with_reducible exact jobshellref01_double.mono _ _ _)
      | (with_reducible exact jobshellref01_single.mono _ _ _)
      | (with_reducible exact LeO.refl _)
      | (with_reducible exact LeO.none _)
      | (with_reducible refine LeO.ite ?_ ?_)
      | (with_reducible refine LeO.bind ?_ (fun _ => ?_))
      | exact ih0 _ _ _ _
      | exact ih1 _ _ _ _
      | exact jobshellref01_double.mono _ _ _
      | exact jobshellref01_single.mono _ _ _
      | exact LeO.none _
      | refine LeO.ite ?_ ?_
      | refine LeO.bind ?_ (fun _ => ?_)
    · intro y0 y1 y2 y3
      unfold jobshellref01_piece.j1
      repeat' first
      | (with_reducible exact ih0 _ _ _ _)
      | (with_reducible exact ih1 _ _ _ _)
      | (with_reducible exact jobshellref01_double.mono _ _ _)
      | (with_reducible exact jobshellref01_single.mono _ _ _)
      | (with_reducible exact LeO.refl _)
      | (with_reducible exact LeO.none _)
      | (with_reducible refine LeO.ite ?_ ?_)
      | (with_reducible refine LeO.bind ?_ (fun _ => ?_))
      | exact ih0 _ _ _ _
      | exact ih1 _ _ _ _
      | exact jobshellref01_double.mono _ _ _
      | exact jobshellref01_single.mono _ _ _
      | exact LeO.none _
      | refine LeO.ite ?_ ?_
      | refine LeO.bind ?_ (fun _ => ?_)
theorem jobshellref01_piece.mono : ∀ a0 a1 k, LeO (jobshellref01_piece.f k a0 a1) (jobshellref01_piece.f (k + 1) a0 a1) := by
  intro a0 a1 k
  obtain ⟨ih0, ih1⟩ := jobshellref01_piece.mono_l k
  unfold jobshellref01_piece.f
  repeat' first
      | (with_reducible exact ih0 _ _ _ _)
      | (with_reducible exact ih1 _ _ _ _)
      | (with_reducible exact jobshellref01_double.mono _ _ _)
      | (with_reducible exact jobshellref01_single.mono _ _ _)
      | (with_reducible exact LeO.refl _)
      | (with_reducible exact LeO.none _)
      | (with_reducible refine LeO.ite ?_ ?_)
      | (with_reducible refine LeO.bind ?_ (fun _ => ?_))
      | exact ih0 _ _ _ _
      | exact ih1 _ _ _ _
      | exact jobshellref01_double.mono _ _ _
      | exact jobshellref01_single.mono _ _ _
      | exact LeO.none _
      | refine LeO.ite ?_ ?_
      | refine LeO.bind ?_ (fun _ => ?_)
set_option maxHeartbeats 8000000 in
set_option maxRecDepth 100000 in
theorem jobshellref01_piece.calls (k : Nat) (a0 : ByteArray) (a1 : Int) (r1 : ByteArray) (r2 : Int) (r3 : Int) (w : World) (h : jobshellref01_piece.f k a0 a1 = some (r1, r2, r3)) :
    Calls Tryd.prog 37 #[.string a0, .int .i64 a1] w fun e w' => e = .returned (.tuple #[.string r1, .int .i64 r2, .int .i64 r3]) ∧ Drawn0 w w' := by
  have H : (if 0 ≤ a1 then (if a1 < (a0.size : Int) then (if (bt a0 a1) = 39 then ((jobshellref01_single.f k a0 a1).bind fun bt136 => (some (bt136.1, bt136.2.1, bt136.2.2))) else (if (bt a0 a1) = 34 then ((jobshellref01_double.f k a0 a1).bind fun bt139 => (some (bt139.1, bt139.2.1, bt139.2.2))) else (if (bt a0 a1) = 92 then (jobshellref01_piece.j0 k a0 a1 (bt a0 a1) ((wrap64 (a1 + 1)) == (a0.size : Int))) else (jobshellref01_piece.j0 k a0 a1 (bt a0 a1) false)))) else (none)) else (none)) = some (r1, r2, r3) := h
  clear h
  by_cases c3 : 0 ≤ a1
  · rw [if_pos c3] at H
    have c3b0 : decide (0 ≤ a1) = true := decide_eq_true c3
    clear c3
    by_cases c4 : a1 < (a0.size : Int)
    · rw [if_pos c4] at H
      have c4b0 : decide (a1 < (a0.size : Int)) = true := decide_eq_true c4
      clear c4
      by_cases c6 : (bt a0 a1) = 39
      · rw [if_pos c6] at H
        have c6b0 : ((bt a0 a1) == 39) = true := beq_iff_eq.mpr c6
        have c6b1 : ((bt a0 a1) != 39) = false := bne_eq_false_iff_eq.mpr c6
        clear c6
        replace H := Option.bind_eq_some_iff.mp H
        obtain ⟨⟨t136, t137, t138⟩, A70, H⟩ := H
        replace H : (some (t136, t137, t138)) = some (r1, r2, r3) := H
        have A7 := Aside0.mk A70
        clear A70
        simp only [Option.some.injEq, Prod.mk.injEq] at H
        obtain ⟨rfl, rfl, rfl⟩ := H
        have p5 : 0 ≤ (a1 : Int) := of_decide_eq_true (by first | (with_reducible assumption) | assumption)
        have q5 : a1 < (a0.size : Int) := of_decide_eq_true (by first | (with_reducible assumption) | assumption)
        have hx5 := bt_at a0 a1
        replace p5 := eq_true p5
        replace q5 := eq_true q5
        go_enter Tryd.func37, Tryd.ntmps37
        go_wp2_with (first | ((with_reducible refine gate_callee (f := 45) rfl ?_); refine goesL_ (some 16) rfl rfl Tryd.func45 (by kernel_rfl) rfl #[.string a0, .int .i64 a1] rfl (by (try simp only [List.map_toArray, List.map_cons, List.map_nil]); first | done | rfl | (simp only [List.length_drop, List.length_take]; rfl)) ?_; (with_reducible refine (jobshellref01_single.calls k a0 a1 t136 t137 t138 _ A7.out).mono ?_); rintro e w' ⟨rfl, ⟨nd, rfl⟩⟩; refine ⟨_, rfl, ?_⟩))
        go_ret3
        exact ⟨by first | rfl | (simp; done) | (simp [*]; done) | exact congrArg (fun b => Ending.returned (Value.bool b)) (Ch.bne_nil _), by repeat (first | exact Drawn0.refl _ | apply Drawn0.step)⟩
      · rw [if_neg c6] at H
        have c6b0 : ((bt a0 a1) == 39) = false := beq_eq_false_iff_ne.mpr c6
        have c6b1 : ((bt a0 a1) != 39) = true := bne_iff_ne.mpr c6
        by_cases c8 : (bt a0 a1) = 34
        · rw [if_pos c8] at H
          have c8b0 : ((bt a0 a1) == 34) = true := beq_iff_eq.mpr c8
          have c8b1 : ((bt a0 a1) != 34) = false := bne_eq_false_iff_eq.mpr c8
          clear c8
          replace H := Option.bind_eq_some_iff.mp H
          obtain ⟨⟨t139, t140, t141⟩, A90, H⟩ := H
          replace H : (some (t139, t140, t141)) = some (r1, r2, r3) := H
          have A9 := Aside0.mk A90
          clear A90
          simp only [Option.some.injEq, Prod.mk.injEq] at H
          obtain ⟨rfl, rfl, rfl⟩ := H
          have p5 : 0 ≤ (a1 : Int) := of_decide_eq_true (by first | (with_reducible assumption) | assumption)
          have q5 : a1 < (a0.size : Int) := of_decide_eq_true (by first | (with_reducible assumption) | assumption)
          have hx5 := bt_at a0 a1
          replace p5 := eq_true p5
          replace q5 := eq_true q5
          go_enter Tryd.func37, Tryd.ntmps37
          go_wp2_with (first | ((with_reducible refine gate_callee (f := 46) rfl ?_); refine goesL_ (some 25) rfl rfl Tryd.func46 (by kernel_rfl) rfl #[.string a0, .int .i64 a1] rfl (by (try simp only [List.map_toArray, List.map_cons, List.map_nil]); first | done | rfl | (simp only [List.length_drop, List.length_take]; rfl)) ?_; (with_reducible refine (jobshellref01_double.calls k a0 a1 t139 t140 t141 _ A9.out).mono ?_); rintro e w' ⟨rfl, ⟨nd, rfl⟩⟩; refine ⟨_, rfl, ?_⟩))
          go_ret3
          exact ⟨by first | rfl | (simp; done) | (simp [*]; done) | exact congrArg (fun b => Ending.returned (Value.bool b)) (Ch.bne_nil _), by repeat (first | exact Drawn0.refl _ | apply Drawn0.step)⟩
        · rw [if_neg c8] at H
          have c8b0 : ((bt a0 a1) == 34) = false := beq_eq_false_iff_ne.mpr c8
          have c8b1 : ((bt a0 a1) != 34) = true := bne_iff_ne.mpr c8
          have HC10 := Aside0.mk H
          clear H
          have p5 : 0 ≤ (a1 : Int) := of_decide_eq_true (by first | (with_reducible assumption) | assumption)
          have q5 : a1 < (a0.size : Int) := of_decide_eq_true (by first | (with_reducible assumption) | assumption)
          have hx5 := bt_at a0 a1
          replace p5 := eq_true p5
          replace q5 := eq_true q5
          go_enter Tryd.func37, Tryd.ntmps37
          go_upto_region 6 with (fail)
          go_cut [29] (fun v29 wc => ∃ (kq : Nat) (x29_9 : Bool), v29 = .bool x29_9 ∧ Aside0 (jobshellref01_piece.j0 kq a0 a1 (bt a0 a1) x29_9 = some (r1, r2, r3)) ∧ Aside0 (kq ≤ k) ∧ Drawn0 w wc)
          case first =>
            have H := HC10.out
            clear HC10
            by_cases c11 : (bt a0 a1) = 92
            · rw [if_pos c11] at H
              have c11b0 : ((bt a0 a1) == 92) = true := beq_iff_eq.mpr c11
              have c11b1 : ((bt a0 a1) != 92) = false := bne_eq_false_iff_eq.mpr c11
              clear c11
              (first | rw [c11b0] | (simp only [i64_w, i32_w]; rw [c11b0]) | skip)
              have H' := Aside0.mk H
              clear H
              go_wp2
              go_meet
              case rel => exact ⟨_, (((wrap64 (a1 + 1)) == (a0.size : Int))), (by first | rfl | (simp; done) | (simp [*]; done) | exact congrArg (fun b => Ending.returned (Value.bool b)) (Ch.bne_nil _)), H', ⟨by first | omega | exact Nat.le_refl _⟩, by repeat (first | exact Drawn0.refl _ | apply Drawn0.step)⟩
            · rw [if_neg c11] at H
              have c11b0 : ((bt a0 a1) == 92) = false := beq_eq_false_iff_ne.mpr c11
              have c11b1 : ((bt a0 a1) != 92) = true := bne_iff_ne.mpr c11
              (first | rw [c11b0] | (simp only [i64_w, i32_w]; rw [c11b0]) | skip)
              have H' := Aside0.mk H
              clear H
              go_wp2
              go_meet
              case rel => exact ⟨_, (false), (by first | rfl | (simp; done) | (simp [*]; done) | exact congrArg (fun b => Ending.returned (Value.bool b)) (Ch.bne_nil _)), H', ⟨by first | omega | exact Nat.le_refl _⟩, by repeat (first | exact Drawn0.refl _ | apply Drawn0.step)⟩
          case rest =>
            clear HC10
            try clear c1
            try clear p2
            try clear c3
            try clear c3b0
            try clear c4
            try clear c4b0
            try clear p5
            try clear q5
            try clear hx5
            try clear c6
            try clear c6b0
            try clear c6b1
            try clear p6
            try clear c8
            try clear c8b0
            try clear c8b1
            try clear c11
            try clear c11b0
            try clear c11b1
            try clear p5
            try clear q5
            obtain ⟨kq, x29_9, rfl, HA, HJ9, ⟨mc9, rfl⟩⟩ := hcut
            cases kq with
            | zero => exact absurd HA.out (by simp [jobshellref01_piece.j0])
            | succ kj9 =>
              have H := HA.out
              clear HA
              simp only [jobshellref01_piece.j0] at H
              by_cases c12 : x29_9 = true
              · subst c12
                have H1 : (some ((⟨#[]⟩ : ByteArray), 0, 7)) = some (r1, r2, r3) := by rw [if_pos rfl] at H; exact H
                clear H
                have H := H1
                clear H1
                simp only [Option.some.injEq, Prod.mk.injEq] at H
                obtain ⟨rfl, rfl, rfl⟩ := H
                go_wp2
                go_ret3
                exact ⟨by first | rfl | (simp; done) | (simp [*]; done) | exact congrArg (fun b => Ending.returned (Value.bool b)) (Ch.bne_nil _), by repeat (first | exact Drawn0.refl _ | apply Drawn0.step)⟩
              · replace c12 := Bool.eq_false_iff.mpr c12
                subst c12
                have H1 : (if (bt a0 a1) = 92 then (if 0 ≤ (wrap64 (a1 + 1)) then (if (wrap64 (a1 + 1)) < (a0.size : Int) then (jobshellref01_piece.j1 kj9 a0 a1 (bt a0 a1) ((bt a0 (wrap64 (a1 + 1))) == 10)) else (none)) else (none)) else (jobshellref01_piece.j1 kj9 a0 a1 (bt a0 a1) false)) = some (r1, r2, r3) := by rw [if_neg (show ¬ (false = true) by decide)] at H; exact H
                clear H
                have H := H1
                clear H1
                have HC13 := Aside0.mk H
                clear H
                go_upto_region 8 with (fail)
                go_cut [39] (fun v39 wc => ∃ (kq : Nat) (x39_12 : Bool), v39 = .bool x39_12 ∧ Aside0 (jobshellref01_piece.j1 kq a0 a1 (bt a0 a1) x39_12 = some (r1, r2, r3)) ∧ Aside0 (kq ≤ kj9) ∧ Drawn0 w wc)
                case first =>
                  have H := HC13.out
                  clear HC13
                  by_cases c14 : (bt a0 a1) = 92
                  · rw [if_pos c14] at H
                    have c14b0 : ((bt a0 a1) == 92) = true := beq_iff_eq.mpr c14
                    have c14b1 : ((bt a0 a1) != 92) = false := bne_eq_false_iff_eq.mpr c14
                    clear c14
                    (first | rw [c14b0] | (simp only [i64_w, i32_w]; rw [c14b0]) | skip)
                    obtain ⟨ji15, hji15⟩ : ∃ j_ : Int, (wrap64 (a1 + 1)) = j_ := ⟨_, rfl⟩
                    replace H : (if 0 ≤ (ji15) then (if (ji15) < (a0.size : Int) then (jobshellref01_piece.j1 kj9 a0 a1 (bt a0 a1) ((bt a0 (ji15)) == 10)) else (none)) else (none)) = some (r1, r2, r3) := by first | (rw [hji15] at H; exact H) | (simp only [hji15] at H ⊢; exact H)
                    have hji15w : (IntKind.i64.wrap (a1 + 1)) = ji15 := (i64_w _).trans hji15
                    by_cases c16 : 0 ≤ (ji15)
                    · rw [if_pos c16] at H
                      have c16b0 : decide (0 ≤ (ji15)) = true := decide_eq_true c16
                      clear c16
                      by_cases c17 : (ji15) < (a0.size : Int)
                      · rw [if_pos c17] at H
                        have c17b0 : decide ((ji15) < (a0.size : Int)) = true := decide_eq_true c17
                        clear c17
                        have H' := Aside0.mk H
                        clear H
                        have p18 : 0 ≤ ((ji15) : Int) := of_decide_eq_true (by first | (with_reducible assumption) | assumption)
                        have q18 : (ji15) < (a0.size : Int) := of_decide_eq_true (by first | (with_reducible assumption) | assumption)
                        have hx18 := bt_at a0 (ji15)
                        replace p18 := eq_true p18
                        replace q18 := eq_true q18
                        go_wp2
                        go_meet
                        case rel => exact ⟨_, (((bt a0 (ji15)) == 10)), (by first | rfl | (simp; done) | (simp only [← hji15] <;> (first | rfl | simp)) | (simp [*]; done)), H', ⟨by have := HJ9.out; first | omega | exact Nat.le_refl _⟩, by repeat (first | exact Drawn0.refl _ | apply Drawn0.step)⟩
                      · rw [if_neg c17] at H
                        exact absurd H (by simp)
                    · rw [if_neg c16] at H
                      exact absurd H (by simp)
                  · rw [if_neg c14] at H
                    have c14b0 : ((bt a0 a1) == 92) = false := beq_eq_false_iff_ne.mpr c14
                    have c14b1 : ((bt a0 a1) != 92) = true := bne_iff_ne.mpr c14
                    (first | rw [c14b0] | (simp only [i64_w, i32_w]; rw [c14b0]) | skip)
                    have H' := Aside0.mk H
                    clear H
                    go_wp2
                    go_meet
                    case rel => exact ⟨_, (false), (by first | rfl | (simp; done) | (simp [*]; done) | exact congrArg (fun b => Ending.returned (Value.bool b)) (Ch.bne_nil _)), H', ⟨by have := HJ9.out; first | omega | exact Nat.le_refl _⟩, by repeat (first | exact Drawn0.refl _ | apply Drawn0.step)⟩
                case rest =>
                  clear HC13
                  try clear c1
                  try clear p1
                  try clear q1
                  try clear hx1
                  try clear p2
                  try clear c3
                  try clear c3b0
                  try clear c4
                  try clear c4b0
                  try clear p5
                  try clear q5
                  try clear hx5
                  try clear c6
                  try clear c6b0
                  try clear c6b1
                  try clear p6
                  try clear c8
                  try clear c8b0
                  try clear c8b1
                  try clear c9
                  try clear c11
                  try clear c11b0
                  try clear c11b1
                  try clear c12
                  try clear c14
                  try clear c14b0
                  try clear c14b1
                  try clear c16
                  try clear c16b0
                  try clear c17
                  try clear c17b0
                  try clear p18
                  try clear q18
                  try clear hx18
                  try clear p18
                  try clear p2
                  try clear p5
                  try clear p6
                  try clear q18
                  try clear q5
                  obtain ⟨kq, x39_12, rfl, HA, HJ12, ⟨mc12, rfl⟩⟩ := hcut
                  cases kq with
                  | zero => exact absurd HA.out (by simp [jobshellref01_piece.j1])
                  | succ kj12 =>
                    have H := HA.out
                    clear HA
                    simp only [jobshellref01_piece.j1] at H
                    by_cases c19 : x39_12 = true
                    · subst c19
                      have H1 : (some ((⟨#[]⟩ : ByteArray), wrap64 (a1 + 2), 0)) = some (r1, r2, r3) := by rw [if_pos rfl] at H; exact H
                      clear H
                      have H := H1
                      clear H1
                      simp only [Option.some.injEq, Prod.mk.injEq] at H
                      obtain ⟨rfl, rfl, rfl⟩ := H
                      go_wp2
                      go_ret3
                      exact ⟨by first | rfl | (simp; done) | (simp [*]; done) | exact congrArg (fun b => Ending.returned (Value.bool b)) (Ch.bne_nil _), by repeat (first | exact Drawn0.refl _ | apply Drawn0.step)⟩
                    · replace c19 := Bool.eq_false_iff.mpr c19
                      subst c19
                      have H1 : (if (bt a0 a1) = 92 then (if 0 ≤ (wrap64 (a1 + 1)) then (if (wrap64 (a1 + 1)) ≤ (wrap64 (a1 + 2)) then (if (wrap64 (a1 + 2)) ≤ (a0.size : Int) then (some (a0.extract ((wrap64 (a1 + 1)) : Int).toNat ((wrap64 (a1 + 2)) : Int).toNat, wrap64 (a1 + 2), 0)) else (none)) else (none)) else (none)) else ((jobshellref01_Blank.f (bt a0 a1)).bind fun t142 => (if t142 = true then (some ((⟨#[]⟩ : ByteArray), 0, 6)) else (if (bt a0 a1) = 10 then (some ((⟨#[]⟩ : ByteArray), 0, 6)) else ((jobshellref01_OpByte.f (bt a0 a1)).bind fun t143 => (if t143 = true then (some ((⟨#[]⟩ : ByteArray), 0, 6)) else (if (bt a0 a1) = 36 then (some ((⟨#[]⟩ : ByteArray), 0, 6)) else (if (bt a0 a1) = 96 then (some ((⟨#[]⟩ : ByteArray), 0, 6)) else (if 0 ≤ a1 then (if a1 ≤ (wrap64 (a1 + 1)) then (if (wrap64 (a1 + 1)) ≤ (a0.size : Int) then (some (a0.extract (a1 : Int).toNat ((wrap64 (a1 + 1)) : Int).toNat, wrap64 (a1 + 1), 0)) else (none)) else (none)) else (none)))))))))) = some (r1, r2, r3) := by rw [if_neg (show ¬ (false = true) by decide)] at H; exact H
                      clear H
                      have H := H1
                      clear H1
                      by_cases c20 : (bt a0 a1) = 92
                      · rw [if_pos c20] at H
                        have c20b0 : ((bt a0 a1) == 92) = true := beq_iff_eq.mpr c20
                        have c20b1 : ((bt a0 a1) != 92) = false := bne_eq_false_iff_eq.mpr c20
                        clear c20
                        obtain ⟨ji21, hji21⟩ : ∃ j_ : Int, (wrap64 (a1 + 1)) = j_ := ⟨_, rfl⟩
                        replace H : (if 0 ≤ (ji21) then (if (ji21) ≤ (wrap64 (a1 + 2)) then (if (wrap64 (a1 + 2)) ≤ (a0.size : Int) then (some (a0.extract ((ji21) : Int).toNat ((wrap64 (a1 + 2)) : Int).toNat, wrap64 (a1 + 2), 0)) else (none)) else (none)) else (none)) = some (r1, r2, r3) := by first | (rw [hji21] at H; exact H) | (simp only [hji21] at H ⊢; exact H)
                        have hji21w : (IntKind.i64.wrap (a1 + 1)) = ji21 := (i64_w _).trans hji21
                        by_cases c22 : 0 ≤ (ji21)
                        · rw [if_pos c22] at H
                          have c22b0 := eq_true c22
                          have c22b1 : decide (0 ≤ (ji21)) = true := decide_eq_true c22
                          clear c22
                          by_cases c23 : (ji21) ≤ (wrap64 (a1 + 2))
                          · rw [if_pos c23] at H
                            have c23b0 := eq_true c23
                            have c23b1 : decide ((ji21) ≤ (wrap64 (a1 + 2))) = true := decide_eq_true c23
                            by_cases c24 : (wrap64 (a1 + 2)) ≤ (a0.size : Int)
                            · rw [if_pos c24] at H
                              have c24b0 := eq_true c24
                              have c24b1 : decide ((wrap64 (a1 + 2)) ≤ (a0.size : Int)) = true := decide_eq_true c24
                              simp only [Option.some.injEq, Prod.mk.injEq] at H
                              obtain ⟨rfl, rfl, rfl⟩ := H
                              go_wp2
                              go_ret3
                              exact ⟨by first | rfl | (simp; done) | (simp only [← hji21] <;> (first | rfl | simp)) | (simp [*]; done), by repeat (first | exact Drawn0.refl _ | apply Drawn0.step)⟩
                            · rw [if_neg c24] at H
                              exact absurd H (by simp)
                          · rw [if_neg c23] at H
                            exact absurd H (by simp)
                        · rw [if_neg c22] at H
                          exact absurd H (by simp)
                      · rw [if_neg c20] at H
                        have c20b0 : ((bt a0 a1) == 92) = false := beq_eq_false_iff_ne.mpr c20
                        have c20b1 : ((bt a0 a1) != 92) = true := bne_iff_ne.mpr c20
                        replace H := Option.bind_eq_some_iff.mp H
                        obtain ⟨t142, A250, H⟩ := H
                        replace H : (if t142 = true then (some ((⟨#[]⟩ : ByteArray), 0, 6)) else (if (bt a0 a1) = 10 then (some ((⟨#[]⟩ : ByteArray), 0, 6)) else ((jobshellref01_OpByte.f (bt a0 a1)).bind fun t143 => (if t143 = true then (some ((⟨#[]⟩ : ByteArray), 0, 6)) else (if (bt a0 a1) = 36 then (some ((⟨#[]⟩ : ByteArray), 0, 6)) else (if (bt a0 a1) = 96 then (some ((⟨#[]⟩ : ByteArray), 0, 6)) else (if 0 ≤ a1 then (if a1 ≤ (wrap64 (a1 + 1)) then (if (wrap64 (a1 + 1)) ≤ (a0.size : Int) then (some (a0.extract (a1 : Int).toNat ((wrap64 (a1 + 1)) : Int).toNat, wrap64 (a1 + 1), 0)) else (none)) else (none)) else (none)))))))) = some (r1, r2, r3) := H
                        have A25 := Aside0.mk A250
                        clear A250
                        by_cases c26 : t142 = true
                        · subst c26
                          have H1 : (some ((⟨#[]⟩ : ByteArray), 0, 6)) = some (r1, r2, r3) := by rw [if_pos rfl] at H; exact H
                          clear H
                          have H := H1
                          clear H1
                          simp only [Option.some.injEq, Prod.mk.injEq] at H
                          obtain ⟨rfl, rfl, rfl⟩ := H
                          go_wp2_with (first | ((with_reducible refine gate_callee (f := 47) rfl ?_); refine goesL_ (some 64) rfl rfl Tryd.func47 (by kernel_rfl) rfl #[.int .u8 (bt a0 a1)] rfl (by (try simp only [List.map_toArray, List.map_cons, List.map_nil]); first | done | rfl | (simp only [List.length_drop, List.length_take]; rfl)) ?_; (with_reducible refine (jobshellref01_Blank.calls (bt a0 a1) true _ A25.out).mono ?_); rintro e w' ⟨rfl, ⟨nd, rfl⟩⟩; refine ⟨_, rfl, ?_⟩))
                          go_ret3
                          exact ⟨by first | rfl | (simp; done) | (simp [*]; done) | exact congrArg (fun b => Ending.returned (Value.bool b)) (Ch.bne_nil _), by repeat (first | exact Drawn0.refl _ | apply Drawn0.step)⟩
                        · replace c26 := Bool.eq_false_iff.mpr c26
                          subst c26
                          have H1 : (if (bt a0 a1) = 10 then (some ((⟨#[]⟩ : ByteArray), 0, 6)) else ((jobshellref01_OpByte.f (bt a0 a1)).bind fun t143 => (if t143 = true then (some ((⟨#[]⟩ : ByteArray), 0, 6)) else (if (bt a0 a1) = 36 then (some ((⟨#[]⟩ : ByteArray), 0, 6)) else (if (bt a0 a1) = 96 then (some ((⟨#[]⟩ : ByteArray), 0, 6)) else (if 0 ≤ a1 then (if a1 ≤ (wrap64 (a1 + 1)) then (if (wrap64 (a1 + 1)) ≤ (a0.size : Int) then (some (a0.extract (a1 : Int).toNat ((wrap64 (a1 + 1)) : Int).toNat, wrap64 (a1 + 1), 0)) else (none)) else (none)) else (none))))))) = some (r1, r2, r3) := by rw [if_neg (show ¬ (false = true) by decide)] at H; exact H
                          clear H
                          have H := H1
                          clear H1
                          by_cases c27 : (bt a0 a1) = 10
                          · rw [if_pos c27] at H
                            have c27b0 : ((bt a0 a1) == 10) = true := beq_iff_eq.mpr c27
                            have c27b1 : ((bt a0 a1) != 10) = false := bne_eq_false_iff_eq.mpr c27
                            clear c27
                            simp only [Option.some.injEq, Prod.mk.injEq] at H
                            obtain ⟨rfl, rfl, rfl⟩ := H
                            go_wp2_with (first | ((with_reducible refine gate_callee (f := 47) rfl ?_); refine goesL_ (some 64) rfl rfl Tryd.func47 (by kernel_rfl) rfl #[.int .u8 (bt a0 a1)] rfl (by (try simp only [List.map_toArray, List.map_cons, List.map_nil]); first | done | rfl | (simp only [List.length_drop, List.length_take]; rfl)) ?_; (with_reducible refine (jobshellref01_Blank.calls (bt a0 a1) false _ A25.out).mono ?_); rintro e w' ⟨rfl, ⟨nd, rfl⟩⟩; refine ⟨_, rfl, ?_⟩))
                            go_ret3
                            exact ⟨by first | rfl | (simp; done) | (simp [*]; done) | exact congrArg (fun b => Ending.returned (Value.bool b)) (Ch.bne_nil _), by repeat (first | exact Drawn0.refl _ | apply Drawn0.step)⟩
                          · rw [if_neg c27] at H
                            have c27b0 : ((bt a0 a1) == 10) = false := beq_eq_false_iff_ne.mpr c27
                            have c27b1 : ((bt a0 a1) != 10) = true := bne_iff_ne.mpr c27
                            replace H := Option.bind_eq_some_iff.mp H
                            obtain ⟨t143, A280, H⟩ := H
                            replace H : (if t143 = true then (some ((⟨#[]⟩ : ByteArray), 0, 6)) else (if (bt a0 a1) = 36 then (some ((⟨#[]⟩ : ByteArray), 0, 6)) else (if (bt a0 a1) = 96 then (some ((⟨#[]⟩ : ByteArray), 0, 6)) else (if 0 ≤ a1 then (if a1 ≤ (wrap64 (a1 + 1)) then (if (wrap64 (a1 + 1)) ≤ (a0.size : Int) then (some (a0.extract (a1 : Int).toNat ((wrap64 (a1 + 1)) : Int).toNat, wrap64 (a1 + 1), 0)) else (none)) else (none)) else (none))))) = some (r1, r2, r3) := H
                            have A28 := Aside0.mk A280
                            clear A280
                            by_cases c29 : t143 = true
                            · subst c29
                              have H1 : (some ((⟨#[]⟩ : ByteArray), 0, 6)) = some (r1, r2, r3) := by rw [if_pos rfl] at H; exact H
                              clear H
                              have H := H1
                              clear H1
                              simp only [Option.some.injEq, Prod.mk.injEq] at H
                              obtain ⟨rfl, rfl, rfl⟩ := H
                              go_wp2_with (first | ((with_reducible refine gate_callee (f := 47) rfl ?_); refine goesL_ (some 64) rfl rfl Tryd.func47 (by kernel_rfl) rfl #[.int .u8 (bt a0 a1)] rfl (by (try simp only [List.map_toArray, List.map_cons, List.map_nil]); first | done | rfl | (simp only [List.length_drop, List.length_take]; rfl)) ?_; (with_reducible refine (jobshellref01_Blank.calls (bt a0 a1) false _ A25.out).mono ?_); rintro e w' ⟨rfl, ⟨nd, rfl⟩⟩; refine ⟨_, rfl, ?_⟩) | (go_at_call 48; (with_reducible refine (jobshellref01_OpByte.calls (bt a0 a1) true _ A28.out).mono ?_); rintro e w' ⟨rfl, ⟨nd, rfl⟩⟩))
                              go_ret3
                              exact ⟨by first | rfl | (simp; done) | (simp [*]; done) | exact congrArg (fun b => Ending.returned (Value.bool b)) (Ch.bne_nil _), by repeat (first | exact Drawn0.refl _ | apply Drawn0.step)⟩
                            · replace c29 := Bool.eq_false_iff.mpr c29
                              subst c29
                              have H1 : (if (bt a0 a1) = 36 then (some ((⟨#[]⟩ : ByteArray), 0, 6)) else (if (bt a0 a1) = 96 then (some ((⟨#[]⟩ : ByteArray), 0, 6)) else (if 0 ≤ a1 then (if a1 ≤ (wrap64 (a1 + 1)) then (if (wrap64 (a1 + 1)) ≤ (a0.size : Int) then (some (a0.extract (a1 : Int).toNat ((wrap64 (a1 + 1)) : Int).toNat, wrap64 (a1 + 1), 0)) else (none)) else (none)) else (none)))) = some (r1, r2, r3) := by rw [if_neg (show ¬ (false = true) by decide)] at H; exact H
                              clear H
                              have H := H1
                              clear H1
                              by_cases c30 : (bt a0 a1) = 36
                              · rw [if_pos c30] at H
                                have c30b0 : ((bt a0 a1) == 36) = true := beq_iff_eq.mpr c30
                                have c30b1 : ((bt a0 a1) != 36) = false := bne_eq_false_iff_eq.mpr c30
                                clear c30
                                simp only [Option.some.injEq, Prod.mk.injEq] at H
                                obtain ⟨rfl, rfl, rfl⟩ := H
                                go_wp2_with (first | ((with_reducible refine gate_callee (f := 47) rfl ?_); refine goesL_ (some 64) rfl rfl Tryd.func47 (by kernel_rfl) rfl #[.int .u8 (bt a0 a1)] rfl (by (try simp only [List.map_toArray, List.map_cons, List.map_nil]); first | done | rfl | (simp only [List.length_drop, List.length_take]; rfl)) ?_; (with_reducible refine (jobshellref01_Blank.calls (bt a0 a1) false _ A25.out).mono ?_); rintro e w' ⟨rfl, ⟨nd, rfl⟩⟩; refine ⟨_, rfl, ?_⟩) | (go_at_call 48; (with_reducible refine (jobshellref01_OpByte.calls (bt a0 a1) false _ A28.out).mono ?_); rintro e w' ⟨rfl, ⟨nd, rfl⟩⟩))
                                go_ret3
                                exact ⟨by first | rfl | (simp; done) | (simp [*]; done) | exact congrArg (fun b => Ending.returned (Value.bool b)) (Ch.bne_nil _), by repeat (first | exact Drawn0.refl _ | apply Drawn0.step)⟩
                              · rw [if_neg c30] at H
                                have c30b0 : ((bt a0 a1) == 36) = false := beq_eq_false_iff_ne.mpr c30
                                have c30b1 : ((bt a0 a1) != 36) = true := bne_iff_ne.mpr c30
                                by_cases c31 : (bt a0 a1) = 96
                                · rw [if_pos c31] at H
                                  have c31b0 : ((bt a0 a1) == 96) = true := beq_iff_eq.mpr c31
                                  have c31b1 : ((bt a0 a1) != 96) = false := bne_eq_false_iff_eq.mpr c31
                                  clear c31
                                  simp only [Option.some.injEq, Prod.mk.injEq] at H
                                  obtain ⟨rfl, rfl, rfl⟩ := H
                                  go_wp2_with (first | ((with_reducible refine gate_callee (f := 47) rfl ?_); refine goesL_ (some 64) rfl rfl Tryd.func47 (by kernel_rfl) rfl #[.int .u8 (bt a0 a1)] rfl (by (try simp only [List.map_toArray, List.map_cons, List.map_nil]); first | done | rfl | (simp only [List.length_drop, List.length_take]; rfl)) ?_; (with_reducible refine (jobshellref01_Blank.calls (bt a0 a1) false _ A25.out).mono ?_); rintro e w' ⟨rfl, ⟨nd, rfl⟩⟩; refine ⟨_, rfl, ?_⟩) | (go_at_call 48; (with_reducible refine (jobshellref01_OpByte.calls (bt a0 a1) false _ A28.out).mono ?_); rintro e w' ⟨rfl, ⟨nd, rfl⟩⟩))
                                  go_ret3
                                  exact ⟨by first | rfl | (simp; done) | (simp [*]; done) | exact congrArg (fun b => Ending.returned (Value.bool b)) (Ch.bne_nil _), by repeat (first | exact Drawn0.refl _ | apply Drawn0.step)⟩
                                · rw [if_neg c31] at H
                                  have c31b0 : ((bt a0 a1) == 96) = false := beq_eq_false_iff_ne.mpr c31
                                  have c31b1 : ((bt a0 a1) != 96) = true := bne_iff_ne.mpr c31
                                  by_cases c32 : 0 ≤ a1
                                  · rw [if_pos c32] at H
                                    have c32b0 := eq_true c32
                                    have c32b1 : decide (0 ≤ a1) = true := decide_eq_true c32
                                    clear c32
                                    by_cases c33 : a1 ≤ (wrap64 (a1 + 1))
                                    · rw [if_pos c33] at H
                                      have c33b0 := eq_true c33
                                      have c33b1 : decide (a1 ≤ (wrap64 (a1 + 1))) = true := decide_eq_true c33
                                      by_cases c34 : (wrap64 (a1 + 1)) ≤ (a0.size : Int)
                                      · rw [if_pos c34] at H
                                        have c34b0 := eq_true c34
                                        have c34b1 : decide ((wrap64 (a1 + 1)) ≤ (a0.size : Int)) = true := decide_eq_true c34
                                        simp only [Option.some.injEq, Prod.mk.injEq] at H
                                        obtain ⟨rfl, rfl, rfl⟩ := H
                                        go_wp2_with (first | ((with_reducible refine gate_callee (f := 47) rfl ?_); refine goesL_ (some 64) rfl rfl Tryd.func47 (by kernel_rfl) rfl #[.int .u8 (bt a0 a1)] rfl (by (try simp only [List.map_toArray, List.map_cons, List.map_nil]); first | done | rfl | (simp only [List.length_drop, List.length_take]; rfl)) ?_; (with_reducible refine (jobshellref01_Blank.calls (bt a0 a1) false _ A25.out).mono ?_); rintro e w' ⟨rfl, ⟨nd, rfl⟩⟩; refine ⟨_, rfl, ?_⟩) | (go_at_call 48; (with_reducible refine (jobshellref01_OpByte.calls (bt a0 a1) false _ A28.out).mono ?_); rintro e w' ⟨rfl, ⟨nd, rfl⟩⟩))
                                        go_ret3
                                        exact ⟨by first | rfl | (simp; done) | (simp [*]; done) | exact congrArg (fun b => Ending.returned (Value.bool b)) (Ch.bne_nil _), by repeat (first | exact Drawn0.refl _ | apply Drawn0.step)⟩
                                      · rw [if_neg c34] at H
                                        exact absurd H (by simp)
                                    · rw [if_neg c33] at H
                                      exact absurd H (by simp)
                                  · rw [if_neg c32] at H
                                    exact absurd H (by simp)
    · rw [if_neg c4] at H
      exact absurd H (by simp)
  · rw [if_neg c3] at H
    exact absurd H (by simp)

/-! ### jobshellref01_Unquote: function 20 -/
def jobshellref01_Unquote.l0 : Nat → ByteArray → ByteArray → Int → Option (ByteArray × Int)
  | 0, _, _, _ => none
  | k + 1, x0, x4, x5 => if x5 < (x0.size : Int) then ((jobshellref01_piece.f k x0 x5).bind fun bt144 => (if bt144.2.2 = 0 then (if x4.size + bt144.1.size ≤ 9223372036854775807 then (jobshellref01_Unquote.l0 k x0 (x4 ++ bt144.1) bt144.2.1) else (none)) else (some ((⟨#[]⟩ : ByteArray), bt144.2.2)))) else (some (x4, 0))
def jobshellref01_Unquote.f (k : Nat) (a0 : ByteArray) : Option (ByteArray × Int) := jobshellref01_Unquote.l0 k a0 (⟨#[]⟩ : ByteArray) 0
theorem jobshellref01_Unquote.mono_l : ∀ k, (∀ y0 y1 y2, LeO (jobshellref01_Unquote.l0 k y0 y1 y2) (jobshellref01_Unquote.l0 (k + 1) y0 y1 y2))
  | 0 => fun _ _ _ r h => by simp [jobshellref01_Unquote.l0] at h
  | k + 1 => by
    have ih0 := jobshellref01_Unquote.mono_l k
    · intro y0 y1 y2
      unfold jobshellref01_Unquote.l0
      repeat' first
      | (with_reducible exact ih0 _ _ _)
      | (with_reducible exact jobshellref01_piece.mono _ _ _)
      | (with_reducible exact LeO.refl _)
      | (with_reducible exact LeO.none _)
      | (with_reducible refine LeO.ite ?_ ?_)
      | (with_reducible refine LeO.bind ?_ (fun _ => ?_))
      | exact ih0 _ _ _
      | exact jobshellref01_piece.mono _ _ _
      | exact LeO.none _
      | refine LeO.ite ?_ ?_
      | refine LeO.bind ?_ (fun _ => ?_)
theorem jobshellref01_Unquote.mono : ∀ a0 k, LeO (jobshellref01_Unquote.f k a0) (jobshellref01_Unquote.f (k + 1) a0) := by
  intro a0 k
  have ih0 := jobshellref01_Unquote.mono_l k
  unfold jobshellref01_Unquote.f
  repeat' first
      | (with_reducible exact ih0 _ _ _)
      | (with_reducible exact jobshellref01_piece.mono _ _ _)
      | (with_reducible exact LeO.refl _)
      | (with_reducible exact LeO.none _)
      | (with_reducible refine LeO.ite ?_ ?_)
      | (with_reducible refine LeO.bind ?_ (fun _ => ?_))
      | exact ih0 _ _ _
      | exact jobshellref01_piece.mono _ _ _
      | exact LeO.none _
      | refine LeO.ite ?_ ?_
      | refine LeO.bind ?_ (fun _ => ?_)
set_option maxHeartbeats 8000000 in
set_option maxRecDepth 100000 in
theorem jobshellref01_Unquote.calls (k : Nat) (a0 : ByteArray) (r1 : ByteArray) (r2 : Int) (w : World) (h : jobshellref01_Unquote.f k a0 = some (r1, r2)) :
    Calls Tryd.prog 20 #[.string a0] w fun e w' => e = .returned (.tuple #[.string r1, .int .i64 r2]) ∧ Drawn0 w w' := by
  have H : (jobshellref01_Unquote.l0 k a0 (⟨#[]⟩ : ByteArray) 0) = some (r1, r2) := h
  clear h
  have H' := Aside0.mk H
  clear H
  go_enter Tryd.func20, Tryd.ntmps20
  go_wp2
  go_loopg [4, 5] k (fun kq v4 v5 w' => ∃ (x4_1 : ByteArray) (x5_1 : Int), v4 = .string x4_1 ∧ v5 = .int .i64 x5_1 ∧ Aside0 (jobshellref01_Unquote.l0 kq a0 x4_1 x5_1 = some (r1, r2)) ∧ Aside0 (kq ≤ k) ∧ Drawn0 w w')
  case atStart => exact ⟨((⟨#[]⟩ : ByteArray)), (0), (by first | rfl | (simp; done) | (simp [*]; done) | exact congrArg (fun b => Ending.returned (Value.bool b)) (Ch.bne_nil _)), (by first | rfl | (simp; done) | (simp [*]; done) | exact congrArg (fun b => Ending.returned (Value.bool b)) (Ch.bne_nil _)), H', ⟨Nat.le_refl _⟩, by repeat (first | exact Drawn0.refl _ | apply Drawn0.step)⟩
  case round =>
    clear H'
    obtain ⟨x4_1, x5_1, rfl, rfl, HA, HK1, ⟨m1, rfl⟩⟩ := hrel
    cases gk with
    | zero => exact absurd HA.out (by simp [jobshellref01_Unquote.l0])
    | succ k1 =>
      have H := HA.out
      clear HA
      simp only [jobshellref01_Unquote.l0] at H
      by_cases c2 : x5_1 < (a0.size : Int)
      · rw [if_pos c2] at H
        have c2b0 : decide (x5_1 < (a0.size : Int)) = true := decide_eq_true c2
        clear c2
        replace H := Option.bind_eq_some_iff.mp H
        obtain ⟨⟨t144, t145, t146⟩, A30, H⟩ := H
        replace H : (if t146 = 0 then (if x4_1.size + t144.size ≤ 9223372036854775807 then (jobshellref01_Unquote.l0 k1 a0 (x4_1 ++ t144) t145) else (none)) else (some ((⟨#[]⟩ : ByteArray), t146))) = some (r1, r2) := H
        have A3 := Aside0.mk A30
        clear A30
        by_cases c4 : t146 = 0
        · rw [if_pos c4] at H
          have c4b0 : (t146 == 0) = true := beq_iff_eq.mpr c4
          have c4b1 : (t146 != 0) = false := bne_eq_false_iff_eq.mpr c4
          clear c4
          by_cases c5 : x4_1.size + t144.size ≤ 9223372036854775807
          · rw [if_pos c5] at H
            have c5b0 := eq_true c5
            have c5b1 : decide (x4_1.size + t144.size ≤ 9223372036854775807) = true := decide_eq_true c5
            try have c5b2 : (9223372036854775807 < x4_1.size + t144.size) = False := eq_false (Nat.not_lt.2 c5)
            have H' := Aside0.mk H
            clear H
            go_wp2_with (first | ((with_reducible refine gate_callee (f := 37) rfl ?_); refine goesL_ (some 16) rfl rfl Tryd.func37 (by kernel_rfl) rfl #[.string a0, .int .i64 x5_1] rfl (by (try simp only [List.map_toArray, List.map_cons, List.map_nil]); first | done | rfl | (simp only [List.length_drop, List.length_take]; rfl)) ?_; (with_reducible refine (jobshellref01_piece.calls k1 a0 x5_1 t144 t145 t146 _ A3.out).mono ?_); rintro e w' ⟨rfl, ⟨nd, rfl⟩⟩; refine ⟨_, rfl, ?_⟩))
            go_roundg k1
            case measure => have := HK1.out; omega
            case rel => exact ⟨(x4_1 ++ t144), (t145), (by first | rfl | (simp; done) | (simp [*]; done) | exact congrArg (fun b => Ending.returned (Value.bool b)) (Ch.bne_nil _)), (by first | rfl | (simp; done) | (simp [*]; done) | exact congrArg (fun b => Ending.returned (Value.bool b)) (Ch.bne_nil _)), H', ⟨by have := HK1.out; omega⟩, by repeat (first | exact Drawn0.refl _ | apply Drawn0.step)⟩
          · rw [if_neg c5] at H
            exact absurd H (by simp)
        · rw [if_neg c4] at H
          have c4b0 : (t146 == 0) = false := beq_eq_false_iff_ne.mpr c4
          have c4b1 : (t146 != 0) = true := bne_iff_ne.mpr c4
          simp only [Option.some.injEq, Prod.mk.injEq] at H
          obtain ⟨rfl, rfl⟩ := H
          go_wp2_with (first | ((with_reducible refine gate_callee (f := 37) rfl ?_); refine goesL_ (some 16) rfl rfl Tryd.func37 (by kernel_rfl) rfl #[.string a0, .int .i64 x5_1] rfl (by (try simp only [List.map_toArray, List.map_cons, List.map_nil]); first | done | rfl | (simp only [List.length_drop, List.length_take]; rfl)) ?_; (with_reducible refine (jobshellref01_piece.calls k1 a0 x5_1 t144 t145 t146 _ A3.out).mono ?_); rintro e w' ⟨rfl, ⟨nd, rfl⟩⟩; refine ⟨_, rfl, ?_⟩))
          go_ret2
          exact ⟨by first | rfl | (simp; done) | (simp [*]; done) | exact congrArg (fun b => Ending.returned (Value.bool b)) (Ch.bne_nil _), by repeat (first | exact Drawn0.refl _ | apply Drawn0.step)⟩
      · rw [if_neg c2] at H
        have c2b0 : decide (x5_1 < (a0.size : Int)) = false := decide_eq_false c2
        clear c2
        simp only [Option.some.injEq, Prod.mk.injEq] at H
        obtain ⟨rfl, rfl⟩ := H
        go_wp2
        go_ret2
        exact ⟨by first | rfl | (simp; done) | (simp [*]; done) | exact congrArg (fun b => Ending.returned (Value.bool b)) (Ch.bne_nil _), by repeat (first | exact Drawn0.refl _ | apply Drawn0.step)⟩

/-! ### jobshelllaw01_CharsUnquotes: function 5 -/
def jobshelllaw01_CharsUnquotes.f (k : Nat) (a0 : ByteArray) : Option (Bool) := if (a0.size : Int) > 1000 then ((jobshelllaw01_awake.f).bind fun t147 => (some t147)) else ((chars_Unquote.f a0).bind fun bt148 => ((jobshellref01_Unquote.f k a0).bind fun bt150 => (if bt148.1.toList = bt150.1.toList then (if bt148.2 = bt150.2 then ((jobshelllaw01_awake.f).bind fun t152 => (some t152)) else (some false)) else (some false))))
theorem jobshelllaw01_CharsUnquotes.mono : ∀ a0 k, LeO (jobshelllaw01_CharsUnquotes.f k a0) (jobshelllaw01_CharsUnquotes.f (k + 1) a0) := by
  intro a0 k
  unfold jobshelllaw01_CharsUnquotes.f
  repeat' first
      | (with_reducible exact jobshellref01_Unquote.mono _ _)
      | (with_reducible exact LeO.refl _)
      | (with_reducible exact LeO.none _)
      | (with_reducible refine LeO.ite ?_ ?_)
      | (with_reducible refine LeO.bind ?_ (fun _ => ?_))
      | exact jobshellref01_Unquote.mono _ _
      | exact LeO.none _
      | refine LeO.ite ?_ ?_
      | refine LeO.bind ?_ (fun _ => ?_)
set_option maxHeartbeats 8000000 in
set_option maxRecDepth 100000 in
theorem jobshelllaw01_CharsUnquotes.calls (k : Nat) (a0 : ByteArray) (r : Bool) (w : World) (h : jobshelllaw01_CharsUnquotes.f k a0 = some r) :
    Calls Tryd.prog 5 #[.string a0] w fun e w' => e = .returned (.bool r) ∧ Below w.heap.size w w' := by
  have HB := Aside0.mk (Below.refl w.heap.size w)
  have H : (if (a0.size : Int) > 1000 then ((jobshelllaw01_awake.f).bind fun t147 => (some t147)) else ((chars_Unquote.f a0).bind fun bt148 => ((jobshellref01_Unquote.f k a0).bind fun bt150 => (if bt148.1.toList = bt150.1.toList then (if bt148.2 = bt150.2 then ((jobshelllaw01_awake.f).bind fun t152 => (some t152)) else (some false)) else (some false))))) = some r := h
  clear h
  by_cases c2 : (a0.size : Int) > 1000
  · rw [if_pos c2] at H
    have c2b0 : decide (1000 < (a0.size : Int)) = true := decide_eq_true c2
    have c2b1 : decide (1000 < a0.size) = true := decide_eq_true (by omega)
    clear c2
    replace H := Option.bind_eq_some_iff.mp H
    obtain ⟨t147, A30, H⟩ := H
    replace H : (some t147) = some r := H
    have A3 := Aside0.mk A30
    clear A30
    obtain rfl := Option.some.inj H
    go_enter Tryd.func5, Tryd.ntmps5
    go_wp2_with (first | ((with_reducible refine gate_callee (f := 10) rfl ?_); refine goesL_ (some 10) rfl rfl Tryd.func10 (by kernel_rfl) rfl #[] rfl (by (try simp only [List.map_toArray, List.map_cons, List.map_nil]); first | done | rfl | (simp only [List.length_drop, List.length_take]; rfl)) ?_; (with_reducible refine (jobshelllaw01_awake.calls  t147 _ A3.out).mono ?_); rintro e w4 ⟨rfl, hb⟩; refine ⟨_, rfl, ?_⟩; have n0_ := Aside0.mk (below_step (by repeat (first | (with_reducible first | exact HB.out | apply below_alloc | apply pw_below_drewN | apply below_drew1) | exact HB.out)) hb); clear HB; have HB := n0_; clear n0_; (try clear hb); (try clear hb2); (try clear hk); (try clear hi)))
    go_ret
    exact ⟨by first | rfl | (simp [errW_none, errW_some] <;> rfl) | (simp [*, errW_none, errW_some] <;> rfl), by repeat (first | (with_reducible first | exact HB.out | apply below_alloc | apply pw_below_drewN | apply below_drew1) | exact HB.out)⟩
  · rw [if_neg c2] at H
    have c2b0 : decide (1000 < (a0.size : Int)) = false := decide_eq_false c2
    have c2b1 : decide (1000 < a0.size) = false := decide_eq_false (by omega)
    clear c2
    replace H := Option.bind_eq_some_iff.mp H
    obtain ⟨⟨t148, t149⟩, A50, H⟩ := H
    replace H : ((jobshellref01_Unquote.f k a0).bind fun bt150 => (if t148.toList = bt150.1.toList then (if t149 = bt150.2 then ((jobshelllaw01_awake.f).bind fun t152 => (some t152)) else (some false)) else (some false))) = some r := H
    have A5 := Aside0.mk A50
    clear A50
    replace H := Option.bind_eq_some_iff.mp H
    obtain ⟨⟨t150, t151⟩, A60, H⟩ := H
    replace H : (if t148.toList = t150.toList then (if t149 = t151 then ((jobshelllaw01_awake.f).bind fun t152 => (some t152)) else (some false)) else (some false)) = some r := H
    have A6 := Aside0.mk A60
    clear A60
    by_cases c7 : t148.toList = t150.toList
    · rw [if_pos c7] at H
      have c7b0 : (t148.toList == t150.toList) = true := beq_iff_eq.mpr c7
      have c7b1 : (t148.toList != t150.toList) = false := bne_eq_false_iff_eq.mpr c7
      clear c7
      by_cases c8 : t149 = t151
      · rw [if_pos c8] at H
        have c8b0 : (t149 == t151) = true := beq_iff_eq.mpr c8
        have c8b1 : (t149 != t151) = false := bne_eq_false_iff_eq.mpr c8
        clear c8
        replace H := Option.bind_eq_some_iff.mp H
        obtain ⟨t152, A90, H⟩ := H
        replace H : (some t152) = some r := H
        have A9 := Aside0.mk A90
        clear A90
        obtain rfl := Option.some.inj H
        go_enter Tryd.func5, Tryd.ntmps5
        go_wp2_with (first | ((with_reducible refine gate_callee (f := 19) rfl ?_); refine goesL_ (some 13) rfl rfl Tryd.func19 (by kernel_rfl) rfl #[.string a0] rfl (by (try simp only [List.map_toArray, List.map_cons, List.map_nil]); first | done | rfl | (simp only [List.length_drop, List.length_take]; rfl)) ?_; (with_reducible refine (chars_Unquote.calls a0 t148 t149 _ A5.out).mono ?_); rintro e w10 ⟨rfl, hb⟩; refine ⟨_, rfl, ?_⟩; have n0_ := Aside0.mk (below_step (by repeat (first | (with_reducible first | exact HB.out | apply below_alloc | apply pw_below_drewN | apply below_drew1) | exact HB.out)) hb); clear HB; have HB := n0_; clear n0_; (try clear hb); (try clear hb2); (try clear hk); (try clear hi)) | ((with_reducible refine gate_callee (f := 20) rfl ?_); refine goesL_ (some 18) rfl rfl Tryd.func20 (by kernel_rfl) rfl #[.string a0] rfl (by (try simp only [List.map_toArray, List.map_cons, List.map_nil]); first | done | rfl | (simp only [List.length_drop, List.length_take]; rfl)) ?_; (with_reducible refine (jobshellref01_Unquote.calls k a0 t150 t151 _ A6.out).mono ?_); rintro e w' ⟨rfl, ⟨nd, rfl⟩⟩; refine ⟨_, rfl, ?_⟩) | (go_at_call 10; (with_reducible refine (jobshelllaw01_awake.calls  t152 _ A9.out).mono ?_); rintro e w11 ⟨rfl, hb⟩; have n0_ := Aside0.mk (below_step (by repeat (first | (with_reducible first | exact HB.out | apply below_alloc | apply pw_below_drewN | apply below_drew1) | exact HB.out)) hb); clear HB; have HB := n0_; clear n0_; (try clear hb); (try clear hb2); (try clear hk); (try clear hi)))
        go_ret
        exact ⟨by first | rfl | (simp [errW_none, errW_some] <;> rfl) | (simp [*, errW_none, errW_some] <;> rfl), by repeat (first | (with_reducible first | exact HB.out | apply below_alloc | apply pw_below_drewN | apply below_drew1) | exact HB.out)⟩
      · rw [if_neg c8] at H
        have c8b0 : (t149 == t151) = false := beq_eq_false_iff_ne.mpr c8
        have c8b1 : (t149 != t151) = true := bne_iff_ne.mpr c8
        obtain rfl := Option.some.inj H
        go_enter Tryd.func5, Tryd.ntmps5
        go_wp2_with (first | ((with_reducible refine gate_callee (f := 19) rfl ?_); refine goesL_ (some 13) rfl rfl Tryd.func19 (by kernel_rfl) rfl #[.string a0] rfl (by (try simp only [List.map_toArray, List.map_cons, List.map_nil]); first | done | rfl | (simp only [List.length_drop, List.length_take]; rfl)) ?_; (with_reducible refine (chars_Unquote.calls a0 t148 t149 _ A5.out).mono ?_); rintro e w12 ⟨rfl, hb⟩; refine ⟨_, rfl, ?_⟩; have n0_ := Aside0.mk (below_step (by repeat (first | (with_reducible first | exact HB.out | apply below_alloc | apply pw_below_drewN | apply below_drew1) | exact HB.out)) hb); clear HB; have HB := n0_; clear n0_; (try clear hb); (try clear hb2); (try clear hk); (try clear hi)) | ((with_reducible refine gate_callee (f := 20) rfl ?_); refine goesL_ (some 18) rfl rfl Tryd.func20 (by kernel_rfl) rfl #[.string a0] rfl (by (try simp only [List.map_toArray, List.map_cons, List.map_nil]); first | done | rfl | (simp only [List.length_drop, List.length_take]; rfl)) ?_; (with_reducible refine (jobshellref01_Unquote.calls k a0 t150 t151 _ A6.out).mono ?_); rintro e w' ⟨rfl, ⟨nd, rfl⟩⟩; refine ⟨_, rfl, ?_⟩))
        go_ret
        exact ⟨by first | rfl | (simp [errW_none, errW_some] <;> rfl) | (simp [*, errW_none, errW_some] <;> rfl), by repeat (first | (with_reducible first | exact HB.out | apply below_alloc | apply pw_below_drewN | apply below_drew1) | exact HB.out)⟩
    · rw [if_neg c7] at H
      have c7b0 : (t148.toList == t150.toList) = false := beq_eq_false_iff_ne.mpr c7
      have c7b1 : (t148.toList != t150.toList) = true := bne_iff_ne.mpr c7
      obtain rfl := Option.some.inj H
      go_enter Tryd.func5, Tryd.ntmps5
      go_wp2_with (first | ((with_reducible refine gate_callee (f := 19) rfl ?_); refine goesL_ (some 13) rfl rfl Tryd.func19 (by kernel_rfl) rfl #[.string a0] rfl (by (try simp only [List.map_toArray, List.map_cons, List.map_nil]); first | done | rfl | (simp only [List.length_drop, List.length_take]; rfl)) ?_; (with_reducible refine (chars_Unquote.calls a0 t148 t149 _ A5.out).mono ?_); rintro e w13 ⟨rfl, hb⟩; refine ⟨_, rfl, ?_⟩; have n0_ := Aside0.mk (below_step (by repeat (first | (with_reducible first | exact HB.out | apply below_alloc | apply pw_below_drewN | apply below_drew1) | exact HB.out)) hb); clear HB; have HB := n0_; clear n0_; (try clear hb); (try clear hb2); (try clear hk); (try clear hi)) | ((with_reducible refine gate_callee (f := 20) rfl ?_); refine goesL_ (some 18) rfl rfl Tryd.func20 (by kernel_rfl) rfl #[.string a0] rfl (by (try simp only [List.map_toArray, List.map_cons, List.map_nil]); first | done | rfl | (simp only [List.length_drop, List.length_take]; rfl)) ?_; (with_reducible refine (jobshellref01_Unquote.calls k a0 t150 t151 _ A6.out).mono ?_); rintro e w' ⟨rfl, ⟨nd, rfl⟩⟩; refine ⟨_, rfl, ?_⟩))
      go_ret
      exact ⟨by first | rfl | (simp [errW_none, errW_some] <;> rfl) | (simp [*, errW_none, errW_some] <;> rfl), by repeat (first | (with_reducible first | exact HB.out | apply below_alloc | apply pw_below_drewN | apply below_drew1) | exact HB.out)⟩

/-- THE ONE PURE STATEMENT of jobshelllaw01_CharsUnquotes: yours. -/
def jobshelllaw01_CharsUnquotes.Pure : Prop := ∀ (a0 : ByteArray), a0.size ≤ 140737488351232 → ∃ k, jobshelllaw01_CharsUnquotes.f k a0 = some true
theorem jobshelllaw01_CharsUnquotes.walk (P : jobshelllaw01_CharsUnquotes.Pure) (a0 : ByteArray) (w : World) (w0 : a0.size ≤ 140737488351232) :
    Calls Tryd.prog 5 #[.string a0] w fun e w' => e = .returned (.bool true) ∧ Below w.heap.size w w' := by
  obtain ⟨k, h⟩ := P a0 w0
  refine (jobshelllaw01_CharsUnquotes.calls k a0 true w h).mono ?_
  rintro e w' ⟨rfl, hd⟩
  exact ⟨rfl, hd⟩

end Go.Proofs.YtmphbpkhaoaedaaDoor.PA

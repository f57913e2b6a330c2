-- Written by a program of this session's (wip/mkprint.py) out of the translation; the texts of functions that the program does not take are mine.
import Derived.Test.YthafbimhmfjcoaaDoorPVx0
namespace Go.Proofs.YthafbimhmfjcoaaDoor.PV
open Go.RowKit Go.Proofs.YthafbimhmfjcoaaDoorW.PrintWords Go.Proofs.YthafbimhmfjcoaaDoorW.PrintLast Go.Proofs.YthafbimhmfjcoaaDoorW.PrintMore
attribute [local go_sem] max2_int min2_int max_two min_two max_three min_three max_four min_four   -- for this text's walks alone
set_option linter.unusedVariables false
set_option linter.unusedSimpArgs false

def jobshellref36_named.l0 : Nat → List (S35) → Int → Int → Option (Int)
  | 0, _, _, _ => none
  | k + 1, x0, x1, x5 => if x5 < (x0.length : Int) then (if 0 ≤ x5 then (if ((rd_T35 x0 x5).f0) = x1 then (some x5) else (jobshellref36_named.l0 k x0 x1 (wrap64 (x5 + 1)))) else (none)) else (some (-1))
def jobshellref36_named.f (k : Nat) (l0 : List (S35)) (a1 : Int) : Option (Int) := jobshellref36_named.l0 k l0 a1 0
theorem jobshellref36_named.mono_l : ∀ k, (∀ y0 y1 y2, LeO (jobshellref36_named.l0 k y0 y1 y2) (jobshellref36_named.l0 (k + 1) y0 y1 y2))
  | 0 => fun _ _ _ r h => by simp [jobshellref36_named.l0] at h
  | k + 1 => by
    have ih0 := jobshellref36_named.mono_l k
    · intro y0 y1 y2
      unfold jobshellref36_named.l0
      repeat' first
      | (with_reducible exact ih0 _ _ _)
      | (with_reducible exact LeO.refl _)
      | (with_reducible exact LeO.none _)
      | (with_reducible refine LeO.ite ?_ ?_)
      | (with_reducible refine LeO.bind ?_ (fun _ => ?_))
      | exact ih0 _ _ _
      | exact LeO.none _
      | refine LeO.ite ?_ ?_
      | refine LeO.bind ?_ (fun _ => ?_)
theorem jobshellref36_named.mono : ∀ a0 a1 k, LeO (jobshellref36_named.f k a0 a1) (jobshellref36_named.f (k + 1) a0 a1) := by
  intro a0 a1 k
  have ih0 := jobshellref36_named.mono_l k
  unfold jobshellref36_named.f
  repeat' first
      | (with_reducible exact ih0 _ _ _)
      | (with_reducible exact LeO.refl _)
      | (with_reducible exact LeO.none _)
      | (with_reducible refine LeO.ite ?_ ?_)
      | (with_reducible refine LeO.bind ?_ (fun _ => ?_))
      | exact ih0 _ _ _
      | exact LeO.none _
      | refine LeO.ite ?_ ?_
      | refine LeO.bind ?_ (fun _ => ?_)
set_option maxHeartbeats 8000000 in
set_option maxRecDepth 100000 in
theorem jobshellref36_named.calls (k : Nat) (A0 : Option Addr) (c0 : Nat) (l0 : List (S35)) (a1 : Int) (r : Int) (w : World) (hr0 : Kd.C k35 w A0 l0.length l0) (hc0 : l0.length ≤ c0) (h : jobshellref36_named.f k l0 a1 = some r) (hG : Gl w) :
    Calls Tryd.prog 31 #[.slice A0 l0.length c0, .int .i64 a1] w fun e w' => e = .returned (.int .i64 r) ∧ Drawn0 w w' := by
  have HG := Aside0.mk hG
  clear hG
  have HR0 := Aside0.mk hr0
  have HC0 := Aside0.mk hc0
  clear hr0 hc0
  have H : (jobshellref36_named.l0 k l0 a1 0) = some r := h
  clear h
  have H' := Aside0.mk H
  clear H
  go_enter Tryd.func31, Tryd.ntmps31
  go_wp2
  go_loopg [5] k (fun kq v5 w' => ∃ (x5_1 : Int), v5 = .int .i64 x5_1 ∧ Aside0 (jobshellref36_named.l0 kq l0 a1 x5_1 = some r) ∧ Aside0 (kq ≤ k) ∧ Drawn0 w w')
  case atStart => exact ⟨(0), (by first | rfl | (simp; done) | (simp [*]; done)), H', ⟨Nat.le_refl _⟩, by repeat (first | exact Drawn0.refl _ | apply Drawn0.step)⟩
  case round =>
    clear H'
    obtain ⟨x5_1, rfl, HA, HK1, ⟨m1, rfl⟩⟩ := hrel
    cases gk with
    | zero => exact absurd HA.out (by simp [jobshellref36_named.l0])
    | succ k1 =>
      have H := HA.out
      clear HA
      simp only [jobshellref36_named.l0] at H
      by_cases c3 : x5_1 < (l0.length : Int)
      rotate_left
      · rw [if_neg c3] at H
        have c3b0 : decide (x5_1 < (l0.length : Int)) = false := decide_eq_false c3
        clear c3
        obtain rfl := Option.some.inj H
        go_wp2
        go_ret
        exact ⟨by first | rfl | (simp; done) | (simp [*]; done), by repeat (first | exact Drawn0.refl _ | apply Drawn0.step)⟩

      rw [if_pos c3] at H
      have c3b0 : decide (x5_1 < (l0.length : Int)) = true := decide_eq_true c3
      clear c3
      by_cases c4 : 0 ≤ x5_1
      rotate_left
      · rw [if_neg c4] at H
        exact absurd H (by simp)
      rw [if_pos c4] at H
      have c4b0 : decide (0 ≤ x5_1) = true := decide_eq_true c4
      clear c4
      by_cases c5 : ((rd_T35 l0 x5_1).f0) = a1
      · rw [if_pos c5] at H
        have c5b0 : (((rd_T35 l0 x5_1).f0) == a1) = true := beq_iff_eq.mpr c5
        have c5b1 : (((rd_T35 l0 x5_1).f0) != a1) = false := bne_eq_false_iff_eq.mpr c5
        clear c5
        obtain rfl := Option.some.inj H
        have p245 : 0 ≤ (x5_1 : Int) := of_decide_eq_true (by with_reducible assumption)
        have q245 : x5_1 < (l0.length : Int) := of_decide_eq_true (by with_reducible assumption)
        obtain ⟨ad245, A245_3, c245_3, A245_4, c245_4, e245, hx245_0, hx245_1, hx245_2, hx245_3, hx245_4, hx245_5, hx245_6, hl245_3, hi245_3, hl245_4, hi245_4⟩ := at_T35 HR0.out x5_1 p245 q245
        cases e245
        have HR245_3 := Aside0.mk hi245_3
        have HC245_3 := Aside0.mk hl245_3
        clear hi245_3 hl245_3
        have HR245_4 := Aside0.mk hi245_4
        have HC245_4 := Aside0.mk hl245_4
        clear hi245_4 hl245_4
        replace p245 := eq_true p245
        replace q245 := eq_true q245
        go_wp2
        go_ret
        exact ⟨by first | rfl | (simp; done) | (simp [*]; done), by repeat (first | exact Drawn0.refl _ | apply Drawn0.step)⟩
      rw [if_neg c5] at H
      have c5b0 : (((rd_T35 l0 x5_1).f0) == a1) = false := beq_eq_false_iff_ne.mpr c5
      have c5b1 : (((rd_T35 l0 x5_1).f0) != a1) = true := bne_iff_ne.mpr c5
      have H' := Aside0.mk H
      clear H
      have p245 : 0 ≤ (x5_1 : Int) := of_decide_eq_true (by with_reducible assumption)
      have q245 : x5_1 < (l0.length : Int) := of_decide_eq_true (by with_reducible assumption)
      obtain ⟨ad245, A245_3, c245_3, A245_4, c245_4, e245, hx245_0, hx245_1, hx245_2, hx245_3, hx245_4, hx245_5, hx245_6, hl245_3, hi245_3, hl245_4, hi245_4⟩ := at_T35 HR0.out x5_1 p245 q245
      cases e245
      have HR245_3 := Aside0.mk hi245_3
      have HC245_3 := Aside0.mk hl245_3
      clear hi245_3 hl245_3
      have HR245_4 := Aside0.mk hi245_4
      have HC245_4 := Aside0.mk hl245_4
      clear hi245_4 hl245_4
      replace p245 := eq_true p245
      replace q245 := eq_true q245
      go_wp2
      go_roundg k1
      case measure => have := HK1.out; omega
      case rel => exact ⟨(wrap64 (x5_1 + 1)), (by first | rfl | (simp; done) | (simp [*]; done)), H', ⟨by have := HK1.out; omega⟩, by repeat (first | exact Drawn0.refl _ | apply Drawn0.step)⟩
def jobshellref22_Kind.j0 : Nat → Int → Bool → Option (Int × Int)
  | 0, _, _ => none
  | k + 1, x0, x11 => if x11 = true then (some ((-1), 0)) else (if (wrap64 (Int.tdiv x0 256)) = 1 then (if (Int.tmod x0 256) < 1 then (some ((-1), 0)) else (if (Int.tmod x0 256) > 20 then (some ((-1), 0)) else (some (wrap64 (Int.tdiv x0 256), Int.tmod x0 256)))) else (if (wrap64 (Int.tdiv x0 256)) = 2 then (if (Int.tmod x0 256) < 1 then (some ((-1), 0)) else (if (Int.tmod x0 256) > 20 then (some ((-1), 0)) else (some (wrap64 (Int.tdiv x0 256), Int.tmod x0 256)))) else (some (wrap64 (Int.tdiv x0 256), Int.tmod x0 256))))
def jobshellref22_Kind.f (k : Nat) (a0 : Int) : Option (Int × Int) := if a0 < 0 then (jobshellref22_Kind.j0 k a0 true) else (jobshellref22_Kind.j0 k a0 (decide (a0 > 768)))
theorem jobshellref22_Kind.mono_l : ∀ k, (∀ y0 y1, LeO (jobshellref22_Kind.j0 k y0 y1) (jobshellref22_Kind.j0 (k + 1) y0 y1))
  | 0 => fun _ _ r h => by simp [jobshellref22_Kind.j0] at h
  | k + 1 => by
    have ih0 := jobshellref22_Kind.mono_l k
    · intro y0 y1
      unfold jobshellref22_Kind.j0
      repeat' first
      | (with_reducible exact ih0 _ _)
      | (with_reducible exact LeO.refl _)
      | (with_reducible exact LeO.none _)
      | (with_reducible refine LeO.ite ?_ ?_)
      | (with_reducible refine LeO.bind ?_ (fun _ => ?_))
      | exact ih0 _ _
      | exact LeO.none _
      | refine LeO.ite ?_ ?_
      | refine LeO.bind ?_ (fun _ => ?_)
theorem jobshellref22_Kind.mono : ∀ a0 k, LeO (jobshellref22_Kind.f k a0) (jobshellref22_Kind.f (k + 1) a0) := by
  intro a0 k
  have ih0 := jobshellref22_Kind.mono_l k
  unfold jobshellref22_Kind.f
  repeat' first
      | (with_reducible exact ih0 _ _)
      | (with_reducible exact LeO.refl _)
      | (with_reducible exact LeO.none _)
      | (with_reducible refine LeO.ite ?_ ?_)
      | (with_reducible refine LeO.bind ?_ (fun _ => ?_))
      | exact ih0 _ _
      | exact LeO.none _
      | refine LeO.ite ?_ ?_
      | refine LeO.bind ?_ (fun _ => ?_)
set_option maxHeartbeats 8000000 in
set_option maxRecDepth 100000 in
theorem jobshellref22_Kind.calls (k : Nat) (a0 : Int) (r1 : Int) (r2 : Int) (w : World) (h : jobshellref22_Kind.f k a0 = some (r1, r2)) (hG : Gl w) :
    Calls Tryd.prog 60 #[.int .i64 a0] w fun e w' => e = .returned (.tuple #[.int .i64 r1, .int .i64 r2]) ∧ Drawn0 w w' := by
  have HG := Aside0.mk hG
  clear hG
  have H : (if a0 < 0 then (jobshellref22_Kind.j0 k a0 true) else (jobshellref22_Kind.j0 k a0 (decide (a0 > 768)))) = some (r1, r2) := h
  clear h
  have HC2 := Aside0.mk H
  clear H
  go_enter Tryd.func60, Tryd.ntmps60
  go_upto_region 1 with (fail)
  go_cut [11] (fun v11 wc => ∃ (kq : Nat) (x11_1 : Bool), v11 = .bool x11_1 ∧ Aside0 (jobshellref22_Kind.j0 kq a0 x11_1 = some (r1, r2)) ∧ Aside0 (kq ≤ k) ∧ Drawn0 w wc)
  case first =>
    have H := HC2.out
    clear HC2
    by_cases c3 : a0 < 0
    rotate_left
    · rw [if_neg c3] at H
      have c3b0 : decide (a0 < 0) = false := decide_eq_false c3
      clear c3
      (first | rw [c3b0] | (simp only [i64_w, i32_w]; rw [c3b0]) | skip)
      have H' := Aside0.mk H
      clear H
      go_wp2
      go_meet
      case rel => exact ⟨_, (decide (a0 > 768)), (by first | rfl | (simp; done) | (simp [*]; done)), H', ⟨by first | omega | exact Nat.le_refl _⟩, by repeat (first | exact Drawn0.refl _ | apply Drawn0.step)⟩
    rw [if_pos c3] at H
    have c3b0 : decide (a0 < 0) = true := decide_eq_true c3
    clear c3
    (first | rw [c3b0] | (simp only [i64_w, i32_w]; rw [c3b0]) | skip)
    have H' := Aside0.mk H
    clear H
    go_wp2
    go_meet
    case rel => exact ⟨_, (true), (by first | rfl | (simp; done) | (simp [*]; done)), H', ⟨by first | omega | exact Nat.le_refl _⟩, by repeat (first | exact Drawn0.refl _ | apply Drawn0.step)⟩
  case rest =>
    clear HC2
    obtain ⟨kq, x11_1, rfl, HA, HJ1, ⟨mc1, rfl⟩⟩ := hcut
    cases kq with
    | zero => exact absurd HA.out (by simp [jobshellref22_Kind.j0])
    | succ kj1 =>
      have H := HA.out
      clear HA
      simp only [jobshellref22_Kind.j0] at H
      by_cases c4 : x11_1 = true
      · subst c4
        have H1 : (some ((-1), 0)) = some (r1, r2) := by rw [if_pos rfl] at H; exact H
        clear H
        have H := H1
        clear H1
        simp only [Option.some.injEq, Prod.mk.injEq] at H
        obtain ⟨rfl, rfl⟩ := H
        go_wp2
        go_ret2
        exact ⟨by first | rfl | (simp; done) | (simp [*]; done), by repeat (first | exact Drawn0.refl _ | apply Drawn0.step)⟩
      replace c4 := Bool.eq_false_iff.mpr c4
      subst c4
      have H1 : (if (wrap64 (Int.tdiv a0 256)) = 1 then (if (Int.tmod a0 256) < 1 then (some ((-1), 0)) else (if (Int.tmod a0 256) > 20 then (some ((-1), 0)) else (some (wrap64 (Int.tdiv a0 256), Int.tmod a0 256)))) else (if (wrap64 (Int.tdiv a0 256)) = 2 then (if (Int.tmod a0 256) < 1 then (some ((-1), 0)) else (if (Int.tmod a0 256) > 20 then (some ((-1), 0)) else (some (wrap64 (Int.tdiv a0 256), Int.tmod a0 256)))) else (some (wrap64 (Int.tdiv a0 256), Int.tmod a0 256)))) = some (r1, r2) := by rw [if_neg (show ¬ (false = true) by decide)] at H; exact H
      clear H
      have H := H1
      clear H1
      by_cases c5 : (wrap64 (Int.tdiv a0 256)) = 1
      · rw [if_pos c5] at H
        have c5b0 : ((wrap64 (Int.tdiv a0 256)) == 1) = true := beq_iff_eq.mpr c5
        have c5b1 : ((wrap64 (Int.tdiv a0 256)) != 1) = false := bne_eq_false_iff_eq.mpr c5
        clear c5
        by_cases c6 : (Int.tmod a0 256) < 1
        · rw [if_pos c6] at H
          have c6b0 : decide ((Int.tmod a0 256) < 1) = true := decide_eq_true c6
          clear c6
          simp only [Option.some.injEq, Prod.mk.injEq] at H
          obtain ⟨rfl, rfl⟩ := H
          go_wp2
          go_ret2
          exact ⟨by first | rfl | (simp; done) | (simp [*]; done), by repeat (first | exact Drawn0.refl _ | apply Drawn0.step)⟩
        rw [if_neg c6] at H
        have c6b0 : decide ((Int.tmod a0 256) < 1) = false := decide_eq_false c6
        clear c6
        by_cases c7 : (Int.tmod a0 256) > 20
        rotate_left
        · rw [if_neg c7] at H
          have c7b0 : decide (20 < (Int.tmod a0 256)) = false := decide_eq_false c7
          clear c7
          simp only [Option.some.injEq, Prod.mk.injEq] at H
          obtain ⟨rfl, rfl⟩ := H
          go_wp2
          go_ret2
          exact ⟨by first | rfl | (simp; done) | (simp [*]; done), by repeat (first | exact Drawn0.refl _ | apply Drawn0.step)⟩
        rw [if_pos c7] at H
        have c7b0 : decide (20 < (Int.tmod a0 256)) = true := decide_eq_true c7
        clear c7
        simp only [Option.some.injEq, Prod.mk.injEq] at H
        obtain ⟨rfl, rfl⟩ := H
        go_wp2
        go_ret2
        exact ⟨by first | rfl | (simp; done) | (simp [*]; done), by repeat (first | exact Drawn0.refl _ | apply Drawn0.step)⟩
      rw [if_neg c5] at H
      have c5b0 : ((wrap64 (Int.tdiv a0 256)) == 1) = false := beq_eq_false_iff_ne.mpr c5
      have c5b1 : ((wrap64 (Int.tdiv a0 256)) != 1) = true := bne_iff_ne.mpr c5
      by_cases c8 : (wrap64 (Int.tdiv a0 256)) = 2
      rotate_left
      · rw [if_neg c8] at H
        have c8b0 : ((wrap64 (Int.tdiv a0 256)) == 2) = false := beq_eq_false_iff_ne.mpr c8
        have c8b1 : ((wrap64 (Int.tdiv a0 256)) != 2) = true := bne_iff_ne.mpr c8
        simp only [Option.some.injEq, Prod.mk.injEq] at H
        obtain ⟨rfl, rfl⟩ := H
        go_wp2
        go_ret2
        exact ⟨by first | rfl | (simp; done) | (simp [*]; done), by repeat (first | exact Drawn0.refl _ | apply Drawn0.step)⟩

      rw [if_pos c8] at H
      have c8b0 : ((wrap64 (Int.tdiv a0 256)) == 2) = true := beq_iff_eq.mpr c8
      have c8b1 : ((wrap64 (Int.tdiv a0 256)) != 2) = false := bne_eq_false_iff_eq.mpr c8
      clear c8
      by_cases c9 : (Int.tmod a0 256) < 1
      · rw [if_pos c9] at H
        have c9b0 : decide ((Int.tmod a0 256) < 1) = true := decide_eq_true c9
        clear c9
        simp only [Option.some.injEq, Prod.mk.injEq] at H
        obtain ⟨rfl, rfl⟩ := H
        go_wp2
        go_ret2
        exact ⟨by first | rfl | (simp; done) | (simp [*]; done), by repeat (first | exact Drawn0.refl _ | apply Drawn0.step)⟩
      rw [if_neg c9] at H
      have c9b0 : decide ((Int.tmod a0 256) < 1) = false := decide_eq_false c9
      clear c9
      by_cases c10 : (Int.tmod a0 256) > 20
      rotate_left
      · rw [if_neg c10] at H
        have c10b0 : decide (20 < (Int.tmod a0 256)) = false := decide_eq_false c10
        clear c10
        simp only [Option.some.injEq, Prod.mk.injEq] at H
        obtain ⟨rfl, rfl⟩ := H
        go_wp2
        go_ret2
        exact ⟨by first | rfl | (simp; done) | (simp [*]; done), by repeat (first | exact Drawn0.refl _ | apply Drawn0.step)⟩
      rw [if_pos c10] at H
      have c10b0 : decide (20 < (Int.tmod a0 256)) = true := decide_eq_true c10
      clear c10
      simp only [Option.some.injEq, Prod.mk.injEq] at H
      obtain ⟨rfl, rfl⟩ := H
      go_wp2
      go_ret2
      exact ⟨by first | rfl | (simp; done) | (simp [*]; done), by repeat (first | exact Drawn0.refl _ | apply Drawn0.step)⟩
def jobshellref36_ended.f (k : Nat) (a0 : Int) : Option (Bool) := (jobshellref22_Kind.f k a0).bind fun bt246 => (if bt246.1 = 0 then (some true) else (some (bt246.1 == 1)))
theorem jobshellref36_ended.mono : ∀ a0 k, LeO (jobshellref36_ended.f k a0) (jobshellref36_ended.f (k + 1) a0) := by
  intro a0 k
  unfold jobshellref36_ended.f
  repeat' first
      | (with_reducible exact jobshellref22_Kind.mono _ _)
      | (with_reducible exact LeO.refl _)
      | (with_reducible exact LeO.none _)
      | (with_reducible refine LeO.ite ?_ ?_)
      | (with_reducible refine LeO.bind ?_ (fun _ => ?_))
      | exact jobshellref22_Kind.mono _ _
      | exact LeO.none _
      | refine LeO.ite ?_ ?_
      | refine LeO.bind ?_ (fun _ => ?_)
set_option maxHeartbeats 8000000 in
set_option maxRecDepth 100000 in
theorem jobshellref36_ended.calls (k : Nat) (a0 : Int) (r : Bool) (w : World) (h : jobshellref36_ended.f k a0 = some r) (hG : Gl w) :
    Calls Tryd.prog 62 #[.int .i64 a0] w fun e w' => e = .returned (.bool r) ∧ Drawn0 w w' := by
  have HG := Aside0.mk hG
  clear hG
  have H : ((jobshellref22_Kind.f k a0).bind fun bt246 => (if bt246.1 = 0 then (some true) else (some (bt246.1 == 1)))) = some r := h
  clear h
  replace H := Option.bind_eq_some_iff.mp H
  obtain ⟨⟨t246, t247⟩, A20, H⟩ := H
  replace H : (if t246 = 0 then (some true) else (some (t246 == 1))) = some r := H
  have A2 := Aside0.mk A20
  clear A20
  by_cases c3 : t246 = 0
  rotate_left
  · rw [if_neg c3] at H
    have c3b0 : (t246 == 0) = false := beq_eq_false_iff_ne.mpr c3
    have c3b1 : (t246 != 0) = true := bne_iff_ne.mpr c3
    obtain rfl := Option.some.inj H
    go_enter Tryd.func62, Tryd.ntmps62
    go_wp2_with (first | ((with_reducible refine gate_callee (f := 60) rfl ?_); refine goesL_ (some 7) rfl rfl Tryd.func60 (by kernel_rfl) rfl #[.int .i64 a0] rfl (by (try simp only [List.map_toArray, List.map_cons, List.map_nil]); first | done | rfl | (simp only [List.length_drop, List.length_take]; rfl)) ?_; (with_reducible refine (jobshellref22_Kind.calls k a0 t246 t247 _ A2.out ?sideG).mono ?_); (case sideG => first | (with_reducible exact HG.out) | (with_reducible exact HG.out.drewN _)); rintro e w' ⟨rfl, ⟨nd, rfl⟩⟩; refine ⟨_, rfl, ?_⟩))
    go_ret
    exact ⟨by first | rfl | (simp; done) | (simp [*]; done), by repeat (first | exact Drawn0.refl _ | apply Drawn0.step)⟩

  rw [if_pos c3] at H
  have c3b0 : (t246 == 0) = true := beq_iff_eq.mpr c3
  have c3b1 : (t246 != 0) = false := bne_eq_false_iff_eq.mpr c3
  clear c3
  obtain rfl := Option.some.inj H
  go_enter Tryd.func62, Tryd.ntmps62
  go_wp2_with (first | ((with_reducible refine gate_callee (f := 60) rfl ?_); refine goesL_ (some 7) rfl rfl Tryd.func60 (by kernel_rfl) rfl #[.int .i64 a0] rfl (by (try simp only [List.map_toArray, List.map_cons, List.map_nil]); first | done | rfl | (simp only [List.length_drop, List.length_take]; rfl)) ?_; (with_reducible refine (jobshellref22_Kind.calls k a0 t246 t247 _ A2.out ?sideG).mono ?_); (case sideG => first | (with_reducible exact HG.out) | (with_reducible exact HG.out.drewN _)); rintro e w' ⟨rfl, ⟨nd, rfl⟩⟩; refine ⟨_, rfl, ?_⟩))
  go_ret
  exact ⟨by first | rfl | (simp; done) | (simp [*]; done), by repeat (first | exact Drawn0.refl _ | apply Drawn0.step)⟩
def jobshellref36_stopped.f (k : Nat) (a0 : Int) : Option (Bool) := (jobshellref22_Kind.f k a0).bind fun bt248 => (some (bt248.1 == 2))
theorem jobshellref36_stopped.mono : ∀ a0 k, LeO (jobshellref36_stopped.f k a0) (jobshellref36_stopped.f (k + 1) a0) := by
  intro a0 k
  unfold jobshellref36_stopped.f
  repeat' first
      | (with_reducible exact jobshellref22_Kind.mono _ _)
      | (with_reducible exact LeO.refl _)
      | (with_reducible exact LeO.none _)
      | (with_reducible refine LeO.ite ?_ ?_)
      | (with_reducible refine LeO.bind ?_ (fun _ => ?_))
      | exact jobshellref22_Kind.mono _ _
      | exact LeO.none _
      | refine LeO.ite ?_ ?_
      | refine LeO.bind ?_ (fun _ => ?_)
set_option maxHeartbeats 8000000 in
set_option maxRecDepth 100000 in
theorem jobshellref36_stopped.calls (k : Nat) (a0 : Int) (r : Bool) (w : World) (h : jobshellref36_stopped.f k a0 = some r) (hG : Gl w) :
    Calls Tryd.prog 63 #[.int .i64 a0] w fun e w' => e = .returned (.bool r) ∧ Drawn0 w w' := by
  have HG := Aside0.mk hG
  clear hG
  have H : ((jobshellref22_Kind.f k a0).bind fun bt248 => (some (bt248.1 == 2))) = some r := h
  clear h
  replace H := Option.bind_eq_some_iff.mp H
  obtain ⟨⟨t248, t249⟩, A20, H⟩ := H
  replace H : (some (t248 == 2)) = some r := H
  have A2 := Aside0.mk A20
  clear A20
  obtain rfl := Option.some.inj H
  go_enter Tryd.func63, Tryd.ntmps63
  go_wp2_with (first | ((with_reducible refine gate_callee (f := 60) rfl ?_); refine goesL_ (some 7) rfl rfl Tryd.func60 (by kernel_rfl) rfl #[.int .i64 a0] rfl (by (try simp only [List.map_toArray, List.map_cons, List.map_nil]); first | done | rfl | (simp only [List.length_drop, List.length_take]; rfl)) ?_; (with_reducible refine (jobshellref22_Kind.calls k a0 t248 t249 _ A2.out ?sideG).mono ?_); (case sideG => first | (with_reducible exact HG.out) | (with_reducible exact HG.out.drewN _)); rintro e w' ⟨rfl, ⟨nd, rfl⟩⟩; refine ⟨_, rfl, ?_⟩))
  go_ret
  exact ⟨by first | rfl | (simp; done) | (simp [*]; done), by repeat (first | exact Drawn0.refl _ | apply Drawn0.step)⟩

def jobshellref36_state.l0 : Nat → List Int → Bool → Bool → Int → Option (Int)
  | 0, _, _, _, _ => none
  | k + 1, x0, x3, x4, x5 => if x5 < (x0.length : Int) then (if 0 ≤ x5 then (if (rd x0 x5) = (-1) then (some 1) else ((jobshellref36_ended.f k (rd x0 x5)).bind fun t252 => (if t252 = true then ((jobshellref36_stopped.f k (rd x0 x5)).bind fun t254 => (if t254 = true then (jobshellref36_state.l0 k x0 x3 true (wrap64 (x5 + 1))) else (jobshellref36_state.l0 k x0 x3 x4 (wrap64 (x5 + 1))))) else ((jobshellref36_stopped.f k (rd x0 x5)).bind fun t256 => (if t256 = true then (jobshellref36_state.l0 k x0 false true (wrap64 (x5 + 1))) else (jobshellref36_state.l0 k x0 false x4 (wrap64 (x5 + 1)))))))) else (none)) else (if x3 = true then (some 3) else (if x4 = true then (some 2) else (some 1)))
def jobshellref36_state.f (k : Nat) (l0 : List Int) : Option (Int) := jobshellref36_state.l0 k l0 true false 0
theorem jobshellref36_state.mono_l : ∀ k, (∀ y0 y1 y2 y3, LeO (jobshellref36_state.l0 k y0 y1 y2 y3) (jobshellref36_state.l0 (k + 1) y0 y1 y2 y3))
  | 0 => fun _ _ _ _ r h => by simp [jobshellref36_state.l0] at h
  | k + 1 => by
    have ih0 := jobshellref36_state.mono_l k
    · intro y0 y1 y2 y3
      unfold jobshellref36_state.l0
      repeat' first
      | (with_reducible exact ih0 _ _ _ _)
      | (with_reducible exact jobshellref36_ended.mono _ _)
      | (with_reducible exact jobshellref36_stopped.mono _ _)
      | (with_reducible exact LeO.refl _)
      | (with_reducible exact LeO.none _)
      | (with_reducible refine LeO.ite ?_ ?_)
      | (with_reducible refine LeO.bind ?_ (fun _ => ?_))
      | exact ih0 _ _ _ _
      | exact jobshellref36_ended.mono _ _
      | exact jobshellref36_stopped.mono _ _
      | exact LeO.none _
      | refine LeO.ite ?_ ?_
      | refine LeO.bind ?_ (fun _ => ?_)
theorem jobshellref36_state.mono : ∀ a0 k, LeO (jobshellref36_state.f k a0) (jobshellref36_state.f (k + 1) a0) := by
  intro a0 k
  have ih0 := jobshellref36_state.mono_l k
  unfold jobshellref36_state.f
  repeat' first
      | (with_reducible exact ih0 _ _ _ _)
      | (with_reducible exact jobshellref36_ended.mono _ _)
      | (with_reducible exact jobshellref36_stopped.mono _ _)
      | (with_reducible exact LeO.refl _)
      | (with_reducible exact LeO.none _)
      | (with_reducible refine LeO.ite ?_ ?_)
      | (with_reducible refine LeO.bind ?_ (fun _ => ?_))
      | exact ih0 _ _ _ _
      | exact jobshellref36_ended.mono _ _
      | exact jobshellref36_stopped.mono _ _
      | exact LeO.none _
      | refine LeO.ite ?_ ?_
      | refine LeO.bind ?_ (fun _ => ?_)
set_option maxHeartbeats 8000000 in
set_option maxRecDepth 100000 in
theorem jobshellref36_state.calls (k : Nat) (A0 : Option Addr) (c0 : Nat) (l0 : List Int) (r : Int) (w : World) (hr0 : Kd.C (Kd.int .i64) w A0 l0.length l0) (hc0 : l0.length ≤ c0) (h : jobshellref36_state.f k l0 = some r) (hG : Gl w) :
    Calls Tryd.prog 64 #[.slice A0 l0.length c0] w fun e w' => e = .returned (.int .i64 r) ∧ Drawn0 w w' := by
  have HG := Aside0.mk hG
  clear hG
  have HR0 := Aside0.mk hr0
  have HC0 := Aside0.mk hc0
  clear hr0 hc0
  have H : (jobshellref36_state.l0 k l0 true false 0) = some r := h
  clear h
  have H' := Aside0.mk H
  clear H
  go_enter Tryd.func64, Tryd.ntmps64
  go_wp2
  go_loopg [3, 4, 5] k (fun kq v3 v4 v5 w' => ∃ (x3_1 : Bool) (x4_1 : Bool) (x5_1 : Int), v3 = .bool x3_1 ∧ v4 = .bool x4_1 ∧ v5 = .int .i64 x5_1 ∧ Aside0 (jobshellref36_state.l0 kq l0 x3_1 x4_1 x5_1 = some r) ∧ Aside0 (kq ≤ k) ∧ Drawn0 w w')
  case atStart => exact ⟨(true), (false), (0), (by first | rfl | (simp; done) | (simp [*]; done)), (by first | rfl | (simp; done) | (simp [*]; done)), (by first | rfl | (simp; done) | (simp [*]; done)), H', ⟨Nat.le_refl _⟩, by repeat (first | exact Drawn0.refl _ | apply Drawn0.step)⟩
  case round =>
    clear H'
    obtain ⟨x3_1, x4_1, x5_1, rfl, rfl, rfl, HA, HK1, ⟨m1, rfl⟩⟩ := hrel
    cases gk with
    | zero => exact absurd HA.out (by simp [jobshellref36_state.l0])
    | succ k1 =>
      have H := HA.out
      clear HA
      simp only [jobshellref36_state.l0] at H
      by_cases c2 : x5_1 < (l0.length : Int)
      rotate_left
      · rw [if_neg c2] at H
        have c2b0 : decide (x5_1 < (l0.length : Int)) = false := decide_eq_false c2
        clear c2
        by_cases c11 : x3_1 = true
        · subst c11
          have H1 : (some 3) = some r := by rw [if_pos rfl] at H; exact H
          clear H
          have H := H1
          clear H1
          obtain rfl := Option.some.inj H
          go_wp2
          go_ret
          exact ⟨by first | rfl | (simp; done) | (simp [*]; done), by repeat (first | exact Drawn0.refl _ | apply Drawn0.step)⟩
        replace c11 := Bool.eq_false_iff.mpr c11
        subst c11
        have H1 : (if x4_1 = true then (some 2) else (some 1)) = some r := by rw [if_neg (show ¬ (false = true) by decide)] at H; exact H
        clear H
        have H := H1
        clear H1
        by_cases c12 : x4_1 = true
        · subst c12
          have H1 : (some 2) = some r := by rw [if_pos rfl] at H; exact H
          clear H
          have H := H1
          clear H1
          obtain rfl := Option.some.inj H
          go_wp2
          go_ret
          exact ⟨by first | rfl | (simp; done) | (simp [*]; done), by repeat (first | exact Drawn0.refl _ | apply Drawn0.step)⟩
        replace c12 := Bool.eq_false_iff.mpr c12
        subst c12
        have H1 : (some 1) = some r := by rw [if_neg (show ¬ (false = true) by decide)] at H; exact H
        clear H
        have H := H1
        clear H1
        obtain rfl := Option.some.inj H
        go_wp2
        go_ret
        exact ⟨by first | rfl | (simp; done) | (simp [*]; done), by repeat (first | exact Drawn0.refl _ | apply Drawn0.step)⟩

      rw [if_pos c2] at H
      have c2b0 : decide (x5_1 < (l0.length : Int)) = true := decide_eq_true c2
      clear c2
      by_cases c3 : 0 ≤ x5_1
      rotate_left
      · rw [if_neg c3] at H
        exact absurd H (by simp)
      rw [if_pos c3] at H
      have c3b0 : decide (0 ≤ x5_1) = true := decide_eq_true c3
      clear c3
      by_cases c4 : (rd l0 x5_1) = (-1)
      · rw [if_pos c4] at H
        have c4b0 : ((rd l0 x5_1) == (-1)) = true := beq_iff_eq.mpr c4
        have c4b1 : ((rd l0 x5_1) != (-1)) = false := bne_eq_false_iff_eq.mpr c4
        clear c4
        obtain rfl := Option.some.inj H
        have p250 : 0 ≤ (x5_1 : Int) := of_decide_eq_true (by with_reducible assumption)
        have q250 : x5_1 < (l0.length : Int) := of_decide_eq_true (by with_reducible assumption)
        obtain ⟨ad250, e250, hx250_0⟩ := Kd.at_int HR0.out x5_1 p250 q250
        cases e250
        replace p250 := eq_true p250
        replace q250 := eq_true q250
        go_wp2
        go_ret
        exact ⟨by first | rfl | (simp; done) | (simp [*]; done), by repeat (first | exact Drawn0.refl _ | apply Drawn0.step)⟩
      rw [if_neg c4] at H
      have c4b0 : ((rd l0 x5_1) == (-1)) = false := beq_eq_false_iff_ne.mpr c4
      have c4b1 : ((rd l0 x5_1) != (-1)) = true := bne_iff_ne.mpr c4
      replace H := Option.bind_eq_some_iff.mp H
      obtain ⟨t252, A50, H⟩ := H
      replace H : (if t252 = true then ((jobshellref36_stopped.f k1 (rd l0 x5_1)).bind fun t254 => (if t254 = true then (jobshellref36_state.l0 k1 l0 x3_1 true (wrap64 (x5_1 + 1))) else (jobshellref36_state.l0 k1 l0 x3_1 x4_1 (wrap64 (x5_1 + 1))))) else ((jobshellref36_stopped.f k1 (rd l0 x5_1)).bind fun t256 => (if t256 = true then (jobshellref36_state.l0 k1 l0 false true (wrap64 (x5_1 + 1))) else (jobshellref36_state.l0 k1 l0 false x4_1 (wrap64 (x5_1 + 1)))))) = some r := H
      have A5 := Aside0.mk A50
      clear A50
      by_cases c6 : t252 = true
      · subst c6
        have H1 : ((jobshellref36_stopped.f k1 (rd l0 x5_1)).bind fun t254 => (if t254 = true then (jobshellref36_state.l0 k1 l0 x3_1 true (wrap64 (x5_1 + 1))) else (jobshellref36_state.l0 k1 l0 x3_1 x4_1 (wrap64 (x5_1 + 1))))) = some r := by rw [if_pos rfl] at H; exact H
        clear H
        have H := H1
        clear H1
        replace H := Option.bind_eq_some_iff.mp H
        obtain ⟨t254, A70, H⟩ := H
        replace H : (if t254 = true then (jobshellref36_state.l0 k1 l0 x3_1 true (wrap64 (x5_1 + 1))) else (jobshellref36_state.l0 k1 l0 x3_1 x4_1 (wrap64 (x5_1 + 1)))) = some r := H
        have A7 := Aside0.mk A70
        clear A70
        by_cases c8 : t254 = true
        · subst c8
          have H1 : (jobshellref36_state.l0 k1 l0 x3_1 true (wrap64 (x5_1 + 1))) = some r := by rw [if_pos rfl] at H; exact H
          clear H
          have H := H1
          clear H1
          have H' := Aside0.mk H
          clear H
          have p250 : 0 ≤ (x5_1 : Int) := of_decide_eq_true (by with_reducible assumption)
          have q250 : x5_1 < (l0.length : Int) := of_decide_eq_true (by with_reducible assumption)
          obtain ⟨ad250, e250, hx250_0⟩ := Kd.at_int HR0.out x5_1 p250 q250
          cases e250
          replace p250 := eq_true p250
          replace q250 := eq_true q250
          have p251 : 0 ≤ (x5_1 : Int) := of_decide_eq_true (by with_reducible assumption)
          have q251 : x5_1 < (l0.length : Int) := of_decide_eq_true (by with_reducible assumption)
          obtain ⟨ad251, e251, hx251_0⟩ := Kd.at_int HR0.out x5_1 p251 q251
          obtain rfl : ad250 = ad251 := (by injection e251)
          replace p251 := eq_true p251
          replace q251 := eq_true q251
          go_wp2_with (first | ((with_reducible refine gate_callee (f := 62) rfl ?_); refine goesL_ (some 21) rfl rfl Tryd.func62 (by kernel_rfl) rfl #[.int .i64 (rd l0 x5_1)] rfl (by (try simp only [List.map_toArray, List.map_cons, List.map_nil]); first | done | rfl | (simp only [List.length_drop, List.length_take]; rfl)) ?_; (with_reducible refine (jobshellref36_ended.calls k1 (rd l0 x5_1) true _ A5.out ?sideG).mono ?_); (case sideG => first | (with_reducible exact HG.out) | (with_reducible exact HG.out.drewN _)); rintro e w' ⟨rfl, ⟨nd, rfl⟩⟩; refine ⟨_, rfl, ?_⟩; have p253 : 0 ≤ (x5_1 : Int) := of_decide_eq_true (by with_reducible assumption); have q253 : x5_1 < (l0.length : Int) := of_decide_eq_true (by with_reducible assumption); obtain ⟨ad253, e253, hx253_0⟩ := Kd.at_int HR0.out x5_1 p253 q253; obtain rfl : ad250 = ad253 := (by injection e253); replace p253 := eq_true p253; replace q253 := eq_true q253) | ((with_reducible refine gate_callee (f := 63) rfl ?_); refine goesL_ (some 27) rfl rfl Tryd.func63 (by kernel_rfl) rfl #[.int .i64 (rd l0 x5_1)] rfl (by (try simp only [List.map_toArray, List.map_cons, List.map_nil]); first | done | rfl | (simp only [List.length_drop, List.length_take]; rfl)) ?_; (with_reducible refine (jobshellref36_stopped.calls k1 (rd l0 x5_1) true _ A7.out ?sideG).mono ?_); (case sideG => first | (with_reducible exact HG.out) | (with_reducible exact HG.out.drewN _)); rintro e w' ⟨rfl, ⟨nd, rfl⟩⟩; refine ⟨_, rfl, ?_⟩))
          go_roundg k1
          case measure => have := HK1.out; omega
          case rel => exact ⟨(x3_1), (true), (wrap64 (x5_1 + 1)), (by first | rfl | (simp; done) | (simp [*]; done)), (by first | rfl | (simp; done) | (simp [*]; done)), (by first | rfl | (simp; done) | (simp [*]; done)), H', ⟨by have := HK1.out; omega⟩, by repeat (first | exact Drawn0.refl _ | apply Drawn0.step)⟩
        replace c8 := Bool.eq_false_iff.mpr c8
        subst c8
        have H1 : (jobshellref36_state.l0 k1 l0 x3_1 x4_1 (wrap64 (x5_1 + 1))) = some r := by rw [if_neg (show ¬ (false = true) by decide)] at H; exact H
        clear H
        have H := H1
        clear H1
        have H' := Aside0.mk H
        clear H
        have p250 : 0 ≤ (x5_1 : Int) := of_decide_eq_true (by with_reducible assumption)
        have q250 : x5_1 < (l0.length : Int) := of_decide_eq_true (by with_reducible assumption)
        obtain ⟨ad250, e250, hx250_0⟩ := Kd.at_int HR0.out x5_1 p250 q250
        cases e250
        replace p250 := eq_true p250
        replace q250 := eq_true q250
        have p251 : 0 ≤ (x5_1 : Int) := of_decide_eq_true (by with_reducible assumption)
        have q251 : x5_1 < (l0.length : Int) := of_decide_eq_true (by with_reducible assumption)
        obtain ⟨ad251, e251, hx251_0⟩ := Kd.at_int HR0.out x5_1 p251 q251
        obtain rfl : ad250 = ad251 := (by injection e251)
        replace p251 := eq_true p251
        replace q251 := eq_true q251
        go_wp2_with (first | ((with_reducible refine gate_callee (f := 62) rfl ?_); refine goesL_ (some 21) rfl rfl Tryd.func62 (by kernel_rfl) rfl #[.int .i64 (rd l0 x5_1)] rfl (by (try simp only [List.map_toArray, List.map_cons, List.map_nil]); first | done | rfl | (simp only [List.length_drop, List.length_take]; rfl)) ?_; (with_reducible refine (jobshellref36_ended.calls k1 (rd l0 x5_1) true _ A5.out ?sideG).mono ?_); (case sideG => first | (with_reducible exact HG.out) | (with_reducible exact HG.out.drewN _)); rintro e w' ⟨rfl, ⟨nd, rfl⟩⟩; refine ⟨_, rfl, ?_⟩; have p253 : 0 ≤ (x5_1 : Int) := of_decide_eq_true (by with_reducible assumption); have q253 : x5_1 < (l0.length : Int) := of_decide_eq_true (by with_reducible assumption); obtain ⟨ad253, e253, hx253_0⟩ := Kd.at_int HR0.out x5_1 p253 q253; obtain rfl : ad250 = ad253 := (by injection e253); replace p253 := eq_true p253; replace q253 := eq_true q253) | ((with_reducible refine gate_callee (f := 63) rfl ?_); refine goesL_ (some 27) rfl rfl Tryd.func63 (by kernel_rfl) rfl #[.int .i64 (rd l0 x5_1)] rfl (by (try simp only [List.map_toArray, List.map_cons, List.map_nil]); first | done | rfl | (simp only [List.length_drop, List.length_take]; rfl)) ?_; (with_reducible refine (jobshellref36_stopped.calls k1 (rd l0 x5_1) false _ A7.out ?sideG).mono ?_); (case sideG => first | (with_reducible exact HG.out) | (with_reducible exact HG.out.drewN _)); rintro e w' ⟨rfl, ⟨nd, rfl⟩⟩; refine ⟨_, rfl, ?_⟩))
        go_roundg k1
        case measure => have := HK1.out; omega
        case rel => exact ⟨(x3_1), (x4_1), (wrap64 (x5_1 + 1)), (by first | rfl | (simp; done) | (simp [*]; done)), (by first | rfl | (simp; done) | (simp [*]; done)), (by first | rfl | (simp; done) | (simp [*]; done)), H', ⟨by have := HK1.out; omega⟩, by repeat (first | exact Drawn0.refl _ | apply Drawn0.step)⟩
      replace c6 := Bool.eq_false_iff.mpr c6
      subst c6
      have H1 : ((jobshellref36_stopped.f k1 (rd l0 x5_1)).bind fun t256 => (if t256 = true then (jobshellref36_state.l0 k1 l0 false true (wrap64 (x5_1 + 1))) else (jobshellref36_state.l0 k1 l0 false x4_1 (wrap64 (x5_1 + 1))))) = some r := by rw [if_neg (show ¬ (false = true) by decide)] at H; exact H
      clear H
      have H := H1
      clear H1
      replace H := Option.bind_eq_some_iff.mp H
      obtain ⟨t256, A90, H⟩ := H
      replace H : (if t256 = true then (jobshellref36_state.l0 k1 l0 false true (wrap64 (x5_1 + 1))) else (jobshellref36_state.l0 k1 l0 false x4_1 (wrap64 (x5_1 + 1)))) = some r := H
      have A9 := Aside0.mk A90
      clear A90
      by_cases c10 : t256 = true
      · subst c10
        have H1 : (jobshellref36_state.l0 k1 l0 false true (wrap64 (x5_1 + 1))) = some r := by rw [if_pos rfl] at H; exact H
        clear H
        have H := H1
        clear H1
        have H' := Aside0.mk H
        clear H
        have p250 : 0 ≤ (x5_1 : Int) := of_decide_eq_true (by with_reducible assumption)
        have q250 : x5_1 < (l0.length : Int) := of_decide_eq_true (by with_reducible assumption)
        obtain ⟨ad250, e250, hx250_0⟩ := Kd.at_int HR0.out x5_1 p250 q250
        cases e250
        replace p250 := eq_true p250
        replace q250 := eq_true q250
        have p251 : 0 ≤ (x5_1 : Int) := of_decide_eq_true (by with_reducible assumption)
        have q251 : x5_1 < (l0.length : Int) := of_decide_eq_true (by with_reducible assumption)
        obtain ⟨ad251, e251, hx251_0⟩ := Kd.at_int HR0.out x5_1 p251 q251
        obtain rfl : ad250 = ad251 := (by injection e251)
        replace p251 := eq_true p251
        replace q251 := eq_true q251
        go_wp2_with (first | ((with_reducible refine gate_callee (f := 62) rfl ?_); refine goesL_ (some 21) rfl rfl Tryd.func62 (by kernel_rfl) rfl #[.int .i64 (rd l0 x5_1)] rfl (by (try simp only [List.map_toArray, List.map_cons, List.map_nil]); first | done | rfl | (simp only [List.length_drop, List.length_take]; rfl)) ?_; (with_reducible refine (jobshellref36_ended.calls k1 (rd l0 x5_1) false _ A5.out ?sideG).mono ?_); (case sideG => first | (with_reducible exact HG.out) | (with_reducible exact HG.out.drewN _)); rintro e w' ⟨rfl, ⟨nd, rfl⟩⟩; refine ⟨_, rfl, ?_⟩; have p255 : 0 ≤ (x5_1 : Int) := of_decide_eq_true (by with_reducible assumption); have q255 : x5_1 < (l0.length : Int) := of_decide_eq_true (by with_reducible assumption); obtain ⟨ad255, e255, hx255_0⟩ := Kd.at_int HR0.out x5_1 p255 q255; obtain rfl : ad250 = ad255 := (by injection e255); replace p255 := eq_true p255; replace q255 := eq_true q255) | ((with_reducible refine gate_callee (f := 63) rfl ?_); refine goesL_ (some 27) rfl rfl Tryd.func63 (by kernel_rfl) rfl #[.int .i64 (rd l0 x5_1)] rfl (by (try simp only [List.map_toArray, List.map_cons, List.map_nil]); first | done | rfl | (simp only [List.length_drop, List.length_take]; rfl)) ?_; (with_reducible refine (jobshellref36_stopped.calls k1 (rd l0 x5_1) true _ A9.out ?sideG).mono ?_); (case sideG => first | (with_reducible exact HG.out) | (with_reducible exact HG.out.drewN _)); rintro e w' ⟨rfl, ⟨nd, rfl⟩⟩; refine ⟨_, rfl, ?_⟩))
        go_roundg k1
        case measure => have := HK1.out; omega
        case rel => exact ⟨(false), (true), (wrap64 (x5_1 + 1)), (by first | rfl | (simp; done) | (simp [*]; done)), (by first | rfl | (simp; done) | (simp [*]; done)), (by first | rfl | (simp; done) | (simp [*]; done)), H', ⟨by have := HK1.out; omega⟩, by repeat (first | exact Drawn0.refl _ | apply Drawn0.step)⟩
      replace c10 := Bool.eq_false_iff.mpr c10
      subst c10
      have H1 : (jobshellref36_state.l0 k1 l0 false x4_1 (wrap64 (x5_1 + 1))) = some r := by rw [if_neg (show ¬ (false = true) by decide)] at H; exact H
      clear H
      have H := H1
      clear H1
      have H' := Aside0.mk H
      clear H
      have p250 : 0 ≤ (x5_1 : Int) := of_decide_eq_true (by with_reducible assumption)
      have q250 : x5_1 < (l0.length : Int) := of_decide_eq_true (by with_reducible assumption)
      obtain ⟨ad250, e250, hx250_0⟩ := Kd.at_int HR0.out x5_1 p250 q250
      cases e250
      replace p250 := eq_true p250
      replace q250 := eq_true q250
      have p251 : 0 ≤ (x5_1 : Int) := of_decide_eq_true (by with_reducible assumption)
      have q251 : x5_1 < (l0.length : Int) := of_decide_eq_true (by with_reducible assumption)
      obtain ⟨ad251, e251, hx251_0⟩ := Kd.at_int HR0.out x5_1 p251 q251
      obtain rfl : ad250 = ad251 := (by injection e251)
      replace p251 := eq_true p251
      replace q251 := eq_true q251
      go_wp2_with (first | ((with_reducible refine gate_callee (f := 62) rfl ?_); refine goesL_ (some 21) rfl rfl Tryd.func62 (by kernel_rfl) rfl #[.int .i64 (rd l0 x5_1)] rfl (by (try simp only [List.map_toArray, List.map_cons, List.map_nil]); first | done | rfl | (simp only [List.length_drop, List.length_take]; rfl)) ?_; (with_reducible refine (jobshellref36_ended.calls k1 (rd l0 x5_1) false _ A5.out ?sideG).mono ?_); (case sideG => first | (with_reducible exact HG.out) | (with_reducible exact HG.out.drewN _)); rintro e w' ⟨rfl, ⟨nd, rfl⟩⟩; refine ⟨_, rfl, ?_⟩; have p255 : 0 ≤ (x5_1 : Int) := of_decide_eq_true (by with_reducible assumption); have q255 : x5_1 < (l0.length : Int) := of_decide_eq_true (by with_reducible assumption); obtain ⟨ad255, e255, hx255_0⟩ := Kd.at_int HR0.out x5_1 p255 q255; obtain rfl : ad250 = ad255 := (by injection e255); replace p255 := eq_true p255; replace q255 := eq_true q255) | ((with_reducible refine gate_callee (f := 63) rfl ?_); refine goesL_ (some 27) rfl rfl Tryd.func63 (by kernel_rfl) rfl #[.int .i64 (rd l0 x5_1)] rfl (by (try simp only [List.map_toArray, List.map_cons, List.map_nil]); first | done | rfl | (simp only [List.length_drop, List.length_take]; rfl)) ?_; (with_reducible refine (jobshellref36_stopped.calls k1 (rd l0 x5_1) false _ A9.out ?sideG).mono ?_); (case sideG => first | (with_reducible exact HG.out) | (with_reducible exact HG.out.drewN _)); rintro e w' ⟨rfl, ⟨nd, rfl⟩⟩; refine ⟨_, rfl, ?_⟩))
      go_roundg k1
      case measure => have := HK1.out; omega
      case rel => exact ⟨(false), (x4_1), (wrap64 (x5_1 + 1)), (by first | rfl | (simp; done) | (simp [*]; done)), (by first | rfl | (simp; done) | (simp [*]; done)), (by first | rfl | (simp; done) | (simp [*]; done)), H', ⟨by have := HK1.out; omega⟩, by repeat (first | exact Drawn0.refl _ | apply Drawn0.step)⟩
end Go.Proofs.YthafbimhmfjcoaaDoor.PV

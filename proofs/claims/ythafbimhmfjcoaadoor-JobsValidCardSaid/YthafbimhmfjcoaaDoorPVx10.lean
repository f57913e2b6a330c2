-- Written by a program of this session's (wip/mkprint.py) out of the translation; the texts of functions that the program does not take are mine.
import Derived.Test.YthafbimhmfjcoaaDoorPVx0
namespace Go.Proofs.YthafbimhmfjcoaaDoor.PV
open Go.RowKit Go.Proofs.YthafbimhmfjcoaaDoorW.PrintWords Go.Proofs.YthafbimhmfjcoaaDoorW.PrintLast Go.Proofs.YthafbimhmfjcoaaDoorW.PrintMore
attribute [local go_sem] max2_int min2_int max_two min_two max_three min_three max_four min_four   -- for this text's walks alone
set_option linter.unusedVariables false
set_option linter.unusedSimpArgs false

mutual
def jobshellref36_Small.l0 : Nat → List (S35) → Int → Int → Option (Bool)
  | 0, _, _, _ => none
  | k + 1, x0, x3, x4 => if x4 < (x0.length : Int) then (if x4 < 40 then (jobshellref36_Small.j1 k x0 x3 x4 (decide (x3 < 20000))) else (jobshellref36_Small.j1 k x0 x3 x4 false)) else (jobshellref36_Small.j1 k x0 x3 x4 false)
def jobshellref36_Small.j1 : Nat → List (S35) → Int → Int → Bool → Option (Bool)
  | 0, _, _, _, _ => none
  | k + 1, x0, x3, x4, x16 => if x16 = true then (if 0 ≤ x4 then (if x4 < (x0.length : Int) then (if (((rd_T35 x0 x4).f3).length : Int) > 40 then (some false) else (if (((rd_T35 x0 x4).f4).length : Int) > 40 then (some false) else (if (((rd_T35 x0 x4).f5).size : Int) > 5000 then (some false) else (jobshellref36_Small.l0 k x0 (wrap64 (x3 + (((rd_T35 x0 x4).f5).size : Int))) (wrap64 (x4 + 1)))))) else (none)) else (none)) else (if (x0.length : Int) ≤ 40 then (some (decide (x3 < 20000))) else (some false))
end
def jobshellref36_Small.f (k : Nat) (l0 : List (S35)) : Option (Bool) := jobshellref36_Small.l0 k l0 0 0
theorem jobshellref36_Small.mono_l : ∀ k, (∀ y0 y1 y2, LeO (jobshellref36_Small.l0 k y0 y1 y2) (jobshellref36_Small.l0 (k + 1) y0 y1 y2)) ∧ (∀ y0 y1 y2 y3, LeO (jobshellref36_Small.j1 k y0 y1 y2 y3) (jobshellref36_Small.j1 (k + 1) y0 y1 y2 y3))
  | 0 => ⟨fun _ _ _ r h => by simp [jobshellref36_Small.l0] at h, fun _ _ _ _ r h => by simp [jobshellref36_Small.j1] at h⟩
  | k + 1 => by
    obtain ⟨ih0, ih1⟩ := jobshellref36_Small.mono_l k
    refine ⟨?_, ?_⟩
    · intro y0 y1 y2
      unfold jobshellref36_Small.l0
      repeat' first
      | (with_reducible exact ih0 _ _ _)
      | (with_reducible exact ih1 _ _ _ _)
      | (with_reducible exact LeO.refl _)
      | (with_reducible exact LeO.none _)
      | (with_reducible refine LeO.ite ?_ ?_)
      | (with_reducible refine LeO.bind ?_ (fun _ => ?_))
      | exact ih0 _ _ _
      | exact ih1 _ _ _ _
      | exact LeO.none _
      | refine LeO.ite ?_ ?_
      | refine LeO.bind ?_ (fun _ => ?_)
    · intro y0 y1 y2 y3
      unfold jobshellref36_Small.j1
      repeat' first
      | (with_reducible exact ih0 _ _ _)
      | (with_reducible exact ih1 _ _ _ _)
      | (with_reducible exact LeO.refl _)
      | (with_reducible exact LeO.none _)
      | (with_reducible refine LeO.ite ?_ ?_)
      | (with_reducible refine LeO.bind ?_ (fun _ => ?_))
      | exact ih0 _ _ _
      | exact ih1 _ _ _ _
      | exact LeO.none _
      | refine LeO.ite ?_ ?_
      | refine LeO.bind ?_ (fun _ => ?_)
theorem jobshellref36_Small.mono : ∀ a0 k, LeO (jobshellref36_Small.f k a0) (jobshellref36_Small.f (k + 1) a0) := by
  intro a0 k
  obtain ⟨ih0, ih1⟩ := jobshellref36_Small.mono_l k
  unfold jobshellref36_Small.f
  repeat' first
      | (with_reducible exact ih0 _ _ _)
      | (with_reducible exact ih1 _ _ _ _)
      | (with_reducible exact LeO.refl _)
      | (with_reducible exact LeO.none _)
      | (with_reducible refine LeO.ite ?_ ?_)
      | (with_reducible refine LeO.bind ?_ (fun _ => ?_))
      | exact ih0 _ _ _
      | exact ih1 _ _ _ _
      | exact LeO.none _
      | refine LeO.ite ?_ ?_
      | refine LeO.bind ?_ (fun _ => ?_)
set_option maxHeartbeats 8000000 in
set_option maxRecDepth 100000 in
theorem jobshellref36_Small.calls (k : Nat) (A0 : Option Addr) (c0 : Nat) (l0 : List (S35)) (r : Bool) (w : World) (hr0 : Kd.C k35 w A0 l0.length l0) (hc0 : l0.length ≤ c0) (h : jobshellref36_Small.f k l0 = some r) (hG : Gl w) :
    Calls Tryd.prog 15 #[.slice A0 l0.length c0] w fun e w' => e = .returned (.bool r) ∧ Drawn0 w w' := by
  have HG := Aside0.mk hG
  clear hG
  have HR0 := Aside0.mk hr0
  have HC0 := Aside0.mk hc0
  clear hr0 hc0
  have H : (jobshellref36_Small.l0 k l0 0 0) = some r := h
  clear h
  have H' := Aside0.mk H
  clear H
  go_enter Tryd.func15, Tryd.ntmps15
  go_wp2
  go_loopg [3, 4] k (fun kq v3 v4 w' => ∃ (x3_1 : Int) (x4_1 : Int), v3 = .int .i64 x3_1 ∧ v4 = .int .i64 x4_1 ∧ Aside0 (jobshellref36_Small.l0 kq l0 x3_1 x4_1 = some r) ∧ Aside0 (kq ≤ k) ∧ Drawn0 w w')
  case atStart => exact ⟨(0), (0), (by first | rfl | (simp; done) | (simp [*]; done)), (by first | rfl | (simp; done) | (simp [*]; done)), H', ⟨Nat.le_refl _⟩, by repeat (first | exact Drawn0.refl _ | apply Drawn0.step)⟩
  case round =>
    clear H'
    obtain ⟨x3_1, x4_1, rfl, rfl, HA, HK1, ⟨m1, rfl⟩⟩ := hrel
    cases gk with
    | zero => exact absurd HA.out (by simp [jobshellref36_Small.l0])
    | succ k1 =>
      have H := HA.out
      clear HA
      simp only [jobshellref36_Small.l0] at H
      have HC2 := Aside0.mk H
      clear H
      go_upto_region 3 with (fail)
      go_cut [16] (fun v16 wc => ∃ (kq : Nat) (x16_1 : Bool), v16 = .bool x16_1 ∧ Aside0 (jobshellref36_Small.j1 kq l0 x3_1 x4_1 x16_1 = some r) ∧ Aside0 (kq ≤ k1) ∧ Drawn0 w wc)
      case first =>
        have H := HC2.out
        clear HC2
        by_cases c3 : x4_1 < (l0.length : Int)
        rotate_left
        · rw [if_neg c3] at H
          have c3b0 : decide (x4_1 < (l0.length : Int)) = false := decide_eq_false c3
          clear c3
          (first | rw [c3b0] | (simp only [i64_w, i32_w]; rw [c3b0]) | skip)
          have H' := Aside0.mk H
          clear H
          go_wp2
          go_meet
          case rel => exact ⟨_, (false), (by first | rfl | (simp; done) | (simp [*]; done)), H', ⟨by have := HK1.out; first | omega | exact Nat.le_refl _⟩, by repeat (first | exact Drawn0.refl _ | apply Drawn0.step)⟩
        rw [if_pos c3] at H
        have c3b0 : decide (x4_1 < (l0.length : Int)) = true := decide_eq_true c3
        clear c3
        (first | rw [c3b0] | (simp only [i64_w, i32_w]; rw [c3b0]) | skip)
        by_cases c4 : x4_1 < 40
        rotate_left
        · rw [if_neg c4] at H
          have c4b0 : decide (x4_1 < 40) = false := decide_eq_false c4
          clear c4
          have H' := Aside0.mk H
          clear H
          go_wp2
          go_meet
          case rel => exact ⟨_, (false), (by first | rfl | (simp; done) | (simp [*]; done)), H', ⟨by have := HK1.out; first | omega | exact Nat.le_refl _⟩, by repeat (first | exact Drawn0.refl _ | apply Drawn0.step)⟩
        rw [if_pos c4] at H
        have c4b0 : decide (x4_1 < 40) = true := decide_eq_true c4
        clear c4
        have H' := Aside0.mk H
        clear H
        go_wp2
        go_meet
        case rel => exact ⟨_, (decide (x3_1 < 20000)), (by first | rfl | (simp; done) | (simp [*]; done)), H', ⟨by have := HK1.out; first | omega | exact Nat.le_refl _⟩, by repeat (first | exact Drawn0.refl _ | apply Drawn0.step)⟩
      case rest =>
        clear HC2
        obtain ⟨kq, x16_1, rfl, HA, HJ1, ⟨mc1, rfl⟩⟩ := hcut
        cases kq with
        | zero => exact absurd HA.out (by simp [jobshellref36_Small.j1])
        | succ kj1 =>
          have H := HA.out
          clear HA
          simp only [jobshellref36_Small.j1] at H
          by_cases c5 : x16_1 = true
          rotate_left
          · replace c5 := Bool.eq_false_iff.mpr c5
            subst c5
            have H1 : (if (l0.length : Int) ≤ 40 then (some (decide (x3_1 < 20000))) else (some false)) = some r := by rw [if_neg (show ¬ (false = true) by decide)] at H; exact H
            clear H
            have H := H1
            clear H1
            by_cases c11 : (l0.length : Int) ≤ 40
            · rw [if_pos c11] at H
              have c11b0 : decide ((l0.length : Int) ≤ 40) = true := decide_eq_true c11
              have c11b1 : decide (l0.length ≤ 40) = true := decide_eq_true (by omega)
              clear c11
              obtain rfl := Option.some.inj H
              go_wp2
              go_ret
              exact ⟨by first | rfl | (simp; done) | (simp [*]; done), by repeat (first | exact Drawn0.refl _ | apply Drawn0.step)⟩
            rw [if_neg c11] at H
            have c11b0 : decide ((l0.length : Int) ≤ 40) = false := decide_eq_false c11
            have c11b1 : decide (l0.length ≤ 40) = false := decide_eq_false (by omega)
            clear c11
            obtain rfl := Option.some.inj H
            go_wp2
            go_ret
            exact ⟨by first | rfl | (simp; done) | (simp [*]; done), by repeat (first | exact Drawn0.refl _ | apply Drawn0.step)⟩

          subst c5
          have H1 : (if 0 ≤ x4_1 then (if x4_1 < (l0.length : Int) then (if (((rd_T35 l0 x4_1).f3).length : Int) > 40 then (some false) else (if (((rd_T35 l0 x4_1).f4).length : Int) > 40 then (some false) else (if (((rd_T35 l0 x4_1).f5).size : Int) > 5000 then (some false) else (jobshellref36_Small.l0 kj1 l0 (wrap64 (x3_1 + (((rd_T35 l0 x4_1).f5).size : Int))) (wrap64 (x4_1 + 1)))))) else (none)) else (none)) = some r := by rw [if_pos rfl] at H; exact H
          clear H
          have H := H1
          clear H1
          by_cases c6 : 0 ≤ x4_1
          rotate_left
          · rw [if_neg c6] at H
            exact absurd H (by simp)
          rw [if_pos c6] at H
          have c6b0 : decide (0 ≤ x4_1) = true := decide_eq_true c6
          clear c6
          by_cases c7 : x4_1 < (l0.length : Int)
          rotate_left
          · rw [if_neg c7] at H
            exact absurd H (by simp)
          rw [if_pos c7] at H
          have c7b0 : decide (x4_1 < (l0.length : Int)) = true := decide_eq_true c7
          clear c7
          by_cases c8 : (((rd_T35 l0 x4_1).f3).length : Int) > 40
          · rw [if_pos c8] at H
            have c8b0 : decide (40 < (((rd_T35 l0 x4_1).f3).length : Int)) = true := decide_eq_true c8
            have c8b1 : decide (40 < ((rd_T35 l0 x4_1).f3).length) = true := decide_eq_true (by omega)
            clear c8
            obtain rfl := Option.some.inj H
            have p238 : 0 ≤ (x4_1 : Int) := of_decide_eq_true (by with_reducible assumption)
            have q238 : x4_1 < (l0.length : Int) := of_decide_eq_true (by with_reducible assumption)
            obtain ⟨ad238, A238_3, c238_3, A238_4, c238_4, e238, hx238_0, hx238_1, hx238_2, hx238_3, hx238_4, hx238_5, hx238_6, hl238_3, hi238_3, hl238_4, hi238_4⟩ := at_T35 HR0.out x4_1 p238 q238
            cases e238
            have HR238_3 := Aside0.mk hi238_3
            have HC238_3 := Aside0.mk hl238_3
            clear hi238_3 hl238_3
            have HR238_4 := Aside0.mk hi238_4
            have HC238_4 := Aside0.mk hl238_4
            clear hi238_4 hl238_4
            replace p238 := eq_true p238
            replace q238 := eq_true q238
            go_wp2
            go_ret
            exact ⟨by first | rfl | (simp; done) | (simp [*]; done), by repeat (first | exact Drawn0.refl _ | apply Drawn0.step)⟩
          rw [if_neg c8] at H
          have c8b0 : decide (40 < (((rd_T35 l0 x4_1).f3).length : Int)) = false := decide_eq_false c8
          have c8b1 : decide (40 < ((rd_T35 l0 x4_1).f3).length) = false := decide_eq_false (by omega)
          clear c8
          by_cases c9 : (((rd_T35 l0 x4_1).f4).length : Int) > 40
          · rw [if_pos c9] at H
            have c9b0 : decide (40 < (((rd_T35 l0 x4_1).f4).length : Int)) = true := decide_eq_true c9
            have c9b1 : decide (40 < ((rd_T35 l0 x4_1).f4).length) = true := decide_eq_true (by omega)
            clear c9
            obtain rfl := Option.some.inj H
            have p238 : 0 ≤ (x4_1 : Int) := of_decide_eq_true (by with_reducible assumption)
            have q238 : x4_1 < (l0.length : Int) := of_decide_eq_true (by with_reducible assumption)
            obtain ⟨ad238, A238_3, c238_3, A238_4, c238_4, e238, hx238_0, hx238_1, hx238_2, hx238_3, hx238_4, hx238_5, hx238_6, hl238_3, hi238_3, hl238_4, hi238_4⟩ := at_T35 HR0.out x4_1 p238 q238
            cases e238
            have HR238_3 := Aside0.mk hi238_3
            have HC238_3 := Aside0.mk hl238_3
            clear hi238_3 hl238_3
            have HR238_4 := Aside0.mk hi238_4
            have HC238_4 := Aside0.mk hl238_4
            clear hi238_4 hl238_4
            replace p238 := eq_true p238
            replace q238 := eq_true q238
            have p239 : 0 ≤ (x4_1 : Int) := of_decide_eq_true (by with_reducible assumption)
            have q239 : x4_1 < (l0.length : Int) := of_decide_eq_true (by with_reducible assumption)
            obtain ⟨ad239, A239_3, c239_3, A239_4, c239_4, e239, hx239_0, hx239_1, hx239_2, hx239_3, hx239_4, hx239_5, hx239_6, hl239_3, hi239_3, hl239_4, hi239_4⟩ := at_T35 HR0.out x4_1 p239 q239
            obtain rfl : ad238 = ad239 := (by injection e239)
            have HR239_3 := Aside0.mk hi239_3
            have HC239_3 := Aside0.mk hl239_3
            clear hi239_3 hl239_3
            have HR239_4 := Aside0.mk hi239_4
            have HC239_4 := Aside0.mk hl239_4
            clear hi239_4 hl239_4
            replace p239 := eq_true p239
            replace q239 := eq_true q239
            have ea_ := Option.some.inj (hx238_3.symm.trans hx239_3)
            injection ea_ with ea_ en_ ec_
            subst ea_
            subst ec_
            clear en_
            have ea_ := Option.some.inj (hx238_4.symm.trans hx239_4)
            injection ea_ with ea_ en_ ec_
            subst ea_
            subst ec_
            clear en_
            go_wp2
            go_ret
            exact ⟨by first | rfl | (simp; done) | (simp [*]; done), by repeat (first | exact Drawn0.refl _ | apply Drawn0.step)⟩
          rw [if_neg c9] at H
          have c9b0 : decide (40 < (((rd_T35 l0 x4_1).f4).length : Int)) = false := decide_eq_false c9
          have c9b1 : decide (40 < ((rd_T35 l0 x4_1).f4).length) = false := decide_eq_false (by omega)
          clear c9
          by_cases c10 : (((rd_T35 l0 x4_1).f5).size : Int) > 5000
          · rw [if_pos c10] at H
            have c10b0 : decide (5000 < (((rd_T35 l0 x4_1).f5).size : Int)) = true := decide_eq_true c10
            have c10b1 : decide (5000 < ((rd_T35 l0 x4_1).f5).size) = true := decide_eq_true (by omega)
            clear c10
            obtain rfl := Option.some.inj H
            have p238 : 0 ≤ (x4_1 : Int) := of_decide_eq_true (by with_reducible assumption)
            have q238 : x4_1 < (l0.length : Int) := of_decide_eq_true (by with_reducible assumption)
            obtain ⟨ad238, A238_3, c238_3, A238_4, c238_4, e238, hx238_0, hx238_1, hx238_2, hx238_3, hx238_4, hx238_5, hx238_6, hl238_3, hi238_3, hl238_4, hi238_4⟩ := at_T35 HR0.out x4_1 p238 q238
            cases e238
            have HR238_3 := Aside0.mk hi238_3
            have HC238_3 := Aside0.mk hl238_3
            clear hi238_3 hl238_3
            have HR238_4 := Aside0.mk hi238_4
            have HC238_4 := Aside0.mk hl238_4
            clear hi238_4 hl238_4
            replace p238 := eq_true p238
            replace q238 := eq_true q238
            have p239 : 0 ≤ (x4_1 : Int) := of_decide_eq_true (by with_reducible assumption)
            have q239 : x4_1 < (l0.length : Int) := of_decide_eq_true (by with_reducible assumption)
            obtain ⟨ad239, A239_3, c239_3, A239_4, c239_4, e239, hx239_0, hx239_1, hx239_2, hx239_3, hx239_4, hx239_5, hx239_6, hl239_3, hi239_3, hl239_4, hi239_4⟩ := at_T35 HR0.out x4_1 p239 q239
            obtain rfl : ad238 = ad239 := (by injection e239)
            have HR239_3 := Aside0.mk hi239_3
            have HC239_3 := Aside0.mk hl239_3
            clear hi239_3 hl239_3
            have HR239_4 := Aside0.mk hi239_4
            have HC239_4 := Aside0.mk hl239_4
            clear hi239_4 hl239_4
            replace p239 := eq_true p239
            replace q239 := eq_true q239
            have ea_ := Option.some.inj (hx238_3.symm.trans hx239_3)
            injection ea_ with ea_ en_ ec_
            subst ea_
            subst ec_
            clear en_
            have ea_ := Option.some.inj (hx238_4.symm.trans hx239_4)
            injection ea_ with ea_ en_ ec_
            subst ea_
            subst ec_
            clear en_
            have p240 : 0 ≤ (x4_1 : Int) := of_decide_eq_true (by with_reducible assumption)
            have q240 : x4_1 < (l0.length : Int) := of_decide_eq_true (by with_reducible assumption)
            obtain ⟨ad240, A240_3, c240_3, A240_4, c240_4, e240, hx240_0, hx240_1, hx240_2, hx240_3, hx240_4, hx240_5, hx240_6, hl240_3, hi240_3, hl240_4, hi240_4⟩ := at_T35 HR0.out x4_1 p240 q240
            obtain rfl : ad238 = ad240 := (by injection e240)
            have HR240_3 := Aside0.mk hi240_3
            have HC240_3 := Aside0.mk hl240_3
            clear hi240_3 hl240_3
            have HR240_4 := Aside0.mk hi240_4
            have HC240_4 := Aside0.mk hl240_4
            clear hi240_4 hl240_4
            replace p240 := eq_true p240
            replace q240 := eq_true q240
            have ea_ := Option.some.inj (hx238_3.symm.trans hx240_3)
            injection ea_ with ea_ en_ ec_
            subst ea_
            subst ec_
            clear en_
            have ea_ := Option.some.inj (hx238_4.symm.trans hx240_4)
            injection ea_ with ea_ en_ ec_
            subst ea_
            subst ec_
            clear en_
            go_wp2
            go_ret
            exact ⟨by first | rfl | (simp; done) | (simp [*]; done), by repeat (first | exact Drawn0.refl _ | apply Drawn0.step)⟩
          rw [if_neg c10] at H
          have c10b0 : decide (5000 < (((rd_T35 l0 x4_1).f5).size : Int)) = false := decide_eq_false c10
          have c10b1 : decide (5000 < ((rd_T35 l0 x4_1).f5).size) = false := decide_eq_false (by omega)
          clear c10
          have H' := Aside0.mk H
          clear H
          have p238 : 0 ≤ (x4_1 : Int) := of_decide_eq_true (by with_reducible assumption)
          have q238 : x4_1 < (l0.length : Int) := of_decide_eq_true (by with_reducible assumption)
          obtain ⟨ad238, A238_3, c238_3, A238_4, c238_4, e238, hx238_0, hx238_1, hx238_2, hx238_3, hx238_4, hx238_5, hx238_6, hl238_3, hi238_3, hl238_4, hi238_4⟩ := at_T35 HR0.out x4_1 p238 q238
          cases e238
          have HR238_3 := Aside0.mk hi238_3
          have HC238_3 := Aside0.mk hl238_3
          clear hi238_3 hl238_3
          have HR238_4 := Aside0.mk hi238_4
          have HC238_4 := Aside0.mk hl238_4
          clear hi238_4 hl238_4
          replace p238 := eq_true p238
          replace q238 := eq_true q238
          have p239 : 0 ≤ (x4_1 : Int) := of_decide_eq_true (by with_reducible assumption)
          have q239 : x4_1 < (l0.length : Int) := of_decide_eq_true (by with_reducible assumption)
          obtain ⟨ad239, A239_3, c239_3, A239_4, c239_4, e239, hx239_0, hx239_1, hx239_2, hx239_3, hx239_4, hx239_5, hx239_6, hl239_3, hi239_3, hl239_4, hi239_4⟩ := at_T35 HR0.out x4_1 p239 q239
          obtain rfl : ad238 = ad239 := (by injection e239)
          have HR239_3 := Aside0.mk hi239_3
          have HC239_3 := Aside0.mk hl239_3
          clear hi239_3 hl239_3
          have HR239_4 := Aside0.mk hi239_4
          have HC239_4 := Aside0.mk hl239_4
          clear hi239_4 hl239_4
          replace p239 := eq_true p239
          replace q239 := eq_true q239
          have ea_ := Option.some.inj (hx238_3.symm.trans hx239_3)
          injection ea_ with ea_ en_ ec_
          subst ea_
          subst ec_
          clear en_
          have ea_ := Option.some.inj (hx238_4.symm.trans hx239_4)
          injection ea_ with ea_ en_ ec_
          subst ea_
          subst ec_
          clear en_
          have p240 : 0 ≤ (x4_1 : Int) := of_decide_eq_true (by with_reducible assumption)
          have q240 : x4_1 < (l0.length : Int) := of_decide_eq_true (by with_reducible assumption)
          obtain ⟨ad240, A240_3, c240_3, A240_4, c240_4, e240, hx240_0, hx240_1, hx240_2, hx240_3, hx240_4, hx240_5, hx240_6, hl240_3, hi240_3, hl240_4, hi240_4⟩ := at_T35 HR0.out x4_1 p240 q240
          obtain rfl : ad238 = ad240 := (by injection e240)
          have HR240_3 := Aside0.mk hi240_3
          have HC240_3 := Aside0.mk hl240_3
          clear hi240_3 hl240_3
          have HR240_4 := Aside0.mk hi240_4
          have HC240_4 := Aside0.mk hl240_4
          clear hi240_4 hl240_4
          replace p240 := eq_true p240
          replace q240 := eq_true q240
          have ea_ := Option.some.inj (hx238_3.symm.trans hx240_3)
          injection ea_ with ea_ en_ ec_
          subst ea_
          subst ec_
          clear en_
          have ea_ := Option.some.inj (hx238_4.symm.trans hx240_4)
          injection ea_ with ea_ en_ ec_
          subst ea_
          subst ec_
          clear en_
          have p241 : 0 ≤ (x4_1 : Int) := of_decide_eq_true (by with_reducible assumption)
          have q241 : x4_1 < (l0.length : Int) := of_decide_eq_true (by with_reducible assumption)
          obtain ⟨ad241, A241_3, c241_3, A241_4, c241_4, e241, hx241_0, hx241_1, hx241_2, hx241_3, hx241_4, hx241_5, hx241_6, hl241_3, hi241_3, hl241_4, hi241_4⟩ := at_T35 HR0.out x4_1 p241 q241
          obtain rfl : ad238 = ad241 := (by injection e241)
          have HR241_3 := Aside0.mk hi241_3
          have HC241_3 := Aside0.mk hl241_3
          clear hi241_3 hl241_3
          have HR241_4 := Aside0.mk hi241_4
          have HC241_4 := Aside0.mk hl241_4
          clear hi241_4 hl241_4
          replace p241 := eq_true p241
          replace q241 := eq_true q241
          have ea_ := Option.some.inj (hx238_3.symm.trans hx241_3)
          injection ea_ with ea_ en_ ec_
          subst ea_
          subst ec_
          clear en_
          have ea_ := Option.some.inj (hx238_4.symm.trans hx241_4)
          injection ea_ with ea_ en_ ec_
          subst ea_
          subst ec_
          clear en_
          go_wp2
          go_roundg kj1
          case measure => have := HK1.out; have := HJ1.out; omega
          case rel => exact ⟨(wrap64 (x3_1 + (((rd_T35 l0 x4_1).f5).size : Int))), (wrap64 (x4_1 + 1)), (by first | rfl | (simp; done) | (simp [*]; done)), (by first | rfl | (simp; done) | (simp [*]; done)), H', ⟨by have := HK1.out; have := HJ1.out; omega⟩, by repeat (first | exact Drawn0.refl _ | apply Drawn0.step)⟩
def jobshellref36_number.f (a0 : Int) : Option (Bool) := if a0 ≥ 1 then (some (decide (a0 ≤ 2147483647))) else (some false)
set_option maxHeartbeats 8000000 in
set_option maxRecDepth 100000 in
theorem jobshellref36_number.calls (a0 : Int) (r : Bool) (w : World) (h : jobshellref36_number.f a0 = some r) (hG : Gl w) :
    Calls Tryd.prog 28 #[.int .i64 a0] w fun e w' => e = .returned (.bool r) ∧ Drawn0 w w' := by
  have HG := Aside0.mk hG
  clear hG
  have H : (if a0 ≥ 1 then (some (decide (a0 ≤ 2147483647))) else (some false)) = some r := h
  clear h
  by_cases c2 : a0 ≥ 1
  · rw [if_pos c2] at H
    have c2b0 : decide (1 ≤ a0) = true := decide_eq_true c2
    clear c2
    obtain rfl := Option.some.inj H
    go_enter Tryd.func28, Tryd.ntmps28
    go_wp2
    go_ret
    exact ⟨by first | rfl | (simp; done) | (simp [*]; done), by repeat (first | exact Drawn0.refl _ | apply Drawn0.step)⟩
  rw [if_neg c2] at H
  have c2b0 : decide (1 ≤ a0) = false := decide_eq_false c2
  clear c2
  obtain rfl := Option.some.inj H
  go_enter Tryd.func28, Tryd.ntmps28
  go_wp2
  go_ret
  exact ⟨by first | rfl | (simp; done) | (simp [*]; done), by repeat (first | exact Drawn0.refl _ | apply Drawn0.step)⟩

def jobshellref36_has.l0 : Nat → List Int → Int → Int → Option (Bool)
  | 0, _, _, _ => none
  | k + 1, x0, x1, x5 => if x5 < (x0.length : Int) then (if 0 ≤ x5 then (if (rd x0 x5) = x1 then (some true) else (jobshellref36_has.l0 k x0 x1 (wrap64 (x5 + 1)))) else (none)) else (some false)
def jobshellref36_has.f (k : Nat) (l0 : List Int) (a1 : Int) : Option (Bool) := jobshellref36_has.l0 k l0 a1 0
theorem jobshellref36_has.mono_l : ∀ k, (∀ y0 y1 y2, LeO (jobshellref36_has.l0 k y0 y1 y2) (jobshellref36_has.l0 (k + 1) y0 y1 y2))
  | 0 => fun _ _ _ r h => by simp [jobshellref36_has.l0] at h
  | k + 1 => by
    have ih0 := jobshellref36_has.mono_l k
    · intro y0 y1 y2
      unfold jobshellref36_has.l0
      repeat' first
      | (with_reducible exact ih0 _ _ _)
      | (with_reducible exact LeO.refl _)
      | (with_reducible exact LeO.none _)
      | (with_reducible refine LeO.ite ?_ ?_)
      | (with_reducible refine LeO.bind ?_ (fun _ => ?_))
      | exact ih0 _ _ _
      | exact LeO.none _
      | refine LeO.ite ?_ ?_
      | refine LeO.bind ?_ (fun _ => ?_)
theorem jobshellref36_has.mono : ∀ a0 a1 k, LeO (jobshellref36_has.f k a0 a1) (jobshellref36_has.f (k + 1) a0 a1) := by
  intro a0 a1 k
  have ih0 := jobshellref36_has.mono_l k
  unfold jobshellref36_has.f
  repeat' first
      | (with_reducible exact ih0 _ _ _)
      | (with_reducible exact LeO.refl _)
      | (with_reducible exact LeO.none _)
      | (with_reducible refine LeO.ite ?_ ?_)
      | (with_reducible refine LeO.bind ?_ (fun _ => ?_))
      | exact ih0 _ _ _
      | exact LeO.none _
      | refine LeO.ite ?_ ?_
      | refine LeO.bind ?_ (fun _ => ?_)
set_option maxHeartbeats 8000000 in
set_option maxRecDepth 100000 in
theorem jobshellref36_has.calls (k : Nat) (A0 : Option Addr) (c0 : Nat) (l0 : List Int) (a1 : Int) (r : Bool) (w : World) (hr0 : Kd.C (Kd.int .i64) w A0 l0.length l0) (hc0 : l0.length ≤ c0) (h : jobshellref36_has.f k l0 a1 = some r) (hG : Gl w) :
    Calls Tryd.prog 29 #[.slice A0 l0.length c0, .int .i64 a1] w fun e w' => e = .returned (.bool r) ∧ Drawn0 w w' := by
  have HG := Aside0.mk hG
  clear hG
  have HR0 := Aside0.mk hr0
  have HC0 := Aside0.mk hc0
  clear hr0 hc0
  have H : (jobshellref36_has.l0 k l0 a1 0) = some r := h
  clear h
  have H' := Aside0.mk H
  clear H
  go_enter Tryd.func29, Tryd.ntmps29
  go_wp2
  go_loopg [5] k (fun kq v5 w' => ∃ (x5_1 : Int), v5 = .int .i64 x5_1 ∧ Aside0 (jobshellref36_has.l0 kq l0 a1 x5_1 = some r) ∧ Aside0 (kq ≤ k) ∧ Drawn0 w w')
  case atStart => exact ⟨(0), (by first | rfl | (simp; done) | (simp [*]; done)), H', ⟨Nat.le_refl _⟩, by repeat (first | exact Drawn0.refl _ | apply Drawn0.step)⟩
  case round =>
    clear H'
    obtain ⟨x5_1, rfl, HA, HK1, ⟨m1, rfl⟩⟩ := hrel
    cases gk with
    | zero => exact absurd HA.out (by simp [jobshellref36_has.l0])
    | succ k1 =>
      have H := HA.out
      clear HA
      simp only [jobshellref36_has.l0] at H
      by_cases c3 : x5_1 < (l0.length : Int)
      rotate_left
      · rw [if_neg c3] at H
        have c3b0 : decide (x5_1 < (l0.length : Int)) = false := decide_eq_false c3
        clear c3
        obtain rfl := Option.some.inj H
        go_wp2
        go_ret
        exact ⟨by first | rfl | (simp; done) | (simp [*]; done), by repeat (first | exact Drawn0.refl _ | apply Drawn0.step)⟩

      rw [if_pos c3] at H
      have c3b0 : decide (x5_1 < (l0.length : Int)) = true := decide_eq_true c3
      clear c3
      by_cases c4 : 0 ≤ x5_1
      rotate_left
      · rw [if_neg c4] at H
        exact absurd H (by simp)
      rw [if_pos c4] at H
      have c4b0 : decide (0 ≤ x5_1) = true := decide_eq_true c4
      clear c4
      by_cases c5 : (rd l0 x5_1) = a1
      · rw [if_pos c5] at H
        have c5b0 : ((rd l0 x5_1) == a1) = true := beq_iff_eq.mpr c5
        have c5b1 : ((rd l0 x5_1) != a1) = false := bne_eq_false_iff_eq.mpr c5
        clear c5
        obtain rfl := Option.some.inj H
        have p242 : 0 ≤ (x5_1 : Int) := of_decide_eq_true (by with_reducible assumption)
        have q242 : x5_1 < (l0.length : Int) := of_decide_eq_true (by with_reducible assumption)
        obtain ⟨ad242, e242, hx242_0⟩ := Kd.at_int HR0.out x5_1 p242 q242
        cases e242
        replace p242 := eq_true p242
        replace q242 := eq_true q242
        go_wp2
        go_ret
        exact ⟨by first | rfl | (simp; done) | (simp [*]; done), by repeat (first | exact Drawn0.refl _ | apply Drawn0.step)⟩
      rw [if_neg c5] at H
      have c5b0 : ((rd l0 x5_1) == a1) = false := beq_eq_false_iff_ne.mpr c5
      have c5b1 : ((rd l0 x5_1) != a1) = true := bne_iff_ne.mpr c5
      have H' := Aside0.mk H
      clear H
      have p242 : 0 ≤ (x5_1 : Int) := of_decide_eq_true (by with_reducible assumption)
      have q242 : x5_1 < (l0.length : Int) := of_decide_eq_true (by with_reducible assumption)
      obtain ⟨ad242, e242, hx242_0⟩ := Kd.at_int HR0.out x5_1 p242 q242
      cases e242
      replace p242 := eq_true p242
      replace q242 := eq_true q242
      go_wp2
      go_roundg k1
      case measure => have := HK1.out; omega
      case rel => exact ⟨(wrap64 (x5_1 + 1)), (by first | rfl | (simp; done) | (simp [*]; done)), H', ⟨by have := HK1.out; omega⟩, by repeat (first | exact Drawn0.refl _ | apply Drawn0.step)⟩
def jobshellref36_member.l0 : Nat → List (S35) → Int → Int → Option (Bool)
  | 0, _, _, _ => none
  | k + 1, x0, x1, x5 => if x5 < (x0.length : Int) then (if 0 ≤ x5 then ((jobshellref36_has.f k ((rd_T35 x0 x5).f3) x1).bind fun t244 => (if t244 = true then (some true) else (jobshellref36_member.l0 k x0 x1 (wrap64 (x5 + 1))))) else (none)) else (some false)
def jobshellref36_member.f (k : Nat) (l0 : List (S35)) (a1 : Int) : Option (Bool) := jobshellref36_member.l0 k l0 a1 0
theorem jobshellref36_member.mono_l : ∀ k, (∀ y0 y1 y2, LeO (jobshellref36_member.l0 k y0 y1 y2) (jobshellref36_member.l0 (k + 1) y0 y1 y2))
  | 0 => fun _ _ _ r h => by simp [jobshellref36_member.l0] at h
  | k + 1 => by
    have ih0 := jobshellref36_member.mono_l k
    · intro y0 y1 y2
      unfold jobshellref36_member.l0
      repeat' first
      | (with_reducible exact ih0 _ _ _)
      | (with_reducible exact jobshellref36_has.mono _ _ _)
      | (with_reducible exact LeO.refl _)
      | (with_reducible exact LeO.none _)
      | (with_reducible refine LeO.ite ?_ ?_)
      | (with_reducible refine LeO.bind ?_ (fun _ => ?_))
      | exact ih0 _ _ _
      | exact jobshellref36_has.mono _ _ _
      | exact LeO.none _
      | refine LeO.ite ?_ ?_
      | refine LeO.bind ?_ (fun _ => ?_)
theorem jobshellref36_member.mono : ∀ a0 a1 k, LeO (jobshellref36_member.f k a0 a1) (jobshellref36_member.f (k + 1) a0 a1) := by
  intro a0 a1 k
  have ih0 := jobshellref36_member.mono_l k
  unfold jobshellref36_member.f
  repeat' first
      | (with_reducible exact ih0 _ _ _)
      | (with_reducible exact jobshellref36_has.mono _ _ _)
      | (with_reducible exact LeO.refl _)
      | (with_reducible exact LeO.none _)
      | (with_reducible refine LeO.ite ?_ ?_)
      | (with_reducible refine LeO.bind ?_ (fun _ => ?_))
      | exact ih0 _ _ _
      | exact jobshellref36_has.mono _ _ _
      | exact LeO.none _
      | refine LeO.ite ?_ ?_
      | refine LeO.bind ?_ (fun _ => ?_)
set_option maxHeartbeats 8000000 in
set_option maxRecDepth 100000 in
theorem jobshellref36_member.calls (k : Nat) (A0 : Option Addr) (c0 : Nat) (l0 : List (S35)) (a1 : Int) (r : Bool) (w : World) (hr0 : Kd.C k35 w A0 l0.length l0) (hc0 : l0.length ≤ c0) (h : jobshellref36_member.f k l0 a1 = some r) (hG : Gl w) :
    Calls Tryd.prog 30 #[.slice A0 l0.length c0, .int .i64 a1] w fun e w' => e = .returned (.bool r) ∧ Drawn0 w w' := by
  have HG := Aside0.mk hG
  clear hG
  have HR0 := Aside0.mk hr0
  have HC0 := Aside0.mk hc0
  clear hr0 hc0
  have H : (jobshellref36_member.l0 k l0 a1 0) = some r := h
  clear h
  have H' := Aside0.mk H
  clear H
  go_enter Tryd.func30, Tryd.ntmps30
  go_wp2
  go_loopg [5] k (fun kq v5 w' => ∃ (x5_1 : Int), v5 = .int .i64 x5_1 ∧ Aside0 (jobshellref36_member.l0 kq l0 a1 x5_1 = some r) ∧ Aside0 (kq ≤ k) ∧ Drawn0 w w')
  case atStart => exact ⟨(0), (by first | rfl | (simp; done) | (simp [*]; done)), H', ⟨Nat.le_refl _⟩, by repeat (first | exact Drawn0.refl _ | apply Drawn0.step)⟩
  case round =>
    clear H'
    obtain ⟨x5_1, rfl, HA, HK1, ⟨m1, rfl⟩⟩ := hrel
    cases gk with
    | zero => exact absurd HA.out (by simp [jobshellref36_member.l0])
    | succ k1 =>
      have H := HA.out
      clear HA
      simp only [jobshellref36_member.l0] at H
      by_cases c3 : x5_1 < (l0.length : Int)
      rotate_left
      · rw [if_neg c3] at H
        have c3b0 : decide (x5_1 < (l0.length : Int)) = false := decide_eq_false c3
        clear c3
        obtain rfl := Option.some.inj H
        go_wp2
        go_ret
        exact ⟨by first | rfl | (simp; done) | (simp [*]; done), by repeat (first | exact Drawn0.refl _ | apply Drawn0.step)⟩

      rw [if_pos c3] at H
      have c3b0 : decide (x5_1 < (l0.length : Int)) = true := decide_eq_true c3
      clear c3
      by_cases c4 : 0 ≤ x5_1
      rotate_left
      · rw [if_neg c4] at H
        exact absurd H (by simp)
      rw [if_pos c4] at H
      have c4b0 : decide (0 ≤ x5_1) = true := decide_eq_true c4
      clear c4
      replace H := Option.bind_eq_some_iff.mp H
      obtain ⟨t244, A50, H⟩ := H
      replace H : (if t244 = true then (some true) else (jobshellref36_member.l0 k1 l0 a1 (wrap64 (x5_1 + 1)))) = some r := H
      have A5 := Aside0.mk A50
      clear A50
      by_cases c6 : t244 = true
      · subst c6
        have H1 : (some true) = some r := by rw [if_pos rfl] at H; exact H
        clear H
        have H := H1
        clear H1
        obtain rfl := Option.some.inj H
        have p243 : 0 ≤ (x5_1 : Int) := of_decide_eq_true (by with_reducible assumption)
        have q243 : x5_1 < (l0.length : Int) := of_decide_eq_true (by with_reducible assumption)
        obtain ⟨ad243, A243_3, c243_3, A243_4, c243_4, e243, hx243_0, hx243_1, hx243_2, hx243_3, hx243_4, hx243_5, hx243_6, hl243_3, hi243_3, hl243_4, hi243_4⟩ := at_T35 HR0.out x5_1 p243 q243
        cases e243
        have HR243_3 := Aside0.mk hi243_3
        have HC243_3 := Aside0.mk hl243_3
        clear hi243_3 hl243_3
        have HR243_4 := Aside0.mk hi243_4
        have HC243_4 := Aside0.mk hl243_4
        clear hi243_4 hl243_4
        replace p243 := eq_true p243
        replace q243 := eq_true q243
        go_wp2_with (first | ((with_reducible refine gate_callee (f := 29) rfl ?_); refine goesL_ (some 18) rfl rfl Tryd.func29 (by kernel_rfl) rfl #[.slice A243_3 ((rd_T35 l0 x5_1).f3).length c243_3, .int .i64 a1] rfl (by (try simp only [List.map_toArray, List.map_cons, List.map_nil]); first | done | rfl | (simp only [List.length_drop, List.length_take]; rfl)) ?_; (with_reducible refine (jobshellref36_has.calls k1 _ _ ((rd_T35 l0 x5_1).f3) a1 true _ ?side1 ?side2 A5.out ?sideG).mono ?_); (case sideG => first | (with_reducible exact HG.out) | (with_reducible exact HG.out.drewN _)); (case side1 => repeat (first | exact HR243_3.out | (with_reducible refine Kd.C_alloc ?_ _) | (with_reducible refine Kd.C_drewN ?_ _) | (with_reducible refine Kd.C_drew ?_))); (case side2 => exact HC243_3.out); rintro e w' ⟨rfl, ⟨nd, rfl⟩⟩; refine ⟨_, rfl, ?_⟩))
        go_ret
        exact ⟨by first | rfl | (simp; done) | (simp [*]; done), by repeat (first | exact Drawn0.refl _ | apply Drawn0.step)⟩
      replace c6 := Bool.eq_false_iff.mpr c6
      subst c6
      have H1 : (jobshellref36_member.l0 k1 l0 a1 (wrap64 (x5_1 + 1))) = some r := by rw [if_neg (show ¬ (false = true) by decide)] at H; exact H
      clear H
      have H := H1
      clear H1
      have H' := Aside0.mk H
      clear H
      have p243 : 0 ≤ (x5_1 : Int) := of_decide_eq_true (by with_reducible assumption)
      have q243 : x5_1 < (l0.length : Int) := of_decide_eq_true (by with_reducible assumption)
      obtain ⟨ad243, A243_3, c243_3, A243_4, c243_4, e243, hx243_0, hx243_1, hx243_2, hx243_3, hx243_4, hx243_5, hx243_6, hl243_3, hi243_3, hl243_4, hi243_4⟩ := at_T35 HR0.out x5_1 p243 q243
      cases e243
      have HR243_3 := Aside0.mk hi243_3
      have HC243_3 := Aside0.mk hl243_3
      clear hi243_3 hl243_3
      have HR243_4 := Aside0.mk hi243_4
      have HC243_4 := Aside0.mk hl243_4
      clear hi243_4 hl243_4
      replace p243 := eq_true p243
      replace q243 := eq_true q243
      go_wp2_with (first | ((with_reducible refine gate_callee (f := 29) rfl ?_); refine goesL_ (some 18) rfl rfl Tryd.func29 (by kernel_rfl) rfl #[.slice A243_3 ((rd_T35 l0 x5_1).f3).length c243_3, .int .i64 a1] rfl (by (try simp only [List.map_toArray, List.map_cons, List.map_nil]); first | done | rfl | (simp only [List.length_drop, List.length_take]; rfl)) ?_; (with_reducible refine (jobshellref36_has.calls k1 _ _ ((rd_T35 l0 x5_1).f3) a1 false _ ?side1 ?side2 A5.out ?sideG).mono ?_); (case sideG => first | (with_reducible exact HG.out) | (with_reducible exact HG.out.drewN _)); (case side1 => repeat (first | exact HR243_3.out | (with_reducible refine Kd.C_alloc ?_ _) | (with_reducible refine Kd.C_drewN ?_ _) | (with_reducible refine Kd.C_drew ?_))); (case side2 => exact HC243_3.out); rintro e w' ⟨rfl, ⟨nd, rfl⟩⟩; refine ⟨_, rfl, ?_⟩))
      go_roundg k1
      case measure => have := HK1.out; omega
      case rel => exact ⟨(wrap64 (x5_1 + 1)), (by first | rfl | (simp; done) | (simp [*]; done)), H', ⟨by have := HK1.out; omega⟩, by repeat (first | exact Drawn0.refl _ | apply Drawn0.step)⟩
end Go.Proofs.YthafbimhmfjcoaaDoor.PV

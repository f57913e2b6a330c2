-- Written by a program of this session's (wip/mkprint.py) out of the translation; the texts of functions that the program does not take are mine.
import Derived.Test.YtphgcpoefpogfaaDoorPSx0
import Derived.Test.YtphgcpoefpogfaaDoorPSx4
import Derived.Test.YtphgcpoefpogfaaDoorPSx5
import Derived.Test.YtphgcpoefpogfaaDoorPSx6
import Derived.Test.YtphgcpoefpogfaaDoorPSx7
import Derived.Test.YtphgcpoefpogfaaDoorPSx15
import Derived.Test.YtphgcpoefpogfaaDoorPSx18
namespace Go.Proofs.YtphgcpoefpogfaaDoor.PS
open Go.RowKit Go.Proofs.YtphgcpoefpogfaaDoorW.PrintWords Go.Proofs.YtphgcpoefpogfaaDoorW.PrintLast Go.Proofs.YtphgcpoefpogfaaDoorW.PrintMore
attribute [local go_sem] max2_int min2_int max_two min_two max_three min_three max_four min_four   -- for this text's walks alone
set_option linter.unusedVariables false
set_option linter.unusedSimpArgs false

/-! ### jobshelllaw34_TrapStays: function 9 -/
mutual
def jobshelllaw34_TrapStays.j0 : Nat → List (S30) → Int → ByteArray → ByteArray → Bool → Option (Bool)
  | 0, _, _, _, _, _ => none
  | k + 1, x0, x1, x2, x3, x23 => if x23 = true then ((jobshelllaw34_awake.f k).bind fun t399 => (some t399)) else ((trap_Set.f k x0 x1 x2).bind fun t400 => ((trap_Reset.f k x0 x1).bind fun t403 => ((jobshellref34_Right.f k t400).bind fun t406 => (if t406 = true then ((jobshellref34_Right.f k t403).bind fun t407 => (if t407 = true then ((trap_Sub.f k x0).bind fun t408 => ((jobshellref34_Right.f k t408).bind fun t411 => (if t411 = true then ((trap_Set.f k t400 x1 x3).bind fun t412 => ((trap_Set.f k x0 x1 x3).bind fun t415 => ((jobshellref34_Same.f k t412 t415).bind fun t418 => (jobshelllaw34_TrapStays.j1 k x0 x1 t400 t403 (!t418))))) else (jobshelllaw34_TrapStays.j1 k x0 x1 t400 t403 true)))) else (jobshelllaw34_TrapStays.j1 k x0 x1 t400 t403 true))) else (jobshelllaw34_TrapStays.j1 k x0 x1 t400 t403 true)))))
def jobshelllaw34_TrapStays.j1 : Nat → List (S30) → Int → List (S30) → List (S30) → Bool → Option (Bool)
  | 0, _, _, _, _, _ => none
  | k + 1, x0, x1, x9, x10, x57 => if x57 = true then (some false) else ((trap_Reset.f k x9 x1).bind fun t419 => ((jobshellref34_Same.f k t419 x10).bind fun t422 => (if t422 = true then (if (x10.length : Int) = (x0.length : Int) then ((jobshellref34_Same.f k x10 x0).bind fun t423 => (if t423 = true then (if (x10.length : Int) ≤ (x0.length : Int) then ((jobshelllaw34_awake.f k).bind fun t424 => (some t424)) else (some false)) else (some false))) else (if (x10.length : Int) ≤ (x0.length : Int) then ((jobshelllaw34_awake.f k).bind fun t425 => (some t425)) else (some false))) else (some false))))
end
def jobshelllaw34_TrapStays.f (k : Nat) (l0 : List (S30)) (a1 : Int) (a2 : ByteArray) (a3 : ByteArray) : Option (Bool) := (jobshelllaw34_ok.f k l0).bind fun t398 => (if t398 = true then (if (a2.size : Int) > 500 then (jobshelllaw34_TrapStays.j0 k l0 a1 a2 a3 true) else (jobshelllaw34_TrapStays.j0 k l0 a1 a2 a3 (decide ((a3.size : Int) > 500)))) else (jobshelllaw34_TrapStays.j0 k l0 a1 a2 a3 true))
theorem jobshelllaw34_TrapStays.mono_l : ∀ k, (∀ y0 y1 y2 y3 y4, LeO (jobshelllaw34_TrapStays.j0 k y0 y1 y2 y3 y4) (jobshelllaw34_TrapStays.j0 (k + 1) y0 y1 y2 y3 y4)) ∧ (∀ y0 y1 y2 y3 y4, LeO (jobshelllaw34_TrapStays.j1 k y0 y1 y2 y3 y4) (jobshelllaw34_TrapStays.j1 (k + 1) y0 y1 y2 y3 y4))
  | 0 => ⟨fun _ _ _ _ _ r h => by simp [jobshelllaw34_TrapStays.j0] at h, fun _ _ _ _ _ r h => by simp [jobshelllaw34_TrapStays.j1] at h⟩
  | k + 1 => by
    obtain ⟨ih0, ih1⟩ := jobshelllaw34_TrapStays.mono_l k
    refine ⟨?_, ?_⟩
    · intro y0 y1 y2 y3 y4
      unfold jobshelllaw34_TrapStays.j0
      repeat' first
      | (with_reducible exact ih0 _ _ _ _ _)
      | (with_reducible exact ih1 _ _ _ _ _)
      | (with_reducible exact jobshelllaw34_awake.mono _)
      | (with_reducible exact jobshelllaw34_ok.mono _ _)
      | (with_reducible exact jobshellref34_Right.mono _ _)
      | (with_reducible exact jobshellref34_Same.mono _ _ _)
      | (with_reducible exact trap_Reset.mono _ _ _)
      | (with_reducible exact trap_Set.mono _ _ _ _)
      | (with_reducible exact trap_Sub.mono _ _)
      | (with_reducible exact LeO.refl _)
      | (with_reducible exact LeO.none _)
      | (with_reducible refine LeO.ite ?_ ?_)
      | (with_reducible refine LeO.bind ?_ (fun _ => ?_))
      | exact ih0 _ _ _ _ _
      | exact ih1 _ _ _ _ _
      | exact jobshelllaw34_awake.mono _
      | exact jobshelllaw34_ok.mono _ _
      | exact jobshellref34_Right.mono _ _
      | exact jobshellref34_Same.mono _ _ _
      | exact trap_Reset.mono _ _ _
      | exact trap_Set.mono _ _ _ _
      | exact trap_Sub.mono _ _
      | exact LeO.none _
      | refine LeO.ite ?_ ?_
      | refine LeO.bind ?_ (fun _ => ?_)
    · intro y0 y1 y2 y3 y4
      unfold jobshelllaw34_TrapStays.j1
      repeat' first
      | (with_reducible exact ih0 _ _ _ _ _)
      | (with_reducible exact ih1 _ _ _ _ _)
      | (with_reducible exact jobshelllaw34_awake.mono _)
      | (with_reducible exact jobshelllaw34_ok.mono _ _)
      | (with_reducible exact jobshellref34_Right.mono _ _)
      | (with_reducible exact jobshellref34_Same.mono _ _ _)
      | (with_reducible exact trap_Reset.mono _ _ _)
      | (with_reducible exact trap_Set.mono _ _ _ _)
      | (with_reducible exact trap_Sub.mono _ _)
      | (with_reducible exact LeO.refl _)
      | (with_reducible exact LeO.none _)
      | (with_reducible refine LeO.ite ?_ ?_)
      | (with_reducible refine LeO.bind ?_ (fun _ => ?_))
      | exact ih0 _ _ _ _ _
      | exact ih1 _ _ _ _ _
      | exact jobshelllaw34_awake.mono _
      | exact jobshelllaw34_ok.mono _ _
      | exact jobshellref34_Right.mono _ _
      | exact jobshellref34_Same.mono _ _ _
      | exact trap_Reset.mono _ _ _
      | exact trap_Set.mono _ _ _ _
      | exact trap_Sub.mono _ _
      | exact LeO.none _
      | refine LeO.ite ?_ ?_
      | refine LeO.bind ?_ (fun _ => ?_)
theorem jobshelllaw34_TrapStays.mono : ∀ a0 a1 a2 a3 k, LeO (jobshelllaw34_TrapStays.f k a0 a1 a2 a3) (jobshelllaw34_TrapStays.f (k + 1) a0 a1 a2 a3) := by
  intro a0 a1 a2 a3 k
  obtain ⟨ih0, ih1⟩ := jobshelllaw34_TrapStays.mono_l k
  unfold jobshelllaw34_TrapStays.f
  repeat' first
      | (with_reducible exact ih0 _ _ _ _ _)
      | (with_reducible exact ih1 _ _ _ _ _)
      | (with_reducible exact jobshelllaw34_awake.mono _)
      | (with_reducible exact jobshelllaw34_ok.mono _ _)
      | (with_reducible exact jobshellref34_Right.mono _ _)
      | (with_reducible exact jobshellref34_Same.mono _ _ _)
      | (with_reducible exact trap_Reset.mono _ _ _)
      | (with_reducible exact trap_Set.mono _ _ _ _)
      | (with_reducible exact trap_Sub.mono _ _)
      | (with_reducible exact LeO.refl _)
      | (with_reducible exact LeO.none _)
      | (with_reducible refine LeO.ite ?_ ?_)
      | (with_reducible refine LeO.bind ?_ (fun _ => ?_))
      | exact ih0 _ _ _ _ _
      | exact ih1 _ _ _ _ _
      | exact jobshelllaw34_awake.mono _
      | exact jobshelllaw34_ok.mono _ _
      | exact jobshellref34_Right.mono _ _
      | exact jobshellref34_Same.mono _ _ _
      | exact trap_Reset.mono _ _ _
      | exact trap_Set.mono _ _ _ _
      | exact trap_Sub.mono _ _
      | exact LeO.none _
      | refine LeO.ite ?_ ?_
      | refine LeO.bind ?_ (fun _ => ?_)
set_option maxHeartbeats 8000000 in
set_option maxRecDepth 100000 in
theorem jobshelllaw34_TrapStays.calls_true (k : Nat) (A0 : Option Addr) (c0 : Nat) (l0 : List (S30)) (a1 : Int) (a2 : ByteArray) (a3 : ByteArray) (r : Bool) (w : World) (hr0 : Kd.C k30 w A0 l0.length l0) (hc0 : l0.length ≤ c0) (h : jobshelllaw34_TrapStays.f k l0 a1 a2 a3 = some r) (hT : r = true) :
    Calls Tryd.prog 9 #[.slice A0 l0.length c0, .int .i64 a1, .string a2, .string a3] w fun e w' => e = .returned (.bool r) ∧ Below w.heap.size w w' := by
  have HT := Aside0.mk hT
  clear hT
  have HR0 := Aside0.mk hr0
  have HC0 := Aside0.mk hc0
  clear hr0 hc0
  have HB := Aside0.mk (Below.refl w.heap.size w)
  have H : ((jobshelllaw34_ok.f k l0).bind fun t398 => (if t398 = true then (if (a2.size : Int) > 500 then (jobshelllaw34_TrapStays.j0 k l0 a1 a2 a3 true) else (jobshelllaw34_TrapStays.j0 k l0 a1 a2 a3 (decide ((a3.size : Int) > 500)))) else (jobshelllaw34_TrapStays.j0 k l0 a1 a2 a3 true))) = some r := h
  clear h
  have HC5 := Aside0.mk H
  clear H
  go_enter Tryd.func9, Tryd.ntmps9
  go_upto_region 1 with (fail)
  go_cut [23] (fun v23 wc => ∃ (kq : Nat) (x23_4 : Bool), v23 = .bool x23_4 ∧ Aside0 (jobshelllaw34_TrapStays.j0 kq l0 a1 a2 a3 x23_4 = some r) ∧ Aside0 (kq ≤ k) ∧ Aside0 (Below w.heap.size w wc))
  case first =>
    have H := HC5.out
    clear HC5
    replace H := Option.bind_eq_some_iff.mp H
    obtain ⟨t398, A60, H⟩ := H
    replace H : (if t398 = true then (if (a2.size : Int) > 500 then (jobshelllaw34_TrapStays.j0 k l0 a1 a2 a3 true) else (jobshelllaw34_TrapStays.j0 k l0 a1 a2 a3 (decide ((a3.size : Int) > 500)))) else (jobshelllaw34_TrapStays.j0 k l0 a1 a2 a3 true)) = some r := H
    have A6 := Aside0.mk A60
    clear A60
    by_cases c7 : t398 = true
    · subst c7
      have H1 : (if (a2.size : Int) > 500 then (jobshelllaw34_TrapStays.j0 k l0 a1 a2 a3 true) else (jobshelllaw34_TrapStays.j0 k l0 a1 a2 a3 (decide ((a3.size : Int) > 500)))) = some r := by rw [if_pos rfl] at H; exact H
      clear H
      have H := H1
      clear H1
      by_cases c8 : (a2.size : Int) > 500
      · rw [if_pos c8] at H
        have c8b0 : decide (500 < (a2.size : Int)) = true := decide_eq_true c8
        have c8b1 : decide (500 < a2.size) = true := decide_eq_true (by omega)
        clear c8
        (first | rw [c8b0] | (simp only [i64_w, i32_w]; rw [c8b0]) | skip)
        have H' := Aside0.mk H
        clear H
        go_wp2_with (first | ((with_reducible refine gate_callee (f := 13) rfl ?_); refine goesL_ (some 12) rfl rfl Tryd.func13 (by kernel_rfl) rfl #[.slice A0 l0.length c0] rfl (by (try simp only [List.map_toArray, List.map_cons, List.map_nil]); first | done | rfl | (simp only [List.length_drop, List.length_take]; rfl)) ?_; (with_reducible refine (jobshelllaw34_ok.calls k _ _ l0 true _ ?side1 ?side2 A6.out).mono ?_); (case side1 => repeat (first | exact (Kd.C_below HR0.out HB.out) | (with_reducible refine Kd.C_alloc ?_ _) | (with_reducible refine Kd.C_drewN ?_ _) | (with_reducible refine Kd.C_drew ?_))); (case side2 => exact HC0.out); rintro e w' ⟨rfl, ⟨nd, rfl⟩⟩; refine ⟨_, rfl, ?_⟩))
        go_meet
        case rel => exact ⟨_, (true), (by first | rfl | (simp; done) | (simp [*]; done) | exact congrArg (fun b => Ending.returned (Value.bool b)) (Ch.bne_nil _)), H', ⟨by first | omega | exact Nat.le_refl _⟩, ⟨by repeat (first | (with_reducible first | exact HB.out | apply below_alloc | apply pw_below_drewN | apply below_drew1) | exact HB.out)⟩⟩
      · rw [if_neg c8] at H
        have c8b0 : decide (500 < (a2.size : Int)) = false := decide_eq_false c8
        have c8b1 : decide (500 < a2.size) = false := decide_eq_false (by omega)
        clear c8
        (first | rw [c8b0] | (simp only [i64_w, i32_w]; rw [c8b0]) | skip)
        have H' := Aside0.mk H
        clear H
        go_wp2_with (first | ((with_reducible refine gate_callee (f := 13) rfl ?_); refine goesL_ (some 12) rfl rfl Tryd.func13 (by kernel_rfl) rfl #[.slice A0 l0.length c0] rfl (by (try simp only [List.map_toArray, List.map_cons, List.map_nil]); first | done | rfl | (simp only [List.length_drop, List.length_take]; rfl)) ?_; (with_reducible refine (jobshelllaw34_ok.calls k _ _ l0 true _ ?side1 ?side2 A6.out).mono ?_); (case side1 => repeat (first | exact (Kd.C_below HR0.out HB.out) | (with_reducible refine Kd.C_alloc ?_ _) | (with_reducible refine Kd.C_drewN ?_ _) | (with_reducible refine Kd.C_drew ?_))); (case side2 => exact HC0.out); rintro e w' ⟨rfl, ⟨nd, rfl⟩⟩; refine ⟨_, rfl, ?_⟩))
        go_meet
        case rel => exact ⟨_, (decide ((a3.size : Int) > 500)), (by first | rfl | (simp; done) | (simp [*]; done) | exact congrArg (fun b => Ending.returned (Value.bool b)) (Ch.bne_nil _)), H', ⟨by first | omega | exact Nat.le_refl _⟩, ⟨by repeat (first | (with_reducible first | exact HB.out | apply below_alloc | apply pw_below_drewN | apply below_drew1) | exact HB.out)⟩⟩
    · replace c7 := Bool.eq_false_iff.mpr c7
      subst c7
      have H1 : (jobshelllaw34_TrapStays.j0 k l0 a1 a2 a3 true) = some r := by rw [if_neg (show ¬ (false = true) by decide)] at H; exact H
      clear H
      have H := H1
      clear H1
      have H' := Aside0.mk H
      clear H
      go_wp2_with (first | ((with_reducible refine gate_callee (f := 13) rfl ?_); refine goesL_ (some 12) rfl rfl Tryd.func13 (by kernel_rfl) rfl #[.slice A0 l0.length c0] rfl (by (try simp only [List.map_toArray, List.map_cons, List.map_nil]); first | done | rfl | (simp only [List.length_drop, List.length_take]; rfl)) ?_; (with_reducible refine (jobshelllaw34_ok.calls k _ _ l0 false _ ?side1 ?side2 A6.out).mono ?_); (case side1 => repeat (first | exact (Kd.C_below HR0.out HB.out) | (with_reducible refine Kd.C_alloc ?_ _) | (with_reducible refine Kd.C_drewN ?_ _) | (with_reducible refine Kd.C_drew ?_))); (case side2 => exact HC0.out); rintro e w' ⟨rfl, ⟨nd, rfl⟩⟩; refine ⟨_, rfl, ?_⟩))
      go_meet
      case rel => exact ⟨_, (true), (by first | rfl | (simp; done) | (simp [*]; done) | exact congrArg (fun b => Ending.returned (Value.bool b)) (Ch.bne_nil _)), H', ⟨by first | omega | exact Nat.le_refl _⟩, ⟨by repeat (first | (with_reducible first | exact HB.out | apply below_alloc | apply pw_below_drewN | apply below_drew1) | exact HB.out)⟩⟩
  case rest =>
    clear HC5
    try clear c1
    try clear p2
    try clear c7
    try clear c8
    try clear c8b0
    try clear c8b1
    obtain ⟨kq, x23_4, rfl, HA, HJ4, HB⟩ := hcut
    cases kq with
    | zero => exact absurd HA.out (by simp [jobshelllaw34_TrapStays.j0])
    | succ kj4 =>
      have H := HA.out
      clear HA
      simp only [jobshelllaw34_TrapStays.j0] at H
      by_cases c9 : x23_4 = true
      · subst c9
        have H1 : ((jobshelllaw34_awake.f kj4).bind fun t399 => (some t399)) = some r := by rw [if_pos rfl] at H; exact H
        clear H
        have H := H1
        clear H1
        replace H := Option.bind_eq_some_iff.mp H
        obtain ⟨t399, A100, H⟩ := H
        replace H : (some t399) = some r := H
        have A10 := Aside0.mk A100
        clear A100
        obtain rfl := Option.some.inj H
        go_wp2_with (first | ((with_reducible refine gate_callee (f := 10) rfl ?_); refine goesL_ (some 24) rfl rfl Tryd.func10 (by kernel_rfl) rfl #[] rfl (by (try simp only [List.map_toArray, List.map_cons, List.map_nil]); first | done | rfl | (simp only [List.length_drop, List.length_take]; rfl)) ?_; (with_reducible refine (jobshelllaw34_awake.calls kj4  t399 _ A10.out).mono ?_); rintro e w11 ⟨rfl, hb⟩; refine ⟨_, rfl, ?_⟩; have n0_ := Aside0.mk (below_step (by repeat (first | (with_reducible first | exact HB.out | apply below_alloc | apply pw_below_drewN | apply below_drew1) | exact HB.out)) hb); clear HB; have HB := n0_; clear n0_; (try clear hb); (try clear hb2); (try clear hk); (try clear hi)))
        go_ret
        exact ⟨by first | rfl | (simp [errW_none, errW_some] <;> rfl) | (simp [*, errW_none, errW_some] <;> rfl), by repeat (first | (with_reducible first | exact HB.out | apply below_alloc | apply pw_below_drewN | apply below_drew1) | exact HB.out)⟩
      · replace c9 := Bool.eq_false_iff.mpr c9
        subst c9
        have H1 : ((trap_Set.f kj4 l0 a1 a2).bind fun t400 => ((trap_Reset.f kj4 l0 a1).bind fun t403 => ((jobshellref34_Right.f kj4 t400).bind fun t406 => (if t406 = true then ((jobshellref34_Right.f kj4 t403).bind fun t407 => (if t407 = true then ((trap_Sub.f kj4 l0).bind fun t408 => ((jobshellref34_Right.f kj4 t408).bind fun t411 => (if t411 = true then ((trap_Set.f kj4 t400 a1 a3).bind fun t412 => ((trap_Set.f kj4 l0 a1 a3).bind fun t415 => ((jobshellref34_Same.f kj4 t412 t415).bind fun t418 => (jobshelllaw34_TrapStays.j1 kj4 l0 a1 t400 t403 (!t418))))) else (jobshelllaw34_TrapStays.j1 kj4 l0 a1 t400 t403 true)))) else (jobshelllaw34_TrapStays.j1 kj4 l0 a1 t400 t403 true))) else (jobshelllaw34_TrapStays.j1 kj4 l0 a1 t400 t403 true))))) = some r := by rw [if_neg (show ¬ (false = true) by decide)] at H; exact H
        clear H
        have H := H1
        clear H1
        replace H := Option.bind_eq_some_iff.mp H
        obtain ⟨t400, A120, H⟩ := H
        replace H : ((trap_Reset.f kj4 l0 a1).bind fun t403 => ((jobshellref34_Right.f kj4 t400).bind fun t406 => (if t406 = true then ((jobshellref34_Right.f kj4 t403).bind fun t407 => (if t407 = true then ((trap_Sub.f kj4 l0).bind fun t408 => ((jobshellref34_Right.f kj4 t408).bind fun t411 => (if t411 = true then ((trap_Set.f kj4 t400 a1 a3).bind fun t412 => ((trap_Set.f kj4 l0 a1 a3).bind fun t415 => ((jobshellref34_Same.f kj4 t412 t415).bind fun t418 => (jobshelllaw34_TrapStays.j1 kj4 l0 a1 t400 t403 (!t418))))) else (jobshelllaw34_TrapStays.j1 kj4 l0 a1 t400 t403 true)))) else (jobshelllaw34_TrapStays.j1 kj4 l0 a1 t400 t403 true))) else (jobshelllaw34_TrapStays.j1 kj4 l0 a1 t400 t403 true)))) = some r := H
        have A12 := Aside0.mk A120
        clear A120
        replace H := Option.bind_eq_some_iff.mp H
        obtain ⟨t403, A130, H⟩ := H
        replace H : ((jobshellref34_Right.f kj4 t400).bind fun t406 => (if t406 = true then ((jobshellref34_Right.f kj4 t403).bind fun t407 => (if t407 = true then ((trap_Sub.f kj4 l0).bind fun t408 => ((jobshellref34_Right.f kj4 t408).bind fun t411 => (if t411 = true then ((trap_Set.f kj4 t400 a1 a3).bind fun t412 => ((trap_Set.f kj4 l0 a1 a3).bind fun t415 => ((jobshellref34_Same.f kj4 t412 t415).bind fun t418 => (jobshelllaw34_TrapStays.j1 kj4 l0 a1 t400 t403 (!t418))))) else (jobshelllaw34_TrapStays.j1 kj4 l0 a1 t400 t403 true)))) else (jobshelllaw34_TrapStays.j1 kj4 l0 a1 t400 t403 true))) else (jobshelllaw34_TrapStays.j1 kj4 l0 a1 t400 t403 true))) = some r := H
        have A13 := Aside0.mk A130
        clear A130
        have HC14 := Aside0.mk H
        clear H
        go_upto_region 4 with (first | ((with_reducible refine gate_callee (f := 21) rfl ?_); refine goesL_ (some 28) rfl rfl Tryd.func21 (by kernel_rfl) rfl #[.slice A0 l0.length c0, .int .i64 a1, .string a2] rfl (by (try simp only [List.map_toArray, List.map_cons, List.map_nil]); first | done | rfl | (simp only [List.length_drop, List.length_take]; rfl)) ?_; (with_reducible refine (trap_Set.calls kj4 (fun k_ => k_ < w.heap.size) _ _ l0 a1 a2 t400 _ ?side1 A12.out).mono ?_); (case side1 => exact Kd.V_mk HC0.out (Kd.F_below (Kd.C_F k30_heap HR0.out) (by repeat (first | (with_reducible first | exact HB.out | apply below_alloc | apply pw_below_drewN | apply below_drew1) | exact HB.out)))); rintro e w15 ⟨v401, rfl, ho0, hb⟩; refine ⟨_, rfl, ?_⟩; have n0_ := Aside0.mk (Kd.V_lower (Kd.V_mono (ok' := fun k_ => True) ho0 (fun k_ hk_ => trivial)) (below_size (by repeat (first | (with_reducible first | exact HB.out | apply below_alloc | apply pw_below_drewN | apply below_drew1) | exact HB.out)))); have n1_ := Aside0.mk (below_step (by repeat (first | (with_reducible first | exact HB.out | apply below_alloc | apply pw_below_drewN | apply below_drew1) | exact HB.out)) hb); clear HB; have HO402 := n0_; have HB := n1_; clear n0_ n1_; (try clear hb); (try clear hb2); (try clear hk); (try clear hi); (try clear ho0)) | ((with_reducible refine gate_callee (f := 23) rfl ?_); refine goesL_ (some 31) rfl rfl Tryd.func23 (by kernel_rfl) rfl #[.slice A0 l0.length c0, .int .i64 a1] rfl (by (try simp only [List.map_toArray, List.map_cons, List.map_nil]); first | done | rfl | (simp only [List.length_drop, List.length_take]; rfl)) ?_; (with_reducible refine (trap_Reset.calls kj4 _ _ l0 a1 t403 _ ?side1 ?side2 A13.out).mono ?_); (case side1 => repeat (first | exact (Kd.C_below HR0.out HB.out) | (with_reducible refine Kd.C_alloc ?_ _) | (with_reducible refine Kd.C_drewN ?_ _) | (with_reducible refine Kd.C_drew ?_))); (case side2 => exact HC0.out); rintro e w16 ⟨v404, rfl, ho0, hb⟩; refine ⟨_, rfl, ?_⟩; have n0_ := Aside0.mk (Kd.V_elder' (by (with_reducible repeat (first | apply Kd.V_alloc | apply Kd.V_drewN | apply Kd.V_drew)); exact HO402.out) (Kd.R_base ho0) hb); have n1_ := Aside0.mk (Kd.R_lower ho0 (below_size (by repeat (first | (with_reducible first | exact HB.out | apply below_alloc | apply pw_below_drewN | apply below_drew1) | exact HB.out)))); have n2_ := Aside0.mk (below_step (by repeat (first | (with_reducible first | exact HB.out | apply below_alloc | apply pw_below_drewN | apply below_drew1) | exact HB.out)) hb); clear HO402; clear HB; have HO402 := n0_; have HO405 := n1_; have HB := n2_; clear n0_ n1_ n2_; (try clear hb); (try clear hb2); (try clear hk); (try clear hi); (try clear ho0)))
        (try simp only [Act.put, List.setIfInBounds_toArray, List.set_cons_zero, List.set_cons_succ])
        go_cut [57] (fun v57 wc => ∃ (kq : Nat) (x57_13 : Bool), v57 = .bool x57_13 ∧ Aside0 (jobshelllaw34_TrapStays.j1 kq l0 a1 t400 t403 x57_13 = some r) ∧ Aside0 (kq ≤ kj4) ∧ Aside0 (Kd.V k30 30 wc w.heap.size (fun k_ => some k_ ≠ (v404 : Value).ownBlock) v401 t400) ∧ Aside0 (Kd.R k30 30 wc w.heap.size (fun _ => True) v404 t403) ∧ Aside0 (Below w.heap.size w wc))
        case first =>
          have H := HC14.out
          clear HC14
          replace H := Option.bind_eq_some_iff.mp H
          obtain ⟨t406, A170, H⟩ := H
          replace H : (if t406 = true then ((jobshellref34_Right.f kj4 t403).bind fun t407 => (if t407 = true then ((trap_Sub.f kj4 l0).bind fun t408 => ((jobshellref34_Right.f kj4 t408).bind fun t411 => (if t411 = true then ((trap_Set.f kj4 t400 a1 a3).bind fun t412 => ((trap_Set.f kj4 l0 a1 a3).bind fun t415 => ((jobshellref34_Same.f kj4 t412 t415).bind fun t418 => (jobshelllaw34_TrapStays.j1 kj4 l0 a1 t400 t403 (!t418))))) else (jobshelllaw34_TrapStays.j1 kj4 l0 a1 t400 t403 true)))) else (jobshelllaw34_TrapStays.j1 kj4 l0 a1 t400 t403 true))) else (jobshelllaw34_TrapStays.j1 kj4 l0 a1 t400 t403 true)) = some r := H
          have A17 := Aside0.mk A170
          clear A170
          by_cases c18 : t406 = true
          · subst c18
            have H1 : ((jobshellref34_Right.f kj4 t403).bind fun t407 => (if t407 = true then ((trap_Sub.f kj4 l0).bind fun t408 => ((jobshellref34_Right.f kj4 t408).bind fun t411 => (if t411 = true then ((trap_Set.f kj4 t400 a1 a3).bind fun t412 => ((trap_Set.f kj4 l0 a1 a3).bind fun t415 => ((jobshellref34_Same.f kj4 t412 t415).bind fun t418 => (jobshelllaw34_TrapStays.j1 kj4 l0 a1 t400 t403 (!t418))))) else (jobshelllaw34_TrapStays.j1 kj4 l0 a1 t400 t403 true)))) else (jobshelllaw34_TrapStays.j1 kj4 l0 a1 t400 t403 true))) = some r := by rw [if_pos rfl] at H; exact H
            clear H
            have H := H1
            clear H1
            replace H := Option.bind_eq_some_iff.mp H
            obtain ⟨t407, A190, H⟩ := H
            replace H : (if t407 = true then ((trap_Sub.f kj4 l0).bind fun t408 => ((jobshellref34_Right.f kj4 t408).bind fun t411 => (if t411 = true then ((trap_Set.f kj4 t400 a1 a3).bind fun t412 => ((trap_Set.f kj4 l0 a1 a3).bind fun t415 => ((jobshellref34_Same.f kj4 t412 t415).bind fun t418 => (jobshelllaw34_TrapStays.j1 kj4 l0 a1 t400 t403 (!t418))))) else (jobshelllaw34_TrapStays.j1 kj4 l0 a1 t400 t403 true)))) else (jobshelllaw34_TrapStays.j1 kj4 l0 a1 t400 t403 true)) = some r := H
            have A19 := Aside0.mk A190
            clear A190
            by_cases c20 : t407 = true
            · subst c20
              have H1 : ((trap_Sub.f kj4 l0).bind fun t408 => ((jobshellref34_Right.f kj4 t408).bind fun t411 => (if t411 = true then ((trap_Set.f kj4 t400 a1 a3).bind fun t412 => ((trap_Set.f kj4 l0 a1 a3).bind fun t415 => ((jobshellref34_Same.f kj4 t412 t415).bind fun t418 => (jobshelllaw34_TrapStays.j1 kj4 l0 a1 t400 t403 (!t418))))) else (jobshelllaw34_TrapStays.j1 kj4 l0 a1 t400 t403 true)))) = some r := by rw [if_pos rfl] at H; exact H
              clear H
              have H := H1
              clear H1
              replace H := Option.bind_eq_some_iff.mp H
              obtain ⟨t408, A210, H⟩ := H
              replace H : ((jobshellref34_Right.f kj4 t408).bind fun t411 => (if t411 = true then ((trap_Set.f kj4 t400 a1 a3).bind fun t412 => ((trap_Set.f kj4 l0 a1 a3).bind fun t415 => ((jobshellref34_Same.f kj4 t412 t415).bind fun t418 => (jobshelllaw34_TrapStays.j1 kj4 l0 a1 t400 t403 (!t418))))) else (jobshelllaw34_TrapStays.j1 kj4 l0 a1 t400 t403 true))) = some r := H
              have A21 := Aside0.mk A210
              clear A210
              replace H := Option.bind_eq_some_iff.mp H
              obtain ⟨t411, A220, H⟩ := H
              replace H : (if t411 = true then ((trap_Set.f kj4 t400 a1 a3).bind fun t412 => ((trap_Set.f kj4 l0 a1 a3).bind fun t415 => ((jobshellref34_Same.f kj4 t412 t415).bind fun t418 => (jobshelllaw34_TrapStays.j1 kj4 l0 a1 t400 t403 (!t418))))) else (jobshelllaw34_TrapStays.j1 kj4 l0 a1 t400 t403 true)) = some r := H
              have A22 := Aside0.mk A220
              clear A220
              by_cases c23 : t411 = true
              · subst c23
                have H1 : ((trap_Set.f kj4 t400 a1 a3).bind fun t412 => ((trap_Set.f kj4 l0 a1 a3).bind fun t415 => ((jobshellref34_Same.f kj4 t412 t415).bind fun t418 => (jobshelllaw34_TrapStays.j1 kj4 l0 a1 t400 t403 (!t418))))) = some r := by rw [if_pos rfl] at H; exact H
                clear H
                have H := H1
                clear H1
                replace H := Option.bind_eq_some_iff.mp H
                obtain ⟨t412, A240, H⟩ := H
                replace H : ((trap_Set.f kj4 l0 a1 a3).bind fun t415 => ((jobshellref34_Same.f kj4 t412 t415).bind fun t418 => (jobshelllaw34_TrapStays.j1 kj4 l0 a1 t400 t403 (!t418)))) = some r := H
                have A24 := Aside0.mk A240
                clear A240
                replace H := Option.bind_eq_some_iff.mp H
                obtain ⟨t415, A250, H⟩ := H
                replace H : ((jobshellref34_Same.f kj4 t412 t415).bind fun t418 => (jobshelllaw34_TrapStays.j1 kj4 l0 a1 t400 t403 (!t418))) = some r := H
                have A25 := Aside0.mk A250
                clear A250
                replace H := Option.bind_eq_some_iff.mp H
                obtain ⟨t418, A260, H⟩ := H
                replace H : (jobshelllaw34_TrapStays.j1 kj4 l0 a1 t400 t403 (!t418)) = some r := H
                have A26 := Aside0.mk A260
                clear A260
                have H' := Aside0.mk H
                clear H
                obtain ⟨Ao27, co27, eo27⟩ := Kd.V_slice HO402.out
                subst eo27
                go_wp2_with (first | ((with_reducible refine gate_callee (f := 30) rfl ?_); refine goesL_ (some 33) rfl rfl Tryd.func30 (by kernel_rfl) rfl #[.slice Ao27 t400.length co27] rfl (by (try simp only [List.map_toArray, List.map_cons, List.map_nil]); first | done | rfl | (simp only [List.length_drop, List.length_take]; rfl)) ?_; (with_reducible refine (jobshellref34_Right.calls kj4 _ _ t400 true _ ?side1 ?side2 A17.out).mono ?_); (case side1 => repeat (first | exact (Kd.V_reads' HO402.out).2.2 | (with_reducible refine Kd.C_alloc ?_ _) | (with_reducible refine Kd.C_drewN ?_ _) | (with_reducible refine Kd.C_drew ?_))); (case side2 => exact (Kd.V_reads' HO402.out).2.1); rintro e w' ⟨rfl, ⟨nd, rfl⟩⟩; refine ⟨_, rfl, ?_⟩; obtain ⟨Ao28, co28, eo28⟩ := Kd.R_slice HO405.out; subst eo28) | (go_at_call 30; (with_reducible refine (jobshellref34_Right.calls kj4 _ _ t403 true _ ?side1 ?side2 A19.out).mono ?_); (case side1 => repeat (first | exact (Kd.R_reads' HO405.out).2.2 | (with_reducible refine Kd.C_alloc ?_ _) | (with_reducible refine Kd.C_drewN ?_ _) | (with_reducible refine Kd.C_drew ?_))); (case side2 => exact (Kd.R_reads' HO405.out).2.1); rintro e w' ⟨rfl, ⟨nd, rfl⟩⟩) | (go_at_call 28; (with_reducible refine (trap_Sub.calls kj4 _ _ l0 t408 _ ?side1 ?side2 A21.out).mono ?_); (case side1 => repeat (first | exact (Kd.C_below HR0.out (by repeat (first | (with_reducible first | exact HB.out | apply below_alloc | apply pw_below_drewN | apply below_drew1) | exact HB.out))) | (with_reducible refine Kd.C_alloc ?_ _) | (with_reducible refine Kd.C_drewN ?_ _) | (with_reducible refine Kd.C_drew ?_))); (case side2 => exact HC0.out); rintro e w29 ⟨v409, rfl, ho0, hb⟩; have n0_ := Aside0.mk (Kd.V_elder' (by (with_reducible repeat (first | apply Kd.V_alloc | apply Kd.V_drewN | apply Kd.V_drew)); exact HO402.out) (Kd.R_base ho0) hb); have n1_ := Aside0.mk (Kd.R_elder' (by (with_reducible repeat (first | apply Kd.R_alloc | apply Kd.R_drewN | apply Kd.R_drew)); exact HO405.out) (Kd.R_base ho0) hb); have n2_ := Aside0.mk (Kd.R_lower (Kd.R_new' ho0 (Kd.R_lt (by (with_reducible repeat (first | apply Kd.R_alloc | apply Kd.R_drewN | apply Kd.R_drew)); exact HO405.out))) (below_size (by repeat (first | (with_reducible first | exact HB.out | apply below_alloc | apply pw_below_drewN | apply below_drew1) | exact HB.out)))); have n3_ := Aside0.mk (below_step (by repeat (first | (with_reducible first | exact HB.out | apply below_alloc | apply pw_below_drewN | apply below_drew1) | exact HB.out)) hb); clear HO402; clear HO405; clear HB; have HO402 := n0_; have HO405 := n1_; have HO410 := n2_; have HB := n3_; clear n0_ n1_ n2_ n3_; (try clear hb); (try clear hb2); (try clear hk); (try clear hi); (try clear ho0); obtain ⟨Ao30, co30, eo30⟩ := Kd.R_slice HO410.out; subst eo30) | (go_at_call 30; (with_reducible refine (jobshellref34_Right.calls kj4 _ _ t408 true _ ?side1 ?side2 A22.out).mono ?_); (case side1 => repeat (first | exact (Kd.R_reads' HO410.out).2.2 | (with_reducible refine Kd.C_alloc ?_ _) | (with_reducible refine Kd.C_drewN ?_ _) | (with_reducible refine Kd.C_drew ?_))); (case side2 => exact (Kd.R_reads' HO410.out).2.1); rintro e w' ⟨rfl, ⟨nd, rfl⟩⟩) | (go_at_call 21; (with_reducible refine (trap_Set.calls kj4 (fun k_ => ((True ∧ some k_ ≠ (.slice Ao28 t403.length co28 : Value).ownBlock) ∧ some k_ ≠ (.slice Ao30 t408.length co30 : Value).ownBlock)) _ _ t400 a1 a3 t412 _ ?side1 A24.out).mono ?_); (case side1 => exact HO402.out); rintro e w31 ⟨v413, rfl, ho0, hb⟩; have n0_ := Aside0.mk (Kd.V_below (by (with_reducible repeat (first | apply Kd.V_alloc | apply Kd.V_drewN | apply Kd.V_drew)); exact HO402.out) hb); have n1_ := Aside0.mk (Kd.R_below (by (with_reducible repeat (first | apply Kd.R_alloc | apply Kd.R_drewN | apply Kd.R_drew)); exact HO405.out) hb); have n2_ := Aside0.mk (Kd.R_below (by (with_reducible repeat (first | apply Kd.R_alloc | apply Kd.R_drewN | apply Kd.R_drew)); exact HO410.out) hb); have n3_ := Aside0.mk (Kd.V_lower (Kd.V_mono (ok' := fun k_ => some k_ ≠ (.slice Ao28 t403.length co28 : Value).ownBlock ∧ some k_ ≠ (.slice Ao30 t408.length co30 : Value).ownBlock) ho0 (fun k_ hk_ => ⟨Or.elim hk_ (fun hs_ => hs_.1.2) (fun hn_ => (Kd.fresh' (Kd.R_lt (by (with_reducible repeat (first | apply Kd.R_alloc | apply Kd.R_drewN | apply Kd.R_drew)); exact HO405.out)) k_ hn_)), Or.elim hk_ (fun hs_ => hs_.2) (fun hn_ => (Kd.fresh' (Kd.R_lt (by (with_reducible repeat (first | apply Kd.R_alloc | apply Kd.R_drewN | apply Kd.R_drew)); exact HO410.out)) k_ hn_))⟩)) (below_size (by repeat (first | (with_reducible first | exact HB.out | apply below_alloc | apply pw_below_drewN | apply below_drew1) | exact HB.out)))); have n4_ := Aside0.mk (below_step (by repeat (first | (with_reducible first | exact HB.out | apply below_alloc | apply pw_below_drewN | apply below_drew1) | exact HB.out)) hb); clear HO402; clear HO405; clear HO410; clear HB; have HO402 := n0_; have HO405 := n1_; have HO410 := n2_; have HO414 := n3_; have HB := n4_; clear n0_ n1_ n2_ n3_ n4_; (try clear hb); (try clear hb2); (try clear hk); (try clear hi); (try clear ho0)) | (go_at_call 21; (with_reducible refine (trap_Set.calls kj4 (fun k_ => k_ < w.heap.size) _ _ l0 a1 a3 t415 _ ?side1 A25.out).mono ?_); (case side1 => exact Kd.V_mk HC0.out (Kd.F_below (Kd.C_F k30_heap HR0.out) (by repeat (first | (with_reducible first | exact HB.out | apply below_alloc | apply pw_below_drewN | apply below_drew1) | exact HB.out)))); rintro e w32 ⟨v416, rfl, ho0, hb⟩; have n0_ := Aside0.mk (Kd.V_below (by (with_reducible repeat (first | apply Kd.V_alloc | apply Kd.V_drewN | apply Kd.V_drew)); exact HO402.out) hb); have n1_ := Aside0.mk (Kd.R_below (by (with_reducible repeat (first | apply Kd.R_alloc | apply Kd.R_drewN | apply Kd.R_drew)); exact HO405.out) hb); have n2_ := Aside0.mk (Kd.R_below (by (with_reducible repeat (first | apply Kd.R_alloc | apply Kd.R_drewN | apply Kd.R_drew)); exact HO410.out) hb); have n3_ := Aside0.mk (Kd.V_below (by (with_reducible repeat (first | apply Kd.V_alloc | apply Kd.V_drewN | apply Kd.V_drew)); exact HO414.out) hb); have n4_ := Aside0.mk (Kd.V_lower (Kd.V_mono (ok' := fun k_ => some k_ ≠ (.slice Ao28 t403.length co28 : Value).ownBlock ∧ some k_ ≠ (.slice Ao30 t408.length co30 : Value).ownBlock) ho0 (fun k_ hk_ => ⟨Or.elim hk_ (fun hs_ => fun e_ => Nat.not_le.2 hs_ (Kd.R_base HO405.out k_ e_.symm)) (fun hn_ => (Kd.fresh' (Kd.R_lt (by (with_reducible repeat (first | apply Kd.R_alloc | apply Kd.R_drewN | apply Kd.R_drew)); exact HO405.out)) k_ hn_)), Or.elim hk_ (fun hs_ => fun e_ => Nat.not_le.2 hs_ (Kd.R_base HO410.out k_ e_.symm)) (fun hn_ => (Kd.fresh' (Kd.R_lt (by (with_reducible repeat (first | apply Kd.R_alloc | apply Kd.R_drewN | apply Kd.R_drew)); exact HO410.out)) k_ hn_))⟩)) (below_size (by repeat (first | (with_reducible first | exact HB.out | apply below_alloc | apply pw_below_drewN | apply below_drew1) | exact HB.out)))); have n5_ := Aside0.mk (below_step (by repeat (first | (with_reducible first | exact HB.out | apply below_alloc | apply pw_below_drewN | apply below_drew1) | exact HB.out)) hb); clear HO402; clear HO405; clear HO410; clear HO414; clear HB; have HO402 := n0_; have HO405 := n1_; have HO410 := n2_; have HO414 := n3_; have HO417 := n4_; have HB := n5_; clear n0_ n1_ n2_ n3_ n4_ n5_; (try clear hb); (try clear hb2); (try clear hk); (try clear hi); (try clear ho0); obtain ⟨Ao33, co33, eo33⟩ := Kd.V_slice HO414.out; subst eo33; obtain ⟨Ao34, co34, eo34⟩ := Kd.V_slice HO417.out; subst eo34) | (go_at_call 20; (with_reducible refine (jobshellref34_Same.calls kj4 _ _ t412 _ _ t415 t418 _ ?side1 ?side2 ?side3 ?side4 A26.out).mono ?_); (case side1 => repeat (first | exact (Kd.V_reads' HO414.out).2.2 | (with_reducible refine Kd.C_alloc ?_ _) | (with_reducible refine Kd.C_drewN ?_ _) | (with_reducible refine Kd.C_drew ?_))); (case side2 => exact (Kd.V_reads' HO414.out).2.1); (case side3 => repeat (first | exact (Kd.V_reads' HO417.out).2.2 | (with_reducible refine Kd.C_alloc ?_ _) | (with_reducible refine Kd.C_drewN ?_ _) | (with_reducible refine Kd.C_drew ?_))); (case side4 => exact (Kd.V_reads' HO417.out).2.1); rintro e w' ⟨rfl, ⟨nd, rfl⟩⟩))
                go_meet
                case rel => exact ⟨_, (!t418), (by first | rfl | (simp; done) | (simp [*]; done) | exact congrArg (fun b => Ending.returned (Value.bool b)) (Ch.bne_nil _)), H', ⟨by have := HJ4.out; first | omega | exact Nat.le_refl _⟩, ⟨by (with_reducible repeat (first | apply Kd.V_alloc | apply Kd.V_drewN | apply Kd.V_drew)); exact Kd.V_mono HO402.out (fun _ hk => hk.1.2)⟩, ⟨by (with_reducible repeat (first | apply Kd.R_alloc | apply Kd.R_drewN | apply Kd.R_drew)); exact Kd.R_mono HO405.out (fun _ hk => trivial)⟩, ⟨by repeat (first | (with_reducible first | exact HB.out | apply below_alloc | apply pw_below_drewN | apply below_drew1) | exact HB.out)⟩⟩
              · replace c23 := Bool.eq_false_iff.mpr c23
                subst c23
                have H1 : (jobshelllaw34_TrapStays.j1 kj4 l0 a1 t400 t403 true) = some r := by rw [if_neg (show ¬ (false = true) by decide)] at H; exact H
                clear H
                have H := H1
                clear H1
                have H' := Aside0.mk H
                clear H
                obtain ⟨Ao35, co35, eo35⟩ := Kd.V_slice HO402.out
                subst eo35
                go_wp2_with (first | ((with_reducible refine gate_callee (f := 30) rfl ?_); refine goesL_ (some 33) rfl rfl Tryd.func30 (by kernel_rfl) rfl #[.slice Ao35 t400.length co35] rfl (by (try simp only [List.map_toArray, List.map_cons, List.map_nil]); first | done | rfl | (simp only [List.length_drop, List.length_take]; rfl)) ?_; (with_reducible refine (jobshellref34_Right.calls kj4 _ _ t400 true _ ?side1 ?side2 A17.out).mono ?_); (case side1 => repeat (first | exact (Kd.V_reads' HO402.out).2.2 | (with_reducible refine Kd.C_alloc ?_ _) | (with_reducible refine Kd.C_drewN ?_ _) | (with_reducible refine Kd.C_drew ?_))); (case side2 => exact (Kd.V_reads' HO402.out).2.1); rintro e w' ⟨rfl, ⟨nd, rfl⟩⟩; refine ⟨_, rfl, ?_⟩; obtain ⟨Ao36, co36, eo36⟩ := Kd.R_slice HO405.out; subst eo36) | (go_at_call 30; (with_reducible refine (jobshellref34_Right.calls kj4 _ _ t403 true _ ?side1 ?side2 A19.out).mono ?_); (case side1 => repeat (first | exact (Kd.R_reads' HO405.out).2.2 | (with_reducible refine Kd.C_alloc ?_ _) | (with_reducible refine Kd.C_drewN ?_ _) | (with_reducible refine Kd.C_drew ?_))); (case side2 => exact (Kd.R_reads' HO405.out).2.1); rintro e w' ⟨rfl, ⟨nd, rfl⟩⟩) | (go_at_call 28; (with_reducible refine (trap_Sub.calls kj4 _ _ l0 t408 _ ?side1 ?side2 A21.out).mono ?_); (case side1 => repeat (first | exact (Kd.C_below HR0.out (by repeat (first | (with_reducible first | exact HB.out | apply below_alloc | apply pw_below_drewN | apply below_drew1) | exact HB.out))) | (with_reducible refine Kd.C_alloc ?_ _) | (with_reducible refine Kd.C_drewN ?_ _) | (with_reducible refine Kd.C_drew ?_))); (case side2 => exact HC0.out); rintro e w37 ⟨v409, rfl, ho0, hb⟩; have n0_ := Aside0.mk (Kd.V_elder' (by (with_reducible repeat (first | apply Kd.V_alloc | apply Kd.V_drewN | apply Kd.V_drew)); exact HO402.out) (Kd.R_base ho0) hb); have n1_ := Aside0.mk (Kd.R_elder' (by (with_reducible repeat (first | apply Kd.R_alloc | apply Kd.R_drewN | apply Kd.R_drew)); exact HO405.out) (Kd.R_base ho0) hb); have n2_ := Aside0.mk (Kd.R_lower (Kd.R_new' ho0 (Kd.R_lt (by (with_reducible repeat (first | apply Kd.R_alloc | apply Kd.R_drewN | apply Kd.R_drew)); exact HO405.out))) (below_size (by repeat (first | (with_reducible first | exact HB.out | apply below_alloc | apply pw_below_drewN | apply below_drew1) | exact HB.out)))); have n3_ := Aside0.mk (below_step (by repeat (first | (with_reducible first | exact HB.out | apply below_alloc | apply pw_below_drewN | apply below_drew1) | exact HB.out)) hb); clear HO402; clear HO405; clear HB; have HO402 := n0_; have HO405 := n1_; have HO410 := n2_; have HB := n3_; clear n0_ n1_ n2_ n3_; (try clear hb); (try clear hb2); (try clear hk); (try clear hi); (try clear ho0); obtain ⟨Ao38, co38, eo38⟩ := Kd.R_slice HO410.out; subst eo38) | (go_at_call 30; (with_reducible refine (jobshellref34_Right.calls kj4 _ _ t408 false _ ?side1 ?side2 A22.out).mono ?_); (case side1 => repeat (first | exact (Kd.R_reads' HO410.out).2.2 | (with_reducible refine Kd.C_alloc ?_ _) | (with_reducible refine Kd.C_drewN ?_ _) | (with_reducible refine Kd.C_drew ?_))); (case side2 => exact (Kd.R_reads' HO410.out).2.1); rintro e w' ⟨rfl, ⟨nd, rfl⟩⟩))
                go_meet
                case rel => exact ⟨_, (true), (by first | rfl | (simp; done) | (simp [*]; done) | exact congrArg (fun b => Ending.returned (Value.bool b)) (Ch.bne_nil _)), H', ⟨by have := HJ4.out; first | omega | exact Nat.le_refl _⟩, ⟨by (with_reducible repeat (first | apply Kd.V_alloc | apply Kd.V_drewN | apply Kd.V_drew)); exact Kd.V_mono HO402.out (fun _ hk => hk.1.2)⟩, ⟨by (with_reducible repeat (first | apply Kd.R_alloc | apply Kd.R_drewN | apply Kd.R_drew)); exact Kd.R_mono HO405.out (fun _ hk => trivial)⟩, ⟨by repeat (first | (with_reducible first | exact HB.out | apply below_alloc | apply pw_below_drewN | apply below_drew1) | exact HB.out)⟩⟩
            · replace c20 := Bool.eq_false_iff.mpr c20
              subst c20
              have H1 : (jobshelllaw34_TrapStays.j1 kj4 l0 a1 t400 t403 true) = some r := by rw [if_neg (show ¬ (false = true) by decide)] at H; exact H
              clear H
              have H := H1
              clear H1
              have H' := Aside0.mk H
              clear H
              obtain ⟨Ao39, co39, eo39⟩ := Kd.V_slice HO402.out
              subst eo39
              go_wp2_with (first | ((with_reducible refine gate_callee (f := 30) rfl ?_); refine goesL_ (some 33) rfl rfl Tryd.func30 (by kernel_rfl) rfl #[.slice Ao39 t400.length co39] rfl (by (try simp only [List.map_toArray, List.map_cons, List.map_nil]); first | done | rfl | (simp only [List.length_drop, List.length_take]; rfl)) ?_; (with_reducible refine (jobshellref34_Right.calls kj4 _ _ t400 true _ ?side1 ?side2 A17.out).mono ?_); (case side1 => repeat (first | exact (Kd.V_reads' HO402.out).2.2 | (with_reducible refine Kd.C_alloc ?_ _) | (with_reducible refine Kd.C_drewN ?_ _) | (with_reducible refine Kd.C_drew ?_))); (case side2 => exact (Kd.V_reads' HO402.out).2.1); rintro e w' ⟨rfl, ⟨nd, rfl⟩⟩; refine ⟨_, rfl, ?_⟩; obtain ⟨Ao40, co40, eo40⟩ := Kd.R_slice HO405.out; subst eo40) | (go_at_call 30; (with_reducible refine (jobshellref34_Right.calls kj4 _ _ t403 false _ ?side1 ?side2 A19.out).mono ?_); (case side1 => repeat (first | exact (Kd.R_reads' HO405.out).2.2 | (with_reducible refine Kd.C_alloc ?_ _) | (with_reducible refine Kd.C_drewN ?_ _) | (with_reducible refine Kd.C_drew ?_))); (case side2 => exact (Kd.R_reads' HO405.out).2.1); rintro e w' ⟨rfl, ⟨nd, rfl⟩⟩))
              go_meet
              case rel => exact ⟨_, (true), (by first | rfl | (simp; done) | (simp [*]; done) | exact congrArg (fun b => Ending.returned (Value.bool b)) (Ch.bne_nil _)), H', ⟨by have := HJ4.out; first | omega | exact Nat.le_refl _⟩, ⟨by (with_reducible repeat (first | apply Kd.V_alloc | apply Kd.V_drewN | apply Kd.V_drew)); exact Kd.V_mono HO402.out (fun _ hk => hk.2)⟩, ⟨by (with_reducible repeat (first | apply Kd.R_alloc | apply Kd.R_drewN | apply Kd.R_drew)); exact HO405.out⟩, ⟨by repeat (first | (with_reducible first | exact HB.out | apply below_alloc | apply pw_below_drewN | apply below_drew1) | exact HB.out)⟩⟩
          · replace c18 := Bool.eq_false_iff.mpr c18
            subst c18
            have H1 : (jobshelllaw34_TrapStays.j1 kj4 l0 a1 t400 t403 true) = some r := by rw [if_neg (show ¬ (false = true) by decide)] at H; exact H
            clear H
            have H := H1
            clear H1
            have H' := Aside0.mk H
            clear H
            obtain ⟨Ao41, co41, eo41⟩ := Kd.V_slice HO402.out
            subst eo41
            go_wp2_with (first | ((with_reducible refine gate_callee (f := 30) rfl ?_); refine goesL_ (some 33) rfl rfl Tryd.func30 (by kernel_rfl) rfl #[.slice Ao41 t400.length co41] rfl (by (try simp only [List.map_toArray, List.map_cons, List.map_nil]); first | done | rfl | (simp only [List.length_drop, List.length_take]; rfl)) ?_; (with_reducible refine (jobshellref34_Right.calls kj4 _ _ t400 false _ ?side1 ?side2 A17.out).mono ?_); (case side1 => repeat (first | exact (Kd.V_reads' HO402.out).2.2 | (with_reducible refine Kd.C_alloc ?_ _) | (with_reducible refine Kd.C_drewN ?_ _) | (with_reducible refine Kd.C_drew ?_))); (case side2 => exact (Kd.V_reads' HO402.out).2.1); rintro e w' ⟨rfl, ⟨nd, rfl⟩⟩; refine ⟨_, rfl, ?_⟩))
            go_meet
            case rel => exact ⟨_, (true), (by first | rfl | (simp; done) | (simp [*]; done) | exact congrArg (fun b => Ending.returned (Value.bool b)) (Ch.bne_nil _)), H', ⟨by have := HJ4.out; first | omega | exact Nat.le_refl _⟩, ⟨by (with_reducible repeat (first | apply Kd.V_alloc | apply Kd.V_drewN | apply Kd.V_drew)); exact Kd.V_mono HO402.out (fun _ hk => hk.2)⟩, ⟨by (with_reducible repeat (first | apply Kd.R_alloc | apply Kd.R_drewN | apply Kd.R_drew)); exact HO405.out⟩, ⟨by repeat (first | (with_reducible first | exact HB.out | apply below_alloc | apply pw_below_drewN | apply below_drew1) | exact HB.out)⟩⟩
        case rest =>
          clear HC14
          try clear c1
          try clear c2
          try clear p2
          try clear c3
          try clear c7
          try clear c8
          try clear c8b0
          try clear c8b1
          try clear c9
          try clear c10
          try clear c13
          try clear c18
          try clear c20
          try clear c21
          try clear c23
          try clear c30
          try clear p2
          obtain ⟨kq, x57_13, rfl, HA, HJ13, HO_9, HO_10, HB⟩ := hcut
          cases kq with
          | zero => exact absurd HA.out (by simp [jobshelllaw34_TrapStays.j1])
          | succ kj13 =>
            have H := HA.out
            clear HA
            simp only [jobshelllaw34_TrapStays.j1] at H
            by_cases c42 : x57_13 = true
            · subst c42
              have H1 : (some false) = some r := by rw [if_pos rfl] at H; exact H
              clear H
              have H := H1
              clear H1
              exact absurd ((Option.some.inj H).trans HT.out) (by decide)
            · replace c42 := Bool.eq_false_iff.mpr c42
              subst c42
              have H1 : ((trap_Reset.f kj13 t400 a1).bind fun t419 => ((jobshellref34_Same.f kj13 t419 t403).bind fun t422 => (if t422 = true then (if (t403.length : Int) = (l0.length : Int) then ((jobshellref34_Same.f kj13 t403 l0).bind fun t423 => (if t423 = true then (if (t403.length : Int) ≤ (l0.length : Int) then ((jobshelllaw34_awake.f kj13).bind fun t424 => (some t424)) else (some false)) else (some false))) else (if (t403.length : Int) ≤ (l0.length : Int) then ((jobshelllaw34_awake.f kj13).bind fun t425 => (some t425)) else (some false))) else (some false)))) = some r := by rw [if_neg (show ¬ (false = true) by decide)] at H; exact H
              clear H
              have H := H1
              clear H1
              replace H := Option.bind_eq_some_iff.mp H
              obtain ⟨t419, A430, H⟩ := H
              replace H : ((jobshellref34_Same.f kj13 t419 t403).bind fun t422 => (if t422 = true then (if (t403.length : Int) = (l0.length : Int) then ((jobshellref34_Same.f kj13 t403 l0).bind fun t423 => (if t423 = true then (if (t403.length : Int) ≤ (l0.length : Int) then ((jobshelllaw34_awake.f kj13).bind fun t424 => (some t424)) else (some false)) else (some false))) else (if (t403.length : Int) ≤ (l0.length : Int) then ((jobshelllaw34_awake.f kj13).bind fun t425 => (some t425)) else (some false))) else (some false))) = some r := H
              have A43 := Aside0.mk A430
              clear A430
              replace H := Option.bind_eq_some_iff.mp H
              obtain ⟨t422, A440, H⟩ := H
              replace H : (if t422 = true then (if (t403.length : Int) = (l0.length : Int) then ((jobshellref34_Same.f kj13 t403 l0).bind fun t423 => (if t423 = true then (if (t403.length : Int) ≤ (l0.length : Int) then ((jobshelllaw34_awake.f kj13).bind fun t424 => (some t424)) else (some false)) else (some false))) else (if (t403.length : Int) ≤ (l0.length : Int) then ((jobshelllaw34_awake.f kj13).bind fun t425 => (some t425)) else (some false))) else (some false)) = some r := H
              have A44 := Aside0.mk A440
              clear A440
              by_cases c45 : t422 = true
              · subst c45
                have H1 : (if (t403.length : Int) = (l0.length : Int) then ((jobshellref34_Same.f kj13 t403 l0).bind fun t423 => (if t423 = true then (if (t403.length : Int) ≤ (l0.length : Int) then ((jobshelllaw34_awake.f kj13).bind fun t424 => (some t424)) else (some false)) else (some false))) else (if (t403.length : Int) ≤ (l0.length : Int) then ((jobshelllaw34_awake.f kj13).bind fun t425 => (some t425)) else (some false))) = some r := by rw [if_pos rfl] at H; exact H
                clear H
                have H := H1
                clear H1
                by_cases c46 : (t403.length : Int) = (l0.length : Int)
                · rw [if_pos c46] at H
                  have c46b0 : ((t403.length : Int) == (l0.length : Int)) = true := beq_iff_eq.mpr c46
                  have c46b1 : ((t403.length : Int) != (l0.length : Int)) = false := bne_eq_false_iff_eq.mpr c46
                  have c46b2 : (t403.length == l0.length) = true := by first | simpa using c46 | (simp at c46 ⊢; omega)
                  clear c46
                  replace H := Option.bind_eq_some_iff.mp H
                  obtain ⟨t423, A470, H⟩ := H
                  replace H : (if t423 = true then (if (t403.length : Int) ≤ (l0.length : Int) then ((jobshelllaw34_awake.f kj13).bind fun t424 => (some t424)) else (some false)) else (some false)) = some r := H
                  have A47 := Aside0.mk A470
                  clear A470
                  by_cases c48 : t423 = true
                  · subst c48
                    have H1 : (if (t403.length : Int) ≤ (l0.length : Int) then ((jobshelllaw34_awake.f kj13).bind fun t424 => (some t424)) else (some false)) = some r := by rw [if_pos rfl] at H; exact H
                    clear H
                    have H := H1
                    clear H1
                    by_cases c49 : (t403.length : Int) ≤ (l0.length : Int)
                    · rw [if_pos c49] at H
                      have c49b0 : decide ((t403.length : Int) ≤ (l0.length : Int)) = true := decide_eq_true c49
                      have c49b1 : decide (t403.length ≤ l0.length) = true := decide_eq_true (Int.ofNat_le.mp c49)
                      clear c49
                      replace H := Option.bind_eq_some_iff.mp H
                      obtain ⟨t424, A500, H⟩ := H
                      replace H : (some t424) = some r := H
                      have A50 := Aside0.mk A500
                      clear A500
                      obtain rfl := Option.some.inj H
                      obtain ⟨Ao51, co51, eo51⟩ := Kd.V_slice HO_9.out
                      subst eo51
                      go_wp2_with (first | ((with_reducible refine gate_callee (f := 23) rfl ?_); refine goesL_ (some 60) rfl rfl Tryd.func23 (by kernel_rfl) rfl #[.slice Ao51 t400.length co51, .int .i64 a1] rfl (by (try simp only [List.map_toArray, List.map_cons, List.map_nil]); first | done | rfl | (simp only [List.length_drop, List.length_take]; rfl)) ?_; (with_reducible refine (trap_Reset.calls kj13 _ _ t400 a1 t419 _ ?side1 ?side2 A43.out).mono ?_); (case side1 => repeat (first | exact (Kd.V_reads' HO_9.out).2.2 | (with_reducible refine Kd.C_alloc ?_ _) | (with_reducible refine Kd.C_drewN ?_ _) | (with_reducible refine Kd.C_drew ?_))); (case side2 => exact (Kd.V_reads' HO_9.out).2.1); rintro e w52 ⟨v420, rfl, ho0, hb⟩; refine ⟨_, rfl, ?_⟩; have n0_ := Aside0.mk (Kd.V_elder' (by (with_reducible repeat (first | apply Kd.V_alloc | apply Kd.V_drewN | apply Kd.V_drew)); exact HO_9.out) (Kd.R_base ho0) hb); have n1_ := Aside0.mk (Kd.R_elder' (by (with_reducible repeat (first | apply Kd.R_alloc | apply Kd.R_drewN | apply Kd.R_drew)); exact HO_10.out) (Kd.R_base ho0) hb); have n2_ := Aside0.mk (Kd.R_lower (Kd.R_new' ho0 (Kd.R_lt (by (with_reducible repeat (first | apply Kd.R_alloc | apply Kd.R_drewN | apply Kd.R_drew)); exact HO_10.out))) (below_size (by repeat (first | (with_reducible first | exact HB.out | apply below_alloc | apply pw_below_drewN | apply below_drew1) | exact HB.out)))); have n3_ := Aside0.mk (below_step (by repeat (first | (with_reducible first | exact HB.out | apply below_alloc | apply pw_below_drewN | apply below_drew1) | exact HB.out)) hb); clear HO_9; clear HO_10; clear HB; have HO_9 := n0_; have HO_10 := n1_; have HO421 := n2_; have HB := n3_; clear n0_ n1_ n2_ n3_; (try clear hb); (try clear hb2); (try clear hk); (try clear hi); (try clear ho0); obtain ⟨Ao53, co53, eo53⟩ := Kd.R_slice HO421.out; subst eo53; obtain ⟨Ao54, co54, eo54⟩ := Kd.R_slice HO_10.out; subst eo54) | ((with_reducible refine gate_callee (f := 20) rfl ?_); refine goesL_ (some 62) rfl rfl Tryd.func20 (by kernel_rfl) rfl #[.slice Ao53 t419.length co53, .slice Ao54 t403.length co54] rfl (by (try simp only [List.map_toArray, List.map_cons, List.map_nil]); first | done | rfl | (simp only [List.length_drop, List.length_take]; rfl)) ?_; (with_reducible refine (jobshellref34_Same.calls kj13 _ _ t419 _ _ t403 true _ ?side1 ?side2 ?side3 ?side4 A44.out).mono ?_); (case side1 => repeat (first | exact (Kd.R_reads' HO421.out).2.2 | (with_reducible refine Kd.C_alloc ?_ _) | (with_reducible refine Kd.C_drewN ?_ _) | (with_reducible refine Kd.C_drew ?_))); (case side2 => exact (Kd.R_reads' HO421.out).2.1); (case side3 => repeat (first | exact (Kd.R_reads' HO_10.out).2.2 | (with_reducible refine Kd.C_alloc ?_ _) | (with_reducible refine Kd.C_drewN ?_ _) | (with_reducible refine Kd.C_drew ?_))); (case side4 => exact (Kd.R_reads' HO_10.out).2.1); rintro e w' ⟨rfl, ⟨nd, rfl⟩⟩; refine ⟨_, rfl, ?_⟩) | (go_at_call 20; (with_reducible refine (jobshellref34_Same.calls kj13 _ _ t403 _ _ l0 true _ ?side1 ?side2 ?side3 ?side4 A47.out).mono ?_); (case side1 => repeat (first | exact (Kd.R_reads' HO_10.out).2.2 | (with_reducible refine Kd.C_alloc ?_ _) | (with_reducible refine Kd.C_drewN ?_ _) | (with_reducible refine Kd.C_drew ?_))); (case side2 => exact (Kd.R_reads' HO_10.out).2.1); (case side3 => repeat (first | exact (Kd.C_below HR0.out (by repeat (first | (with_reducible first | exact HB.out | apply below_alloc | apply pw_below_drewN | apply below_drew1) | exact HB.out))) | (with_reducible refine Kd.C_alloc ?_ _) | (with_reducible refine Kd.C_drewN ?_ _) | (with_reducible refine Kd.C_drew ?_))); (case side4 => exact HC0.out); rintro e w' ⟨rfl, ⟨nd, rfl⟩⟩) | (go_at_call 10; (with_reducible refine (jobshelllaw34_awake.calls kj13  t424 _ A50.out).mono ?_); rintro e w55 ⟨rfl, hb⟩; have n0_ := Aside0.mk (Kd.V_below (by (with_reducible repeat (first | apply Kd.V_alloc | apply Kd.V_drewN | apply Kd.V_drew)); exact HO_9.out) hb); have n1_ := Aside0.mk (Kd.R_below (by (with_reducible repeat (first | apply Kd.R_alloc | apply Kd.R_drewN | apply Kd.R_drew)); exact HO_10.out) hb); have n2_ := Aside0.mk (Kd.R_below (by (with_reducible repeat (first | apply Kd.R_alloc | apply Kd.R_drewN | apply Kd.R_drew)); exact HO421.out) hb); have n3_ := Aside0.mk (below_step (by repeat (first | (with_reducible first | exact HB.out | apply below_alloc | apply pw_below_drewN | apply below_drew1) | exact HB.out)) hb); clear HO_9; clear HO_10; clear HO421; clear HB; have HO_9 := n0_; have HO_10 := n1_; have HO421 := n2_; have HB := n3_; clear n0_ n1_ n2_ n3_; (try clear hb); (try clear hb2); (try clear hk); (try clear hi)))
                      go_ret
                      exact ⟨by first | rfl | (simp [errW_none, errW_some] <;> rfl) | (simp [*, errW_none, errW_some] <;> rfl), by repeat (first | (with_reducible first | exact HB.out | apply below_alloc | apply pw_below_drewN | apply below_drew1) | exact HB.out)⟩
                    · rw [if_neg c49] at H
                      have c49b0 : decide ((t403.length : Int) ≤ (l0.length : Int)) = false := decide_eq_false c49
                      have c49b1 : decide (t403.length ≤ l0.length) = false := decide_eq_false (fun h => c49 (Int.ofNat_le.mpr h))
                      clear c49
                      exact absurd ((Option.some.inj H).trans HT.out) (by decide)
                  · replace c48 := Bool.eq_false_iff.mpr c48
                    subst c48
                    have H1 : (some false) = some r := by rw [if_neg (show ¬ (false = true) by decide)] at H; exact H
                    clear H
                    have H := H1
                    clear H1
                    exact absurd ((Option.some.inj H).trans HT.out) (by decide)
                · rw [if_neg c46] at H
                  have c46b0 : ((t403.length : Int) == (l0.length : Int)) = false := beq_eq_false_iff_ne.mpr c46
                  have c46b1 : ((t403.length : Int) != (l0.length : Int)) = true := bne_iff_ne.mpr c46
                  have c46b2 : (t403.length == l0.length) = false := by first | simpa using c46 | (simp at c46 ⊢; omega)
                  by_cases c56 : (t403.length : Int) ≤ (l0.length : Int)
                  · rw [if_pos c56] at H
                    have c56b0 : decide ((t403.length : Int) ≤ (l0.length : Int)) = true := decide_eq_true c56
                    have c56b1 : decide (t403.length ≤ l0.length) = true := decide_eq_true (Int.ofNat_le.mp c56)
                    clear c56
                    replace H := Option.bind_eq_some_iff.mp H
                    obtain ⟨t425, A570, H⟩ := H
                    replace H : (some t425) = some r := H
                    have A57 := Aside0.mk A570
                    clear A570
                    obtain rfl := Option.some.inj H
                    obtain ⟨Ao58, co58, eo58⟩ := Kd.V_slice HO_9.out
                    subst eo58
                    go_wp2_with (first | ((with_reducible refine gate_callee (f := 23) rfl ?_); refine goesL_ (some 60) rfl rfl Tryd.func23 (by kernel_rfl) rfl #[.slice Ao58 t400.length co58, .int .i64 a1] rfl (by (try simp only [List.map_toArray, List.map_cons, List.map_nil]); first | done | rfl | (simp only [List.length_drop, List.length_take]; rfl)) ?_; (with_reducible refine (trap_Reset.calls kj13 _ _ t400 a1 t419 _ ?side1 ?side2 A43.out).mono ?_); (case side1 => repeat (first | exact (Kd.V_reads' HO_9.out).2.2 | (with_reducible refine Kd.C_alloc ?_ _) | (with_reducible refine Kd.C_drewN ?_ _) | (with_reducible refine Kd.C_drew ?_))); (case side2 => exact (Kd.V_reads' HO_9.out).2.1); rintro e w59 ⟨v420, rfl, ho0, hb⟩; refine ⟨_, rfl, ?_⟩; have n0_ := Aside0.mk (Kd.V_elder' (by (with_reducible repeat (first | apply Kd.V_alloc | apply Kd.V_drewN | apply Kd.V_drew)); exact HO_9.out) (Kd.R_base ho0) hb); have n1_ := Aside0.mk (Kd.R_elder' (by (with_reducible repeat (first | apply Kd.R_alloc | apply Kd.R_drewN | apply Kd.R_drew)); exact HO_10.out) (Kd.R_base ho0) hb); have n2_ := Aside0.mk (Kd.R_lower (Kd.R_new' ho0 (Kd.R_lt (by (with_reducible repeat (first | apply Kd.R_alloc | apply Kd.R_drewN | apply Kd.R_drew)); exact HO_10.out))) (below_size (by repeat (first | (with_reducible first | exact HB.out | apply below_alloc | apply pw_below_drewN | apply below_drew1) | exact HB.out)))); have n3_ := Aside0.mk (below_step (by repeat (first | (with_reducible first | exact HB.out | apply below_alloc | apply pw_below_drewN | apply below_drew1) | exact HB.out)) hb); clear HO_9; clear HO_10; clear HB; have HO_9 := n0_; have HO_10 := n1_; have HO421 := n2_; have HB := n3_; clear n0_ n1_ n2_ n3_; (try clear hb); (try clear hb2); (try clear hk); (try clear hi); (try clear ho0); obtain ⟨Ao60, co60, eo60⟩ := Kd.R_slice HO421.out; subst eo60; obtain ⟨Ao61, co61, eo61⟩ := Kd.R_slice HO_10.out; subst eo61) | ((with_reducible refine gate_callee (f := 20) rfl ?_); refine goesL_ (some 62) rfl rfl Tryd.func20 (by kernel_rfl) rfl #[.slice Ao60 t419.length co60, .slice Ao61 t403.length co61] rfl (by (try simp only [List.map_toArray, List.map_cons, List.map_nil]); first | done | rfl | (simp only [List.length_drop, List.length_take]; rfl)) ?_; (with_reducible refine (jobshellref34_Same.calls kj13 _ _ t419 _ _ t403 true _ ?side1 ?side2 ?side3 ?side4 A44.out).mono ?_); (case side1 => repeat (first | exact (Kd.R_reads' HO421.out).2.2 | (with_reducible refine Kd.C_alloc ?_ _) | (with_reducible refine Kd.C_drewN ?_ _) | (with_reducible refine Kd.C_drew ?_))); (case side2 => exact (Kd.R_reads' HO421.out).2.1); (case side3 => repeat (first | exact (Kd.R_reads' HO_10.out).2.2 | (with_reducible refine Kd.C_alloc ?_ _) | (with_reducible refine Kd.C_drewN ?_ _) | (with_reducible refine Kd.C_drew ?_))); (case side4 => exact (Kd.R_reads' HO_10.out).2.1); rintro e w' ⟨rfl, ⟨nd, rfl⟩⟩; refine ⟨_, rfl, ?_⟩) | (go_at_call 10; (with_reducible refine (jobshelllaw34_awake.calls kj13  t425 _ A57.out).mono ?_); rintro e w62 ⟨rfl, hb⟩; have n0_ := Aside0.mk (Kd.V_below (by (with_reducible repeat (first | apply Kd.V_alloc | apply Kd.V_drewN | apply Kd.V_drew)); exact HO_9.out) hb); have n1_ := Aside0.mk (Kd.R_below (by (with_reducible repeat (first | apply Kd.R_alloc | apply Kd.R_drewN | apply Kd.R_drew)); exact HO_10.out) hb); have n2_ := Aside0.mk (Kd.R_below (by (with_reducible repeat (first | apply Kd.R_alloc | apply Kd.R_drewN | apply Kd.R_drew)); exact HO421.out) hb); have n3_ := Aside0.mk (below_step (by repeat (first | (with_reducible first | exact HB.out | apply below_alloc | apply pw_below_drewN | apply below_drew1) | exact HB.out)) hb); clear HO_9; clear HO_10; clear HO421; clear HB; have HO_9 := n0_; have HO_10 := n1_; have HO421 := n2_; have HB := n3_; clear n0_ n1_ n2_ n3_; (try clear hb); (try clear hb2); (try clear hk); (try clear hi)))
                    go_ret
                    exact ⟨by first | rfl | (simp [errW_none, errW_some] <;> rfl) | (simp [*, errW_none, errW_some] <;> rfl), by repeat (first | (with_reducible first | exact HB.out | apply below_alloc | apply pw_below_drewN | apply below_drew1) | exact HB.out)⟩
                  · rw [if_neg c56] at H
                    have c56b0 : decide ((t403.length : Int) ≤ (l0.length : Int)) = false := decide_eq_false c56
                    have c56b1 : decide (t403.length ≤ l0.length) = false := decide_eq_false (fun h => c56 (Int.ofNat_le.mpr h))
                    clear c56
                    exact absurd ((Option.some.inj H).trans HT.out) (by decide)
              · replace c45 := Bool.eq_false_iff.mpr c45
                subst c45
                have H1 : (some false) = some r := by rw [if_neg (show ¬ (false = true) by decide)] at H; exact H
                clear H
                have H := H1
                clear H1
                exact absurd ((Option.some.inj H).trans HT.out) (by decide)

end Go.Proofs.YtphgcpoefpogfaaDoor.PS

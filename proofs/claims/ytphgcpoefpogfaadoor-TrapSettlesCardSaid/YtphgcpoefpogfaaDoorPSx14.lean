-- Written by a program of this session's (wip/mkprint.py) out of the translation; the texts of functions that the program does not take are mine.
import Derived.Test.YtphgcpoefpogfaaDoorPSx0
import Derived.Test.YtphgcpoefpogfaaDoorPSx3
import Derived.Test.YtphgcpoefpogfaaDoorPSx5
import Derived.Test.YtphgcpoefpogfaaDoorPSx7
namespace Go.Proofs.YtphgcpoefpogfaaDoor.PS
open Go.RowKit Go.Proofs.YtphgcpoefpogfaaDoorW.PrintWords Go.Proofs.YtphgcpoefpogfaaDoorW.PrintLast Go.Proofs.YtphgcpoefpogfaaDoorW.PrintMore
attribute [local go_sem] max2_int min2_int max_two min_two max_three min_three max_four min_four   -- for this text's walks alone
set_option linter.unusedVariables false
set_option linter.unusedSimpArgs false

/-! ### jobshelllaw34_TrapSettles: function 7 -/
mutual
def jobshelllaw34_TrapSettles.j0 : Nat → List (S30) → List (S30) → Bool → Bool → Option (Bool)
  | 0, _, _, _, _ => none
  | k + 1, x0, x1, x2, x17 => if x17 = true then ((jobshelllaw34_awake.f k).bind fun t299 => (some t299)) else ((trap_Requests.f k x0 x1 x2).bind fun t300 => (jobshelllaw34_TrapSettles.l0 k x0 x1 x2 t300 0))
def jobshelllaw34_TrapSettles.l0 : Nat → List (S30) → List (S30) → Bool → List (S40) → Int → Option (Bool)
  | 0, _, _, _, _, _ => none
  | k + 1, x0, x1, x2, x7, x8 => if x8 < (x7.length : Int) then (if 0 ≤ x8 then (if ((rd_T40 x7 x8).f0) = 14 then (if ((rd_T40 x7 x8).f6) < 0 then (some false) else (if ((rd_T40 x7 x8).f6) > 2 then (some false) else (if x8 > 0 then (if 0 ≤ (wrap64 (x8 - 1)) then (if (wrap64 (x8 - 1)) < (x7.length : Int) then (if ((rd_T40 x7 x8).f5) ≤ ((rd_T40 x7 (wrap64 (x8 - 1))).f5) then (some false) else (if ((rd_T40 x7 x8).f5) = 9 then (some false) else (if ((rd_T40 x7 x8).f5) = 19 then (some false) else (jobshelllaw34_TrapSettles.l0 k x0 x1 x2 x7 (wrap64 (x8 + 1)))))) else (none)) else (none)) else (if ((rd_T40 x7 x8).f5) = 9 then (some false) else (if ((rd_T40 x7 x8).f5) = 19 then (some false) else (jobshelllaw34_TrapSettles.l0 k x0 x1 x2 x7 (wrap64 (x8 + 1)))))))) else (some false)) else (none)) else ((trap_Requests.f k x1 x0 x2).bind fun t312 => ((trap_Requests.f k x1 x1 x2).bind fun t315 => (if (t315.length : Int) = 0 then (if (t312.length : Int) = (x7.length : Int) then ((jobshelllaw34_awake.f k).bind fun t318 => (some t318)) else (some false)) else (some false))))
end
def jobshelllaw34_TrapSettles.f (k : Nat) (l0 : List (S30)) (l1 : List (S30)) (a2 : Bool) : Option (Bool) := (jobshelllaw34_ok.f k l0).bind fun t297 => (if t297 = true then ((jobshelllaw34_ok.f k l1).bind fun t298 => (jobshelllaw34_TrapSettles.j0 k l0 l1 a2 (!t298))) else (jobshelllaw34_TrapSettles.j0 k l0 l1 a2 true))
theorem jobshelllaw34_TrapSettles.mono_l : ∀ k, (∀ y0 y1 y2 y3, LeO (jobshelllaw34_TrapSettles.j0 k y0 y1 y2 y3) (jobshelllaw34_TrapSettles.j0 (k + 1) y0 y1 y2 y3)) ∧ (∀ y0 y1 y2 y3 y4, LeO (jobshelllaw34_TrapSettles.l0 k y0 y1 y2 y3 y4) (jobshelllaw34_TrapSettles.l0 (k + 1) y0 y1 y2 y3 y4))
  | 0 => ⟨fun _ _ _ _ r h => by simp [jobshelllaw34_TrapSettles.j0] at h, fun _ _ _ _ _ r h => by simp [jobshelllaw34_TrapSettles.l0] at h⟩
  | k + 1 => by
    obtain ⟨ih0, ih1⟩ := jobshelllaw34_TrapSettles.mono_l k
    refine ⟨?_, ?_⟩
    · intro y0 y1 y2 y3
      unfold jobshelllaw34_TrapSettles.j0
      repeat' first
      | (with_reducible exact ih0 _ _ _ _)
      | (with_reducible exact ih1 _ _ _ _ _)
      | (with_reducible exact jobshelllaw34_awake.mono _)
      | (with_reducible exact jobshelllaw34_ok.mono _ _)
      | (with_reducible exact trap_Requests.mono _ _ _ _)
      | (with_reducible exact LeO.refl _)
      | (with_reducible exact LeO.none _)
      | (with_reducible refine LeO.ite ?_ ?_)
      | (with_reducible refine LeO.bind ?_ (fun _ => ?_))
      | exact ih0 _ _ _ _
      | exact ih1 _ _ _ _ _
      | exact jobshelllaw34_awake.mono _
      | exact jobshelllaw34_ok.mono _ _
      | exact trap_Requests.mono _ _ _ _
      | exact LeO.none _
      | refine LeO.ite ?_ ?_
      | refine LeO.bind ?_ (fun _ => ?_)
    · intro y0 y1 y2 y3 y4
      unfold jobshelllaw34_TrapSettles.l0
      repeat' first
      | (with_reducible exact ih0 _ _ _ _)
      | (with_reducible exact ih1 _ _ _ _ _)
      | (with_reducible exact jobshelllaw34_awake.mono _)
      | (with_reducible exact jobshelllaw34_ok.mono _ _)
      | (with_reducible exact trap_Requests.mono _ _ _ _)
      | (with_reducible exact LeO.refl _)
      | (with_reducible exact LeO.none _)
      | (with_reducible refine LeO.ite ?_ ?_)
      | (with_reducible refine LeO.bind ?_ (fun _ => ?_))
      | exact ih0 _ _ _ _
      | exact ih1 _ _ _ _ _
      | exact jobshelllaw34_awake.mono _
      | exact jobshelllaw34_ok.mono _ _
      | exact trap_Requests.mono _ _ _ _
      | exact LeO.none _
      | refine LeO.ite ?_ ?_
      | refine LeO.bind ?_ (fun _ => ?_)
theorem jobshelllaw34_TrapSettles.mono : ∀ a0 a1 a2 k, LeO (jobshelllaw34_TrapSettles.f k a0 a1 a2) (jobshelllaw34_TrapSettles.f (k + 1) a0 a1 a2) := by
  intro a0 a1 a2 k
  obtain ⟨ih0, ih1⟩ := jobshelllaw34_TrapSettles.mono_l k
  unfold jobshelllaw34_TrapSettles.f
  repeat' first
      | (with_reducible exact ih0 _ _ _ _)
      | (with_reducible exact ih1 _ _ _ _ _)
      | (with_reducible exact jobshelllaw34_awake.mono _)
      | (with_reducible exact jobshelllaw34_ok.mono _ _)
      | (with_reducible exact trap_Requests.mono _ _ _ _)
      | (with_reducible exact LeO.refl _)
      | (with_reducible exact LeO.none _)
      | (with_reducible refine LeO.ite ?_ ?_)
      | (with_reducible refine LeO.bind ?_ (fun _ => ?_))
      | exact ih0 _ _ _ _
      | exact ih1 _ _ _ _ _
      | exact jobshelllaw34_awake.mono _
      | exact jobshelllaw34_ok.mono _ _
      | exact trap_Requests.mono _ _ _ _
      | exact LeO.none _
      | refine LeO.ite ?_ ?_
      | refine LeO.bind ?_ (fun _ => ?_)
set_option maxHeartbeats 8000000 in
set_option maxRecDepth 100000 in
theorem jobshelllaw34_TrapSettles.calls_true (k : Nat) (A0 : Option Addr) (c0 : Nat) (l0 : List (S30)) (A1 : Option Addr) (c1 : Nat) (l1 : List (S30)) (a2 : Bool) (r : Bool) (w : World) (hr0 : Kd.C k30 w A0 l0.length l0) (hc0 : l0.length ≤ c0) (hr1 : Kd.C k30 w A1 l1.length l1) (hc1 : l1.length ≤ c1) (h : jobshelllaw34_TrapSettles.f k l0 l1 a2 = some r) (hT : r = true) :
    Calls Tryd.prog 7 #[.slice A0 l0.length c0, .slice A1 l1.length c1, .bool a2] w fun e w' => e = .returned (.bool r) ∧ Below w.heap.size w w' := by
  have HT := Aside0.mk hT
  clear hT
  have HR0 := Aside0.mk hr0
  have HC0 := Aside0.mk hc0
  clear hr0 hc0
  have HR1 := Aside0.mk hr1
  have HC1 := Aside0.mk hc1
  clear hr1 hc1
  have HB := Aside0.mk (Below.refl w.heap.size w)
  have H : ((jobshelllaw34_ok.f k l0).bind fun t297 => (if t297 = true then ((jobshelllaw34_ok.f k l1).bind fun t298 => (jobshelllaw34_TrapSettles.j0 k l0 l1 a2 (!t298))) else (jobshelllaw34_TrapSettles.j0 k l0 l1 a2 true))) = some r := h
  clear h
  have HC4 := Aside0.mk H
  clear H
  go_enter Tryd.func7, Tryd.ntmps7
  go_upto_region 1 with (fail)
  repeat (go_quiet (fail); go_upto_region 1 with (fail))
  go_cut [17] (fun v17 wc => ∃ (kq : Nat) (x17_3 : Bool), v17 = .bool x17_3 ∧ Aside0 (jobshelllaw34_TrapSettles.j0 kq l0 l1 a2 x17_3 = some r) ∧ Aside0 (kq ≤ k) ∧ Aside0 (Below w.heap.size w wc))
  case first =>
    have H := HC4.out
    clear HC4
    replace H := Option.bind_eq_some_iff.mp H
    obtain ⟨t297, A50, H⟩ := H
    replace H : (if t297 = true then ((jobshelllaw34_ok.f k l1).bind fun t298 => (jobshelllaw34_TrapSettles.j0 k l0 l1 a2 (!t298))) else (jobshelllaw34_TrapSettles.j0 k l0 l1 a2 true)) = some r := H
    have A5 := Aside0.mk A50
    clear A50
    by_cases c6 : t297 = true
    · subst c6
      have H1 : ((jobshelllaw34_ok.f k l1).bind fun t298 => (jobshelllaw34_TrapSettles.j0 k l0 l1 a2 (!t298))) = some r := by rw [if_pos rfl] at H; exact H
      clear H
      have H := H1
      clear H1
      replace H := Option.bind_eq_some_iff.mp H
      obtain ⟨t298, A70, H⟩ := H
      replace H : (jobshelllaw34_TrapSettles.j0 k l0 l1 a2 (!t298)) = some r := H
      have A7 := Aside0.mk A70
      clear A70
      have H' := Aside0.mk H
      clear H
      go_wp2_with (first | (go_at_call 13; (with_reducible refine (jobshelllaw34_ok.calls k _ _ l0 true _ ?side1 ?side2 A5.out).mono ?_); (case side1 => repeat (first | exact (Kd.C_below HR0.out HB.out) | (with_reducible refine Kd.C_alloc ?_ _) | (with_reducible refine Kd.C_drewN ?_ _) | (with_reducible refine Kd.C_drew ?_))); (case side2 => exact HC0.out); rintro e w' ⟨rfl, ⟨nd, rfl⟩⟩; (try first | exact ⟨rfl, _, World.drewN_drewN _ _ _⟩ | exact ⟨rfl, _, Eq.trans (World.drewN_drewN _ _ _) (congrArg (World.drewN _) (Nat.add_assoc _ _ _))⟩)) | (go_at_call 13; (with_reducible refine (jobshelllaw34_ok.calls k _ _ l1 t298 _ ?side1 ?side2 A7.out).mono ?_); (case side1 => repeat (first | exact (Kd.C_below HR1.out (by repeat (first | (with_reducible first | exact HB.out | apply below_alloc | apply pw_below_drewN | apply below_drew1) | exact HB.out))) | (with_reducible refine Kd.C_alloc ?_ _) | (with_reducible refine Kd.C_drewN ?_ _) | (with_reducible refine Kd.C_drew ?_))); (case side2 => exact HC1.out); rintro e w' ⟨rfl, ⟨nd, rfl⟩⟩; (try first | exact ⟨rfl, _, World.drewN_drewN _ _ _⟩ | exact ⟨rfl, _, Eq.trans (World.drewN_drewN _ _ _) (congrArg (World.drewN _) (Nat.add_assoc _ _ _))⟩)))
      repeat (go_quiet (first | (go_at_call 13; (with_reducible refine (jobshelllaw34_ok.calls k _ _ l0 true _ ?side1 ?side2 A5.out).mono ?_); (case side1 => repeat (first | exact (Kd.C_below HR0.out HB.out) | (with_reducible refine Kd.C_alloc ?_ _) | (with_reducible refine Kd.C_drewN ?_ _) | (with_reducible refine Kd.C_drew ?_))); (case side2 => exact HC0.out); rintro e w' ⟨rfl, ⟨nd, rfl⟩⟩; (try first | exact ⟨rfl, _, World.drewN_drewN _ _ _⟩ | exact ⟨rfl, _, Eq.trans (World.drewN_drewN _ _ _) (congrArg (World.drewN _) (Nat.add_assoc _ _ _))⟩)) | (go_at_call 13; (with_reducible refine (jobshelllaw34_ok.calls k _ _ l1 t298 _ ?side1 ?side2 A7.out).mono ?_); (case side1 => repeat (first | exact (Kd.C_below HR1.out (by repeat (first | (with_reducible first | exact HB.out | apply below_alloc | apply pw_below_drewN | apply below_drew1) | exact HB.out))) | (with_reducible refine Kd.C_alloc ?_ _) | (with_reducible refine Kd.C_drewN ?_ _) | (with_reducible refine Kd.C_drew ?_))); (case side2 => exact HC1.out); rintro e w' ⟨rfl, ⟨nd, rfl⟩⟩; (try first | exact ⟨rfl, _, World.drewN_drewN _ _ _⟩ | exact ⟨rfl, _, Eq.trans (World.drewN_drewN _ _ _) (congrArg (World.drewN _) (Nat.add_assoc _ _ _))⟩))); try go_wp2_with (first | (go_at_call 13; (with_reducible refine (jobshelllaw34_ok.calls k _ _ l0 true _ ?side1 ?side2 A5.out).mono ?_); (case side1 => repeat (first | exact (Kd.C_below HR0.out HB.out) | (with_reducible refine Kd.C_alloc ?_ _) | (with_reducible refine Kd.C_drewN ?_ _) | (with_reducible refine Kd.C_drew ?_))); (case side2 => exact HC0.out); rintro e w' ⟨rfl, ⟨nd, rfl⟩⟩; (try first | exact ⟨rfl, _, World.drewN_drewN _ _ _⟩ | exact ⟨rfl, _, Eq.trans (World.drewN_drewN _ _ _) (congrArg (World.drewN _) (Nat.add_assoc _ _ _))⟩)) | (go_at_call 13; (with_reducible refine (jobshelllaw34_ok.calls k _ _ l1 t298 _ ?side1 ?side2 A7.out).mono ?_); (case side1 => repeat (first | exact (Kd.C_below HR1.out (by repeat (first | (with_reducible first | exact HB.out | apply below_alloc | apply pw_below_drewN | apply below_drew1) | exact HB.out))) | (with_reducible refine Kd.C_alloc ?_ _) | (with_reducible refine Kd.C_drewN ?_ _) | (with_reducible refine Kd.C_drew ?_))); (case side2 => exact HC1.out); rintro e w' ⟨rfl, ⟨nd, rfl⟩⟩; (try first | exact ⟨rfl, _, World.drewN_drewN _ _ _⟩ | exact ⟨rfl, _, Eq.trans (World.drewN_drewN _ _ _) (congrArg (World.drewN _) (Nat.add_assoc _ _ _))⟩))))
      go_meet
      case rel => exact ⟨_, (!t298), (by first | rfl | (simp; done) | (simp [*]; done) | exact congrArg (fun b => Ending.returned (Value.bool b)) (Ch.bne_nil _)), H', ⟨by first | omega | exact Nat.le_refl _⟩, ⟨by repeat (first | (with_reducible first | exact HB.out | apply below_alloc | apply pw_below_drewN | apply below_drew1) | exact HB.out)⟩⟩
    · replace c6 := Bool.eq_false_iff.mpr c6
      subst c6
      have H1 : (jobshelllaw34_TrapSettles.j0 k l0 l1 a2 true) = some r := by rw [if_neg (show ¬ (false = true) by decide)] at H; exact H
      clear H
      have H := H1
      clear H1
      have H' := Aside0.mk H
      clear H
      go_wp2_with (first | (go_at_call 13; (with_reducible refine (jobshelllaw34_ok.calls k _ _ l0 false _ ?side1 ?side2 A5.out).mono ?_); (case side1 => repeat (first | exact (Kd.C_below HR0.out HB.out) | (with_reducible refine Kd.C_alloc ?_ _) | (with_reducible refine Kd.C_drewN ?_ _) | (with_reducible refine Kd.C_drew ?_))); (case side2 => exact HC0.out); rintro e w' ⟨rfl, ⟨nd, rfl⟩⟩; (try first | exact ⟨rfl, _, World.drewN_drewN _ _ _⟩ | exact ⟨rfl, _, Eq.trans (World.drewN_drewN _ _ _) (congrArg (World.drewN _) (Nat.add_assoc _ _ _))⟩)))
      repeat (go_quiet (first | (go_at_call 13; (with_reducible refine (jobshelllaw34_ok.calls k _ _ l0 false _ ?side1 ?side2 A5.out).mono ?_); (case side1 => repeat (first | exact (Kd.C_below HR0.out HB.out) | (with_reducible refine Kd.C_alloc ?_ _) | (with_reducible refine Kd.C_drewN ?_ _) | (with_reducible refine Kd.C_drew ?_))); (case side2 => exact HC0.out); rintro e w' ⟨rfl, ⟨nd, rfl⟩⟩; (try first | exact ⟨rfl, _, World.drewN_drewN _ _ _⟩ | exact ⟨rfl, _, Eq.trans (World.drewN_drewN _ _ _) (congrArg (World.drewN _) (Nat.add_assoc _ _ _))⟩))); try go_wp2_with (first | (go_at_call 13; (with_reducible refine (jobshelllaw34_ok.calls k _ _ l0 false _ ?side1 ?side2 A5.out).mono ?_); (case side1 => repeat (first | exact (Kd.C_below HR0.out HB.out) | (with_reducible refine Kd.C_alloc ?_ _) | (with_reducible refine Kd.C_drewN ?_ _) | (with_reducible refine Kd.C_drew ?_))); (case side2 => exact HC0.out); rintro e w' ⟨rfl, ⟨nd, rfl⟩⟩; (try first | exact ⟨rfl, _, World.drewN_drewN _ _ _⟩ | exact ⟨rfl, _, Eq.trans (World.drewN_drewN _ _ _) (congrArg (World.drewN _) (Nat.add_assoc _ _ _))⟩))))
      go_meet
      case rel => exact ⟨_, (true), (by first | rfl | (simp; done) | (simp [*]; done) | exact congrArg (fun b => Ending.returned (Value.bool b)) (Ch.bne_nil _)), H', ⟨by first | omega | exact Nat.le_refl _⟩, ⟨by repeat (first | (with_reducible first | exact HB.out | apply below_alloc | apply pw_below_drewN | apply below_drew1) | exact HB.out)⟩⟩
  case rest =>
    clear HC4
    try clear c1
    try clear p2
    try clear c6
    try clear c7
    obtain ⟨kq, x17_3, rfl, HA, HJ3, HB⟩ := hcut
    cases kq with
    | zero => exact absurd HA.out (by simp [jobshelllaw34_TrapSettles.j0])
    | succ kj3 =>
      have H := HA.out
      clear HA
      simp only [jobshelllaw34_TrapSettles.j0] at H
      by_cases c8 : x17_3 = true
      · subst c8
        have H1 : ((jobshelllaw34_awake.f kj3).bind fun t299 => (some t299)) = some r := by rw [if_pos rfl] at H; exact H
        clear H
        have H := H1
        clear H1
        replace H := Option.bind_eq_some_iff.mp H
        obtain ⟨t299, A90, H⟩ := H
        replace H : (some t299) = some r := H
        have A9 := Aside0.mk A90
        clear A90
        obtain rfl := Option.some.inj H
        go_wp2_with (first | (go_at_call 10; (with_reducible refine (jobshelllaw34_awake.calls kj3  t299 _ A9.out).mono ?_); rintro e w10 ⟨rfl, hb⟩; have n0_ := Aside0.mk (below_step (by repeat (first | (with_reducible first | exact HB.out | apply below_alloc | apply pw_below_drewN | apply below_drew1) | exact HB.out)) hb); clear HB; have HB := n0_; clear n0_; (try clear hb); (try clear hb2); (try clear hk); (try clear hi)))
        repeat (go_quiet (first | (go_at_call 10; (with_reducible refine (jobshelllaw34_awake.calls kj3  t299 _ A9.out).mono ?_); rintro e w10 ⟨rfl, hb⟩; have n0_ := Aside0.mk (below_step (by repeat (first | (with_reducible first | exact HB.out | apply below_alloc | apply pw_below_drewN | apply below_drew1) | exact HB.out)) hb); clear HB; have HB := n0_; clear n0_; (try clear hb); (try clear hb2); (try clear hk); (try clear hi))); try go_wp2_with (first | (go_at_call 10; (with_reducible refine (jobshelllaw34_awake.calls kj3  t299 _ A9.out).mono ?_); rintro e w10 ⟨rfl, hb⟩; have n0_ := Aside0.mk (below_step (by repeat (first | (with_reducible first | exact HB.out | apply below_alloc | apply pw_below_drewN | apply below_drew1) | exact HB.out)) hb); clear HB; have HB := n0_; clear n0_; (try clear hb); (try clear hb2); (try clear hk); (try clear hi))))
        go_ret
        exact ⟨by first | rfl | (simp [errW_none, errW_some] <;> rfl) | (simp [*, errW_none, errW_some] <;> rfl), by repeat (first | (with_reducible first | exact HB.out | apply below_alloc | apply pw_below_drewN | apply below_drew1) | exact HB.out)⟩
      · replace c8 := Bool.eq_false_iff.mpr c8
        subst c8
        have H1 : ((trap_Requests.f kj3 l0 l1 a2).bind fun t300 => (jobshelllaw34_TrapSettles.l0 kj3 l0 l1 a2 t300 0)) = some r := by rw [if_neg (show ¬ (false = true) by decide)] at H; exact H
        clear H
        have H := H1
        clear H1
        replace H := Option.bind_eq_some_iff.mp H
        obtain ⟨t300, A110, H⟩ := H
        replace H : (jobshelllaw34_TrapSettles.l0 kj3 l0 l1 a2 t300 0) = some r := H
        have A11 := Aside0.mk A110
        clear A110
        have H' := Aside0.mk H
        clear H
        go_wp2_with (first | (go_at_call 17; (with_reducible refine (trap_Requests.calls kj3 _ _ l0 _ _ l1 a2 t300 _ ?side1 ?side2 ?side3 ?side4 A11.out).mono ?_); (case side1 => repeat (first | exact (Kd.C_below HR0.out HB.out) | (with_reducible refine Kd.C_alloc ?_ _) | (with_reducible refine Kd.C_drewN ?_ _) | (with_reducible refine Kd.C_drew ?_))); (case side2 => exact HC0.out); (case side3 => repeat (first | exact (Kd.C_below HR1.out HB.out) | (with_reducible refine Kd.C_alloc ?_ _) | (with_reducible refine Kd.C_drewN ?_ _) | (with_reducible refine Kd.C_drew ?_))); (case side4 => exact HC1.out); rintro e w12 ⟨v301, rfl, ho0, hb⟩; have n0_ := Aside0.mk (Kd.S_lower ho0 (below_size (by repeat (first | (with_reducible first | exact HB.out | apply below_alloc | apply pw_below_drewN | apply below_drew1) | exact HB.out)))); have n1_ := Aside0.mk (below_step (by repeat (first | (with_reducible first | exact HB.out | apply below_alloc | apply pw_below_drewN | apply below_drew1) | exact HB.out)) hb); clear HB; have HO302 := n0_; have HB := n1_; clear n0_ n1_; (try clear hb); (try clear hb2); (try clear hk); (try clear hi); (try clear ho0)))
        repeat (go_quiet (first | (go_at_call 17; (with_reducible refine (trap_Requests.calls kj3 _ _ l0 _ _ l1 a2 t300 _ ?side1 ?side2 ?side3 ?side4 A11.out).mono ?_); (case side1 => repeat (first | exact (Kd.C_below HR0.out HB.out) | (with_reducible refine Kd.C_alloc ?_ _) | (with_reducible refine Kd.C_drewN ?_ _) | (with_reducible refine Kd.C_drew ?_))); (case side2 => exact HC0.out); (case side3 => repeat (first | exact (Kd.C_below HR1.out HB.out) | (with_reducible refine Kd.C_alloc ?_ _) | (with_reducible refine Kd.C_drewN ?_ _) | (with_reducible refine Kd.C_drew ?_))); (case side4 => exact HC1.out); rintro e w12 ⟨v301, rfl, ho0, hb⟩; have n0_ := Aside0.mk (Kd.S_lower ho0 (below_size (by repeat (first | (with_reducible first | exact HB.out | apply below_alloc | apply pw_below_drewN | apply below_drew1) | exact HB.out)))); have n1_ := Aside0.mk (below_step (by repeat (first | (with_reducible first | exact HB.out | apply below_alloc | apply pw_below_drewN | apply below_drew1) | exact HB.out)) hb); clear HB; have HO302 := n0_; have HB := n1_; clear n0_ n1_; (try clear hb); (try clear hb2); (try clear hk); (try clear hi); (try clear ho0))); try go_wp2_with (first | (go_at_call 17; (with_reducible refine (trap_Requests.calls kj3 _ _ l0 _ _ l1 a2 t300 _ ?side1 ?side2 ?side3 ?side4 A11.out).mono ?_); (case side1 => repeat (first | exact (Kd.C_below HR0.out HB.out) | (with_reducible refine Kd.C_alloc ?_ _) | (with_reducible refine Kd.C_drewN ?_ _) | (with_reducible refine Kd.C_drew ?_))); (case side2 => exact HC0.out); (case side3 => repeat (first | exact (Kd.C_below HR1.out HB.out) | (with_reducible refine Kd.C_alloc ?_ _) | (with_reducible refine Kd.C_drewN ?_ _) | (with_reducible refine Kd.C_drew ?_))); (case side4 => exact HC1.out); rintro e w12 ⟨v301, rfl, ho0, hb⟩; have n0_ := Aside0.mk (Kd.S_lower ho0 (below_size (by repeat (first | (with_reducible first | exact HB.out | apply below_alloc | apply pw_below_drewN | apply below_drew1) | exact HB.out)))); have n1_ := Aside0.mk (below_step (by repeat (first | (with_reducible first | exact HB.out | apply below_alloc | apply pw_below_drewN | apply below_drew1) | exact HB.out)) hb); clear HB; have HO302 := n0_; have HB := n1_; clear n0_ n1_; (try clear hb); (try clear hb2); (try clear hk); (try clear hi); (try clear ho0))))
        go_loopg [8] kj3 (fun kq v8 w' => ∃ (x8_2 : Int), v8 = .int .i64 x8_2 ∧ Aside0 (jobshelllaw34_TrapSettles.l0 kq l0 l1 a2 t300 x8_2 = some r) ∧ Aside0 (kq ≤ kj3) ∧ Aside0 (Kd.S k40 40 w' w.heap.size (fun _ => True) v301 t300) ∧ Aside0 (Below w.heap.size w w'))
        case atStart => exact ⟨(0), (by first | rfl | (simp; done) | (simp [*]; done) | exact congrArg (fun b => Ending.returned (Value.bool b)) (Ch.bne_nil _)), H', ⟨Nat.le_refl _⟩, ⟨by (with_reducible repeat (first | apply Kd.S_alloc | apply Kd.S_drewN | apply Kd.S_drew)); exact HO302.out⟩, ⟨by repeat (first | (with_reducible first | exact HB.out | apply below_alloc | apply pw_below_drewN | apply below_drew1) | exact HB.out)⟩⟩
        case round =>
          clear H'
          try clear c1
          try clear p2
          try clear c6
          try clear c7
          try clear c8
          try clear p2
          obtain ⟨x8_2, rfl, HA, HK2, HO_7, HB⟩ := hrel
          cases gk with
          | zero => exact absurd HA.out (by simp [jobshelllaw34_TrapSettles.l0])
          | succ k2 =>
            have H := HA.out
            clear HA
            simp only [jobshelllaw34_TrapSettles.l0] at H
            by_cases c13 : x8_2 < (t300.length : Int)
            · rw [if_pos c13] at H
              have c13b0 : decide (x8_2 < (t300.length : Int)) = true := decide_eq_true c13
              clear c13
              by_cases c14 : 0 ≤ x8_2
              · rw [if_pos c14] at H
                have c14b0 : decide (0 ≤ x8_2) = true := decide_eq_true c14
                clear c14
                by_cases c15 : ((rd_T40 t300 x8_2).f0) = 14
                · rw [if_pos c15] at H
                  have c15b0 : (((rd_T40 t300 x8_2).f0) == 14) = true := beq_iff_eq.mpr c15
                  have c15b1 : (((rd_T40 t300 x8_2).f0) != 14) = false := bne_eq_false_iff_eq.mpr c15
                  clear c15
                  by_cases c16 : ((rd_T40 t300 x8_2).f6) < 0
                  · rw [if_pos c16] at H
                    have c16b0 : decide (((rd_T40 t300 x8_2).f6) < 0) = true := decide_eq_true c16
                    clear c16
                    exact absurd ((Option.some.inj H).trans HT.out) (by decide)
                  · rw [if_neg c16] at H
                    have c16b0 : decide (((rd_T40 t300 x8_2).f6) < 0) = false := decide_eq_false c16
                    clear c16
                    by_cases c17 : ((rd_T40 t300 x8_2).f6) > 2
                    · rw [if_pos c17] at H
                      have c17b0 : decide (2 < ((rd_T40 t300 x8_2).f6)) = true := decide_eq_true c17
                      clear c17
                      exact absurd ((Option.some.inj H).trans HT.out) (by decide)
                    · rw [if_neg c17] at H
                      have c17b0 : decide (2 < ((rd_T40 t300 x8_2).f6)) = false := decide_eq_false c17
                      clear c17
                      by_cases c18 : x8_2 > 0
                      · rw [if_pos c18] at H
                        have c18b0 : decide (0 < x8_2) = true := decide_eq_true c18
                        clear c18
                        obtain ⟨ji19, hji19⟩ : ∃ j_ : Int, (wrap64 (x8_2 - 1)) = j_ := ⟨_, rfl⟩
                        replace H : (if 0 ≤ (ji19) then (if (ji19) < (t300.length : Int) then (if ((rd_T40 t300 x8_2).f5) ≤ ((rd_T40 t300 (ji19)).f5) then (some false) else (if ((rd_T40 t300 x8_2).f5) = 9 then (some false) else (if ((rd_T40 t300 x8_2).f5) = 19 then (some false) else (jobshelllaw34_TrapSettles.l0 k2 l0 l1 a2 t300 (wrap64 (x8_2 + 1)))))) else (none)) else (none)) = some r := by first | (rw [hji19] at H; exact H) | (simp only [hji19] at H ⊢; exact H)
                        have hji19w : (IntKind.i64.wrap (x8_2 - 1)) = ji19 := (i64_w _).trans hji19
                        by_cases c20 : 0 ≤ (ji19)
                        · rw [if_pos c20] at H
                          have c20b0 : decide (0 ≤ (ji19)) = true := decide_eq_true c20
                          clear c20
                          by_cases c21 : (ji19) < (t300.length : Int)
                          · rw [if_pos c21] at H
                            have c21b0 : decide ((ji19) < (t300.length : Int)) = true := decide_eq_true c21
                            clear c21
                            by_cases c22 : ((rd_T40 t300 x8_2).f5) ≤ ((rd_T40 t300 (ji19)).f5)
                            · rw [if_pos c22] at H
                              have c22b0 : decide (((rd_T40 t300 x8_2).f5) ≤ ((rd_T40 t300 (ji19)).f5)) = true := decide_eq_true c22
                              clear c22
                              exact absurd ((Option.some.inj H).trans HT.out) (by decide)
                            · rw [if_neg c22] at H
                              have c22b0 : decide (((rd_T40 t300 x8_2).f5) ≤ ((rd_T40 t300 (ji19)).f5)) = false := decide_eq_false c22
                              clear c22
                              by_cases c23 : ((rd_T40 t300 x8_2).f5) = 9
                              · rw [if_pos c23] at H
                                have c23b0 : (((rd_T40 t300 x8_2).f5) == 9) = true := beq_iff_eq.mpr c23
                                have c23b1 : (((rd_T40 t300 x8_2).f5) != 9) = false := bne_eq_false_iff_eq.mpr c23
                                clear c23
                                exact absurd ((Option.some.inj H).trans HT.out) (by decide)
                              · rw [if_neg c23] at H
                                have c23b0 : (((rd_T40 t300 x8_2).f5) == 9) = false := beq_eq_false_iff_ne.mpr c23
                                have c23b1 : (((rd_T40 t300 x8_2).f5) != 9) = true := bne_iff_ne.mpr c23
                                by_cases c24 : ((rd_T40 t300 x8_2).f5) = 19
                                · rw [if_pos c24] at H
                                  have c24b0 : (((rd_T40 t300 x8_2).f5) == 19) = true := beq_iff_eq.mpr c24
                                  have c24b1 : (((rd_T40 t300 x8_2).f5) != 19) = false := bne_eq_false_iff_eq.mpr c24
                                  clear c24
                                  exact absurd ((Option.some.inj H).trans HT.out) (by decide)
                                · rw [if_neg c24] at H
                                  have c24b0 : (((rd_T40 t300 x8_2).f5) == 19) = false := beq_eq_false_iff_ne.mpr c24
                                  have c24b1 : (((rd_T40 t300 x8_2).f5) != 19) = true := bne_iff_ne.mpr c24
                                  have H' := Aside0.mk H
                                  clear H
                                  obtain ⟨Ao25, co25, eo25⟩ := Kd.S_slice HO_7.out
                                  subst eo25
                                  have p303 : 0 ≤ (x8_2 : Int) := of_decide_eq_true (by first | (with_reducible assumption) | assumption)
                                  have q303 : x8_2 < (t300.length : Int) := of_decide_eq_true (by first | (with_reducible assumption) | assumption)
                                  obtain ⟨ad303, A303_10, c303_10, A303_11, c303_11, e303, hx303_0, hx303_1, hx303_2, hx303_3, hx303_4, hx303_5, hx303_6, hx303_7, hx303_8, hx303_9, hx303_10, hx303_11, hl303_10, hi303_10, hl303_11, hi303_11⟩ := at_T40 (Kd.S_reads' HO_7.out).2.2 x8_2 p303 q303
                                  cases e303
                                  obtain ⟨ce303, hce303, hMe303, hcc303⟩ := Kd.S_get HO_7.out z40 x8_2 p303 (by first | exact q303 | exact of_decide_eq_true (by first | (with_reducible assumption) | assumption) | (have e_ := (Kd.S_reads' HO_7.out).1; omega))
                                  obtain ⟨ve303_10, ve303_11, rfl, ge303_10, ge303_11⟩ := k40_openM hMe303
                                  have hv303_10 := hcc303 10 _ rfl
                                  rw [add_field _ _ 10 (by omega)] at hv303_10
                                  replace hv303_10 := Option.some.inj (hv303_10.symm.trans hx303_10)
                                  rw [hv303_10] at ge303_10
                                  have HL303_10 := Aside0.mk (show Kd.R Kd.string 9 _ _ _ _ ((rd_T40 t300 x8_2).f10) from ge303_10)
                                  clear hv303_10 ge303_10
                                  have hv303_11 := hcc303 11 _ rfl
                                  rw [add_field _ _ 11 (by omega)] at hv303_11
                                  replace hv303_11 := Option.some.inj (hv303_11.symm.trans hx303_11)
                                  rw [hv303_11] at ge303_11
                                  have HL303_11 := Aside0.mk (show Kd.R Kd.string 9 _ _ _ _ ((rd_T40 t300 x8_2).f11) from ge303_11)
                                  clear hv303_11 ge303_11
                                  clear hcc303 hce303
                                  have HR303_10 := Aside0.mk hi303_10
                                  have HC303_10 := Aside0.mk hl303_10
                                  clear hi303_10 hl303_10
                                  have HR303_11 := Aside0.mk hi303_11
                                  have HC303_11 := Aside0.mk hl303_11
                                  clear hi303_11 hl303_11
                                  replace p303 := eq_true p303
                                  replace q303 := eq_true q303
                                  have p304 : 0 ≤ (x8_2 : Int) := of_decide_eq_true (by first | (with_reducible assumption) | assumption)
                                  have q304 : x8_2 < (t300.length : Int) := of_decide_eq_true (by first | (with_reducible assumption) | assumption)
                                  obtain ⟨ad304, A304_10, c304_10, A304_11, c304_11, e304, hx304_0, hx304_1, hx304_2, hx304_3, hx304_4, hx304_5, hx304_6, hx304_7, hx304_8, hx304_9, hx304_10, hx304_11, hl304_10, hi304_10, hl304_11, hi304_11⟩ := at_T40 (Kd.S_reads' HO_7.out).2.2 x8_2 p304 q304
                                  obtain rfl : ad303 = ad304 := (by injection e304)
                                  obtain ⟨ce304, hce304, hMe304, hcc304⟩ := Kd.S_get HO_7.out z40 x8_2 p304 (by first | exact q304 | exact of_decide_eq_true (by first | (with_reducible assumption) | assumption) | (have e_ := (Kd.S_reads' HO_7.out).1; omega))
                                  obtain ⟨ve304_10, ve304_11, rfl, ge304_10, ge304_11⟩ := k40_openM hMe304
                                  have hv304_10 := hcc304 10 _ rfl
                                  rw [add_field _ _ 10 (by omega)] at hv304_10
                                  replace hv304_10 := Option.some.inj (hv304_10.symm.trans hx304_10)
                                  rw [hv304_10] at ge304_10
                                  have HL304_10 := Aside0.mk (show Kd.R Kd.string 9 _ _ _ _ ((rd_T40 t300 x8_2).f10) from ge304_10)
                                  clear hv304_10 ge304_10
                                  have hv304_11 := hcc304 11 _ rfl
                                  rw [add_field _ _ 11 (by omega)] at hv304_11
                                  replace hv304_11 := Option.some.inj (hv304_11.symm.trans hx304_11)
                                  rw [hv304_11] at ge304_11
                                  have HL304_11 := Aside0.mk (show Kd.R Kd.string 9 _ _ _ _ ((rd_T40 t300 x8_2).f11) from ge304_11)
                                  clear hv304_11 ge304_11
                                  clear hcc304 hce304
                                  have HR304_10 := Aside0.mk hi304_10
                                  have HC304_10 := Aside0.mk hl304_10
                                  clear hi304_10 hl304_10
                                  have HR304_11 := Aside0.mk hi304_11
                                  have HC304_11 := Aside0.mk hl304_11
                                  clear hi304_11 hl304_11
                                  replace p304 := eq_true p304
                                  replace q304 := eq_true q304
                                  have ea_ := Option.some.inj (hx303_10.symm.trans hx304_10)
                                  injection ea_ with ea_ en_ ec_
                                  subst ea_
                                  subst ec_
                                  clear en_
                                  have ea_ := Option.some.inj (hx303_11.symm.trans hx304_11)
                                  injection ea_ with ea_ en_ ec_
                                  subst ea_
                                  subst ec_
                                  clear en_
                                  have p305 : 0 ≤ (x8_2 : Int) := of_decide_eq_true (by first | (with_reducible assumption) | assumption)
                                  have q305 : x8_2 < (t300.length : Int) := of_decide_eq_true (by first | (with_reducible assumption) | assumption)
                                  obtain ⟨ad305, A305_10, c305_10, A305_11, c305_11, e305, hx305_0, hx305_1, hx305_2, hx305_3, hx305_4, hx305_5, hx305_6, hx305_7, hx305_8, hx305_9, hx305_10, hx305_11, hl305_10, hi305_10, hl305_11, hi305_11⟩ := at_T40 (Kd.S_reads' HO_7.out).2.2 x8_2 p305 q305
                                  obtain rfl : ad303 = ad305 := (by injection e305)
                                  obtain ⟨ce305, hce305, hMe305, hcc305⟩ := Kd.S_get HO_7.out z40 x8_2 p305 (by first | exact q305 | exact of_decide_eq_true (by first | (with_reducible assumption) | assumption) | (have e_ := (Kd.S_reads' HO_7.out).1; omega))
                                  obtain ⟨ve305_10, ve305_11, rfl, ge305_10, ge305_11⟩ := k40_openM hMe305
                                  have hv305_10 := hcc305 10 _ rfl
                                  rw [add_field _ _ 10 (by omega)] at hv305_10
                                  replace hv305_10 := Option.some.inj (hv305_10.symm.trans hx305_10)
                                  rw [hv305_10] at ge305_10
                                  have HL305_10 := Aside0.mk (show Kd.R Kd.string 9 _ _ _ _ ((rd_T40 t300 x8_2).f10) from ge305_10)
                                  clear hv305_10 ge305_10
                                  have hv305_11 := hcc305 11 _ rfl
                                  rw [add_field _ _ 11 (by omega)] at hv305_11
                                  replace hv305_11 := Option.some.inj (hv305_11.symm.trans hx305_11)
                                  rw [hv305_11] at ge305_11
                                  have HL305_11 := Aside0.mk (show Kd.R Kd.string 9 _ _ _ _ ((rd_T40 t300 x8_2).f11) from ge305_11)
                                  clear hv305_11 ge305_11
                                  clear hcc305 hce305
                                  have HR305_10 := Aside0.mk hi305_10
                                  have HC305_10 := Aside0.mk hl305_10
                                  clear hi305_10 hl305_10
                                  have HR305_11 := Aside0.mk hi305_11
                                  have HC305_11 := Aside0.mk hl305_11
                                  clear hi305_11 hl305_11
                                  replace p305 := eq_true p305
                                  replace q305 := eq_true q305
                                  have ea_ := Option.some.inj (hx303_10.symm.trans hx305_10)
                                  injection ea_ with ea_ en_ ec_
                                  subst ea_
                                  subst ec_
                                  clear en_
                                  have ea_ := Option.some.inj (hx303_11.symm.trans hx305_11)
                                  injection ea_ with ea_ en_ ec_
                                  subst ea_
                                  subst ec_
                                  clear en_
                                  have p306 : 0 ≤ (x8_2 : Int) := of_decide_eq_true (by first | (with_reducible assumption) | assumption)
                                  have q306 : x8_2 < (t300.length : Int) := of_decide_eq_true (by first | (with_reducible assumption) | assumption)
                                  obtain ⟨ad306, A306_10, c306_10, A306_11, c306_11, e306, hx306_0, hx306_1, hx306_2, hx306_3, hx306_4, hx306_5, hx306_6, hx306_7, hx306_8, hx306_9, hx306_10, hx306_11, hl306_10, hi306_10, hl306_11, hi306_11⟩ := at_T40 (Kd.S_reads' HO_7.out).2.2 x8_2 p306 q306
                                  obtain rfl : ad303 = ad306 := (by injection e306)
                                  obtain ⟨ce306, hce306, hMe306, hcc306⟩ := Kd.S_get HO_7.out z40 x8_2 p306 (by first | exact q306 | exact of_decide_eq_true (by first | (with_reducible assumption) | assumption) | (have e_ := (Kd.S_reads' HO_7.out).1; omega))
                                  obtain ⟨ve306_10, ve306_11, rfl, ge306_10, ge306_11⟩ := k40_openM hMe306
                                  have hv306_10 := hcc306 10 _ rfl
                                  rw [add_field _ _ 10 (by omega)] at hv306_10
                                  replace hv306_10 := Option.some.inj (hv306_10.symm.trans hx306_10)
                                  rw [hv306_10] at ge306_10
                                  have HL306_10 := Aside0.mk (show Kd.R Kd.string 9 _ _ _ _ ((rd_T40 t300 x8_2).f10) from ge306_10)
                                  clear hv306_10 ge306_10
                                  have hv306_11 := hcc306 11 _ rfl
                                  rw [add_field _ _ 11 (by omega)] at hv306_11
                                  replace hv306_11 := Option.some.inj (hv306_11.symm.trans hx306_11)
                                  rw [hv306_11] at ge306_11
                                  have HL306_11 := Aside0.mk (show Kd.R Kd.string 9 _ _ _ _ ((rd_T40 t300 x8_2).f11) from ge306_11)
                                  clear hv306_11 ge306_11
                                  clear hcc306 hce306
                                  have HR306_10 := Aside0.mk hi306_10
                                  have HC306_10 := Aside0.mk hl306_10
                                  clear hi306_10 hl306_10
                                  have HR306_11 := Aside0.mk hi306_11
                                  have HC306_11 := Aside0.mk hl306_11
                                  clear hi306_11 hl306_11
                                  replace p306 := eq_true p306
                                  replace q306 := eq_true q306
                                  have ea_ := Option.some.inj (hx303_10.symm.trans hx306_10)
                                  injection ea_ with ea_ en_ ec_
                                  subst ea_
                                  subst ec_
                                  clear en_
                                  have ea_ := Option.some.inj (hx303_11.symm.trans hx306_11)
                                  injection ea_ with ea_ en_ ec_
                                  subst ea_
                                  subst ec_
                                  clear en_
                                  have p307 : 0 ≤ ((ji19) : Int) := of_decide_eq_true (by first | (with_reducible assumption) | assumption)
                                  have q307 : (ji19) < (t300.length : Int) := of_decide_eq_true (by first | (with_reducible assumption) | assumption)
                                  obtain ⟨ad307, A307_10, c307_10, A307_11, c307_11, e307, hx307_0, hx307_1, hx307_2, hx307_3, hx307_4, hx307_5, hx307_6, hx307_7, hx307_8, hx307_9, hx307_10, hx307_11, hl307_10, hi307_10, hl307_11, hi307_11⟩ := at_T40 (Kd.S_reads' HO_7.out).2.2 (ji19) p307 q307
                                  obtain rfl : ad303 = ad307 := (by injection e307)
                                  obtain ⟨ce307, hce307, hMe307, hcc307⟩ := Kd.S_get HO_7.out z40 (ji19) p307 (by first | exact q307 | exact of_decide_eq_true (by first | (with_reducible assumption) | assumption) | (have e_ := (Kd.S_reads' HO_7.out).1; omega))
                                  obtain ⟨ve307_10, ve307_11, rfl, ge307_10, ge307_11⟩ := k40_openM hMe307
                                  have hv307_10 := hcc307 10 _ rfl
                                  rw [add_field _ _ 10 (by omega)] at hv307_10
                                  replace hv307_10 := Option.some.inj (hv307_10.symm.trans hx307_10)
                                  rw [hv307_10] at ge307_10
                                  have HL307_10 := Aside0.mk (show Kd.R Kd.string 9 _ _ _ _ ((rd_T40 t300 (ji19)).f10) from ge307_10)
                                  clear hv307_10 ge307_10
                                  have hv307_11 := hcc307 11 _ rfl
                                  rw [add_field _ _ 11 (by omega)] at hv307_11
                                  replace hv307_11 := Option.some.inj (hv307_11.symm.trans hx307_11)
                                  rw [hv307_11] at ge307_11
                                  have HL307_11 := Aside0.mk (show Kd.R Kd.string 9 _ _ _ _ ((rd_T40 t300 (ji19)).f11) from ge307_11)
                                  clear hv307_11 ge307_11
                                  clear hcc307 hce307
                                  have HR307_10 := Aside0.mk hi307_10
                                  have HC307_10 := Aside0.mk hl307_10
                                  clear hi307_10 hl307_10
                                  have HR307_11 := Aside0.mk hi307_11
                                  have HC307_11 := Aside0.mk hl307_11
                                  clear hi307_11 hl307_11
                                  replace p307 := eq_true p307
                                  replace q307 := eq_true q307
                                  have p308 : 0 ≤ (x8_2 : Int) := of_decide_eq_true (by first | (with_reducible assumption) | assumption)
                                  have q308 : x8_2 < (t300.length : Int) := of_decide_eq_true (by first | (with_reducible assumption) | assumption)
                                  obtain ⟨ad308, A308_10, c308_10, A308_11, c308_11, e308, hx308_0, hx308_1, hx308_2, hx308_3, hx308_4, hx308_5, hx308_6, hx308_7, hx308_8, hx308_9, hx308_10, hx308_11, hl308_10, hi308_10, hl308_11, hi308_11⟩ := at_T40 (Kd.S_reads' HO_7.out).2.2 x8_2 p308 q308
                                  obtain rfl : ad303 = ad308 := (by injection e308)
                                  obtain ⟨ce308, hce308, hMe308, hcc308⟩ := Kd.S_get HO_7.out z40 x8_2 p308 (by first | exact q308 | exact of_decide_eq_true (by first | (with_reducible assumption) | assumption) | (have e_ := (Kd.S_reads' HO_7.out).1; omega))
                                  obtain ⟨ve308_10, ve308_11, rfl, ge308_10, ge308_11⟩ := k40_openM hMe308
                                  have hv308_10 := hcc308 10 _ rfl
                                  rw [add_field _ _ 10 (by omega)] at hv308_10
                                  replace hv308_10 := Option.some.inj (hv308_10.symm.trans hx308_10)
                                  rw [hv308_10] at ge308_10
                                  have HL308_10 := Aside0.mk (show Kd.R Kd.string 9 _ _ _ _ ((rd_T40 t300 x8_2).f10) from ge308_10)
                                  clear hv308_10 ge308_10
                                  have hv308_11 := hcc308 11 _ rfl
                                  rw [add_field _ _ 11 (by omega)] at hv308_11
                                  replace hv308_11 := Option.some.inj (hv308_11.symm.trans hx308_11)
                                  rw [hv308_11] at ge308_11
                                  have HL308_11 := Aside0.mk (show Kd.R Kd.string 9 _ _ _ _ ((rd_T40 t300 x8_2).f11) from ge308_11)
                                  clear hv308_11 ge308_11
                                  clear hcc308 hce308
                                  have HR308_10 := Aside0.mk hi308_10
                                  have HC308_10 := Aside0.mk hl308_10
                                  clear hi308_10 hl308_10
                                  have HR308_11 := Aside0.mk hi308_11
                                  have HC308_11 := Aside0.mk hl308_11
                                  clear hi308_11 hl308_11
                                  replace p308 := eq_true p308
                                  replace q308 := eq_true q308
                                  have ea_ := Option.some.inj (hx303_10.symm.trans hx308_10)
                                  injection ea_ with ea_ en_ ec_
                                  subst ea_
                                  subst ec_
                                  clear en_
                                  have ea_ := Option.some.inj (hx303_11.symm.trans hx308_11)
                                  injection ea_ with ea_ en_ ec_
                                  subst ea_
                                  subst ec_
                                  clear en_
                                  have p309 : 0 ≤ (x8_2 : Int) := of_decide_eq_true (by first | (with_reducible assumption) | assumption)
                                  have q309 : x8_2 < (t300.length : Int) := of_decide_eq_true (by first | (with_reducible assumption) | assumption)
                                  obtain ⟨ad309, A309_10, c309_10, A309_11, c309_11, e309, hx309_0, hx309_1, hx309_2, hx309_3, hx309_4, hx309_5, hx309_6, hx309_7, hx309_8, hx309_9, hx309_10, hx309_11, hl309_10, hi309_10, hl309_11, hi309_11⟩ := at_T40 (Kd.S_reads' HO_7.out).2.2 x8_2 p309 q309
                                  obtain rfl : ad303 = ad309 := (by injection e309)
                                  obtain ⟨ce309, hce309, hMe309, hcc309⟩ := Kd.S_get HO_7.out z40 x8_2 p309 (by first | exact q309 | exact of_decide_eq_true (by first | (with_reducible assumption) | assumption) | (have e_ := (Kd.S_reads' HO_7.out).1; omega))
                                  obtain ⟨ve309_10, ve309_11, rfl, ge309_10, ge309_11⟩ := k40_openM hMe309
                                  have hv309_10 := hcc309 10 _ rfl
                                  rw [add_field _ _ 10 (by omega)] at hv309_10
                                  replace hv309_10 := Option.some.inj (hv309_10.symm.trans hx309_10)
                                  rw [hv309_10] at ge309_10
                                  have HL309_10 := Aside0.mk (show Kd.R Kd.string 9 _ _ _ _ ((rd_T40 t300 x8_2).f10) from ge309_10)
                                  clear hv309_10 ge309_10
                                  have hv309_11 := hcc309 11 _ rfl
                                  rw [add_field _ _ 11 (by omega)] at hv309_11
                                  replace hv309_11 := Option.some.inj (hv309_11.symm.trans hx309_11)
                                  rw [hv309_11] at ge309_11
                                  have HL309_11 := Aside0.mk (show Kd.R Kd.string 9 _ _ _ _ ((rd_T40 t300 x8_2).f11) from ge309_11)
                                  clear hv309_11 ge309_11
                                  clear hcc309 hce309
                                  have HR309_10 := Aside0.mk hi309_10
                                  have HC309_10 := Aside0.mk hl309_10
                                  clear hi309_10 hl309_10
                                  have HR309_11 := Aside0.mk hi309_11
                                  have HC309_11 := Aside0.mk hl309_11
                                  clear hi309_11 hl309_11
                                  replace p309 := eq_true p309
                                  replace q309 := eq_true q309
                                  have ea_ := Option.some.inj (hx303_10.symm.trans hx309_10)
                                  injection ea_ with ea_ en_ ec_
                                  subst ea_
                                  subst ec_
                                  clear en_
                                  have ea_ := Option.some.inj (hx303_11.symm.trans hx309_11)
                                  injection ea_ with ea_ en_ ec_
                                  subst ea_
                                  subst ec_
                                  clear en_
                                  go_wp2
                                  repeat (go_quiet (fail); try go_wp2)
                                  go_roundg k2
                                  case measure => have := HJ3.out; have := HK2.out; omega
                                  case rel => exact ⟨(wrap64 (x8_2 + 1)), (by first | rfl | (simp; done) | (simp [*]; done) | exact congrArg (fun b => Ending.returned (Value.bool b)) (Ch.bne_nil _)), H', ⟨by have := HJ3.out; have := HK2.out; omega⟩, ⟨by (with_reducible repeat (first | apply Kd.S_alloc | apply Kd.S_drewN | apply Kd.S_drew)); exact HO_7.out⟩, ⟨by repeat (first | (with_reducible first | exact HB.out | apply below_alloc | apply pw_below_drewN | apply below_drew1) | exact HB.out)⟩⟩
                          · rw [if_neg c21] at H
                            exact absurd H (by simp)
                        · rw [if_neg c20] at H
                          exact absurd H (by simp)
                      · rw [if_neg c18] at H
                        have c18b0 : decide (0 < x8_2) = false := decide_eq_false c18
                        clear c18
                        by_cases c26 : ((rd_T40 t300 x8_2).f5) = 9
                        · rw [if_pos c26] at H
                          have c26b0 : (((rd_T40 t300 x8_2).f5) == 9) = true := beq_iff_eq.mpr c26
                          have c26b1 : (((rd_T40 t300 x8_2).f5) != 9) = false := bne_eq_false_iff_eq.mpr c26
                          clear c26
                          exact absurd ((Option.some.inj H).trans HT.out) (by decide)
                        · rw [if_neg c26] at H
                          have c26b0 : (((rd_T40 t300 x8_2).f5) == 9) = false := beq_eq_false_iff_ne.mpr c26
                          have c26b1 : (((rd_T40 t300 x8_2).f5) != 9) = true := bne_iff_ne.mpr c26
                          by_cases c27 : ((rd_T40 t300 x8_2).f5) = 19
                          · rw [if_pos c27] at H
                            have c27b0 : (((rd_T40 t300 x8_2).f5) == 19) = true := beq_iff_eq.mpr c27
                            have c27b1 : (((rd_T40 t300 x8_2).f5) != 19) = false := bne_eq_false_iff_eq.mpr c27
                            clear c27
                            exact absurd ((Option.some.inj H).trans HT.out) (by decide)
                          · rw [if_neg c27] at H
                            have c27b0 : (((rd_T40 t300 x8_2).f5) == 19) = false := beq_eq_false_iff_ne.mpr c27
                            have c27b1 : (((rd_T40 t300 x8_2).f5) != 19) = true := bne_iff_ne.mpr c27
                            have H' := Aside0.mk H
                            clear H
                            obtain ⟨Ao28, co28, eo28⟩ := Kd.S_slice HO_7.out
                            subst eo28
                            have p303 : 0 ≤ (x8_2 : Int) := of_decide_eq_true (by first | (with_reducible assumption) | assumption)
                            have q303 : x8_2 < (t300.length : Int) := of_decide_eq_true (by first | (with_reducible assumption) | assumption)
                            obtain ⟨ad303, A303_10, c303_10, A303_11, c303_11, e303, hx303_0, hx303_1, hx303_2, hx303_3, hx303_4, hx303_5, hx303_6, hx303_7, hx303_8, hx303_9, hx303_10, hx303_11, hl303_10, hi303_10, hl303_11, hi303_11⟩ := at_T40 (Kd.S_reads' HO_7.out).2.2 x8_2 p303 q303
                            cases e303
                            obtain ⟨ce303, hce303, hMe303, hcc303⟩ := Kd.S_get HO_7.out z40 x8_2 p303 (by first | exact q303 | exact of_decide_eq_true (by first | (with_reducible assumption) | assumption) | (have e_ := (Kd.S_reads' HO_7.out).1; omega))
                            obtain ⟨ve303_10, ve303_11, rfl, ge303_10, ge303_11⟩ := k40_openM hMe303
                            have hv303_10 := hcc303 10 _ rfl
                            rw [add_field _ _ 10 (by omega)] at hv303_10
                            replace hv303_10 := Option.some.inj (hv303_10.symm.trans hx303_10)
                            rw [hv303_10] at ge303_10
                            have HL303_10 := Aside0.mk (show Kd.R Kd.string 9 _ _ _ _ ((rd_T40 t300 x8_2).f10) from ge303_10)
                            clear hv303_10 ge303_10
                            have hv303_11 := hcc303 11 _ rfl
                            rw [add_field _ _ 11 (by omega)] at hv303_11
                            replace hv303_11 := Option.some.inj (hv303_11.symm.trans hx303_11)
                            rw [hv303_11] at ge303_11
                            have HL303_11 := Aside0.mk (show Kd.R Kd.string 9 _ _ _ _ ((rd_T40 t300 x8_2).f11) from ge303_11)
                            clear hv303_11 ge303_11
                            clear hcc303 hce303
                            have HR303_10 := Aside0.mk hi303_10
                            have HC303_10 := Aside0.mk hl303_10
                            clear hi303_10 hl303_10
                            have HR303_11 := Aside0.mk hi303_11
                            have HC303_11 := Aside0.mk hl303_11
                            clear hi303_11 hl303_11
                            replace p303 := eq_true p303
                            replace q303 := eq_true q303
                            have p304 : 0 ≤ (x8_2 : Int) := of_decide_eq_true (by first | (with_reducible assumption) | assumption)
                            have q304 : x8_2 < (t300.length : Int) := of_decide_eq_true (by first | (with_reducible assumption) | assumption)
                            obtain ⟨ad304, A304_10, c304_10, A304_11, c304_11, e304, hx304_0, hx304_1, hx304_2, hx304_3, hx304_4, hx304_5, hx304_6, hx304_7, hx304_8, hx304_9, hx304_10, hx304_11, hl304_10, hi304_10, hl304_11, hi304_11⟩ := at_T40 (Kd.S_reads' HO_7.out).2.2 x8_2 p304 q304
                            obtain rfl : ad303 = ad304 := (by injection e304)
                            obtain ⟨ce304, hce304, hMe304, hcc304⟩ := Kd.S_get HO_7.out z40 x8_2 p304 (by first | exact q304 | exact of_decide_eq_true (by first | (with_reducible assumption) | assumption) | (have e_ := (Kd.S_reads' HO_7.out).1; omega))
                            obtain ⟨ve304_10, ve304_11, rfl, ge304_10, ge304_11⟩ := k40_openM hMe304
                            have hv304_10 := hcc304 10 _ rfl
                            rw [add_field _ _ 10 (by omega)] at hv304_10
                            replace hv304_10 := Option.some.inj (hv304_10.symm.trans hx304_10)
                            rw [hv304_10] at ge304_10
                            have HL304_10 := Aside0.mk (show Kd.R Kd.string 9 _ _ _ _ ((rd_T40 t300 x8_2).f10) from ge304_10)
                            clear hv304_10 ge304_10
                            have hv304_11 := hcc304 11 _ rfl
                            rw [add_field _ _ 11 (by omega)] at hv304_11
                            replace hv304_11 := Option.some.inj (hv304_11.symm.trans hx304_11)
                            rw [hv304_11] at ge304_11
                            have HL304_11 := Aside0.mk (show Kd.R Kd.string 9 _ _ _ _ ((rd_T40 t300 x8_2).f11) from ge304_11)
                            clear hv304_11 ge304_11
                            clear hcc304 hce304
                            have HR304_10 := Aside0.mk hi304_10
                            have HC304_10 := Aside0.mk hl304_10
                            clear hi304_10 hl304_10
                            have HR304_11 := Aside0.mk hi304_11
                            have HC304_11 := Aside0.mk hl304_11
                            clear hi304_11 hl304_11
                            replace p304 := eq_true p304
                            replace q304 := eq_true q304
                            have ea_ := Option.some.inj (hx303_10.symm.trans hx304_10)
                            injection ea_ with ea_ en_ ec_
                            subst ea_
                            subst ec_
                            clear en_
                            have ea_ := Option.some.inj (hx303_11.symm.trans hx304_11)
                            injection ea_ with ea_ en_ ec_
                            subst ea_
                            subst ec_
                            clear en_
                            have p305 : 0 ≤ (x8_2 : Int) := of_decide_eq_true (by first | (with_reducible assumption) | assumption)
                            have q305 : x8_2 < (t300.length : Int) := of_decide_eq_true (by first | (with_reducible assumption) | assumption)
                            obtain ⟨ad305, A305_10, c305_10, A305_11, c305_11, e305, hx305_0, hx305_1, hx305_2, hx305_3, hx305_4, hx305_5, hx305_6, hx305_7, hx305_8, hx305_9, hx305_10, hx305_11, hl305_10, hi305_10, hl305_11, hi305_11⟩ := at_T40 (Kd.S_reads' HO_7.out).2.2 x8_2 p305 q305
                            obtain rfl : ad303 = ad305 := (by injection e305)
                            obtain ⟨ce305, hce305, hMe305, hcc305⟩ := Kd.S_get HO_7.out z40 x8_2 p305 (by first | exact q305 | exact of_decide_eq_true (by first | (with_reducible assumption) | assumption) | (have e_ := (Kd.S_reads' HO_7.out).1; omega))
                            obtain ⟨ve305_10, ve305_11, rfl, ge305_10, ge305_11⟩ := k40_openM hMe305
                            have hv305_10 := hcc305 10 _ rfl
                            rw [add_field _ _ 10 (by omega)] at hv305_10
                            replace hv305_10 := Option.some.inj (hv305_10.symm.trans hx305_10)
                            rw [hv305_10] at ge305_10
                            have HL305_10 := Aside0.mk (show Kd.R Kd.string 9 _ _ _ _ ((rd_T40 t300 x8_2).f10) from ge305_10)
                            clear hv305_10 ge305_10
                            have hv305_11 := hcc305 11 _ rfl
                            rw [add_field _ _ 11 (by omega)] at hv305_11
                            replace hv305_11 := Option.some.inj (hv305_11.symm.trans hx305_11)
                            rw [hv305_11] at ge305_11
                            have HL305_11 := Aside0.mk (show Kd.R Kd.string 9 _ _ _ _ ((rd_T40 t300 x8_2).f11) from ge305_11)
                            clear hv305_11 ge305_11
                            clear hcc305 hce305
                            have HR305_10 := Aside0.mk hi305_10
                            have HC305_10 := Aside0.mk hl305_10
                            clear hi305_10 hl305_10
                            have HR305_11 := Aside0.mk hi305_11
                            have HC305_11 := Aside0.mk hl305_11
                            clear hi305_11 hl305_11
                            replace p305 := eq_true p305
                            replace q305 := eq_true q305
                            have ea_ := Option.some.inj (hx303_10.symm.trans hx305_10)
                            injection ea_ with ea_ en_ ec_
                            subst ea_
                            subst ec_
                            clear en_
                            have ea_ := Option.some.inj (hx303_11.symm.trans hx305_11)
                            injection ea_ with ea_ en_ ec_
                            subst ea_
                            subst ec_
                            clear en_
                            have p310 : 0 ≤ (x8_2 : Int) := of_decide_eq_true (by first | (with_reducible assumption) | assumption)
                            have q310 : x8_2 < (t300.length : Int) := of_decide_eq_true (by first | (with_reducible assumption) | assumption)
                            obtain ⟨ad310, A310_10, c310_10, A310_11, c310_11, e310, hx310_0, hx310_1, hx310_2, hx310_3, hx310_4, hx310_5, hx310_6, hx310_7, hx310_8, hx310_9, hx310_10, hx310_11, hl310_10, hi310_10, hl310_11, hi310_11⟩ := at_T40 (Kd.S_reads' HO_7.out).2.2 x8_2 p310 q310
                            obtain rfl : ad303 = ad310 := (by injection e310)
                            obtain ⟨ce310, hce310, hMe310, hcc310⟩ := Kd.S_get HO_7.out z40 x8_2 p310 (by first | exact q310 | exact of_decide_eq_true (by first | (with_reducible assumption) | assumption) | (have e_ := (Kd.S_reads' HO_7.out).1; omega))
                            obtain ⟨ve310_10, ve310_11, rfl, ge310_10, ge310_11⟩ := k40_openM hMe310
                            have hv310_10 := hcc310 10 _ rfl
                            rw [add_field _ _ 10 (by omega)] at hv310_10
                            replace hv310_10 := Option.some.inj (hv310_10.symm.trans hx310_10)
                            rw [hv310_10] at ge310_10
                            have HL310_10 := Aside0.mk (show Kd.R Kd.string 9 _ _ _ _ ((rd_T40 t300 x8_2).f10) from ge310_10)
                            clear hv310_10 ge310_10
                            have hv310_11 := hcc310 11 _ rfl
                            rw [add_field _ _ 11 (by omega)] at hv310_11
                            replace hv310_11 := Option.some.inj (hv310_11.symm.trans hx310_11)
                            rw [hv310_11] at ge310_11
                            have HL310_11 := Aside0.mk (show Kd.R Kd.string 9 _ _ _ _ ((rd_T40 t300 x8_2).f11) from ge310_11)
                            clear hv310_11 ge310_11
                            clear hcc310 hce310
                            have HR310_10 := Aside0.mk hi310_10
                            have HC310_10 := Aside0.mk hl310_10
                            clear hi310_10 hl310_10
                            have HR310_11 := Aside0.mk hi310_11
                            have HC310_11 := Aside0.mk hl310_11
                            clear hi310_11 hl310_11
                            replace p310 := eq_true p310
                            replace q310 := eq_true q310
                            have ea_ := Option.some.inj (hx303_10.symm.trans hx310_10)
                            injection ea_ with ea_ en_ ec_
                            subst ea_
                            subst ec_
                            clear en_
                            have ea_ := Option.some.inj (hx303_11.symm.trans hx310_11)
                            injection ea_ with ea_ en_ ec_
                            subst ea_
                            subst ec_
                            clear en_
                            have p311 : 0 ≤ (x8_2 : Int) := of_decide_eq_true (by first | (with_reducible assumption) | assumption)
                            have q311 : x8_2 < (t300.length : Int) := of_decide_eq_true (by first | (with_reducible assumption) | assumption)
                            obtain ⟨ad311, A311_10, c311_10, A311_11, c311_11, e311, hx311_0, hx311_1, hx311_2, hx311_3, hx311_4, hx311_5, hx311_6, hx311_7, hx311_8, hx311_9, hx311_10, hx311_11, hl311_10, hi311_10, hl311_11, hi311_11⟩ := at_T40 (Kd.S_reads' HO_7.out).2.2 x8_2 p311 q311
                            obtain rfl : ad303 = ad311 := (by injection e311)
                            obtain ⟨ce311, hce311, hMe311, hcc311⟩ := Kd.S_get HO_7.out z40 x8_2 p311 (by first | exact q311 | exact of_decide_eq_true (by first | (with_reducible assumption) | assumption) | (have e_ := (Kd.S_reads' HO_7.out).1; omega))
                            obtain ⟨ve311_10, ve311_11, rfl, ge311_10, ge311_11⟩ := k40_openM hMe311
                            have hv311_10 := hcc311 10 _ rfl
                            rw [add_field _ _ 10 (by omega)] at hv311_10
                            replace hv311_10 := Option.some.inj (hv311_10.symm.trans hx311_10)
                            rw [hv311_10] at ge311_10
                            have HL311_10 := Aside0.mk (show Kd.R Kd.string 9 _ _ _ _ ((rd_T40 t300 x8_2).f10) from ge311_10)
                            clear hv311_10 ge311_10
                            have hv311_11 := hcc311 11 _ rfl
                            rw [add_field _ _ 11 (by omega)] at hv311_11
                            replace hv311_11 := Option.some.inj (hv311_11.symm.trans hx311_11)
                            rw [hv311_11] at ge311_11
                            have HL311_11 := Aside0.mk (show Kd.R Kd.string 9 _ _ _ _ ((rd_T40 t300 x8_2).f11) from ge311_11)
                            clear hv311_11 ge311_11
                            clear hcc311 hce311
                            have HR311_10 := Aside0.mk hi311_10
                            have HC311_10 := Aside0.mk hl311_10
                            clear hi311_10 hl311_10
                            have HR311_11 := Aside0.mk hi311_11
                            have HC311_11 := Aside0.mk hl311_11
                            clear hi311_11 hl311_11
                            replace p311 := eq_true p311
                            replace q311 := eq_true q311
                            have ea_ := Option.some.inj (hx303_10.symm.trans hx311_10)
                            injection ea_ with ea_ en_ ec_
                            subst ea_
                            subst ec_
                            clear en_
                            have ea_ := Option.some.inj (hx303_11.symm.trans hx311_11)
                            injection ea_ with ea_ en_ ec_
                            subst ea_
                            subst ec_
                            clear en_
                            go_wp2
                            repeat (go_quiet (fail); try go_wp2)
                            go_roundg k2
                            case measure => have := HJ3.out; have := HK2.out; omega
                            case rel => exact ⟨(wrap64 (x8_2 + 1)), (by first | rfl | (simp; done) | (simp [*]; done) | exact congrArg (fun b => Ending.returned (Value.bool b)) (Ch.bne_nil _)), H', ⟨by have := HJ3.out; have := HK2.out; omega⟩, ⟨by (with_reducible repeat (first | apply Kd.S_alloc | apply Kd.S_drewN | apply Kd.S_drew)); exact HO_7.out⟩, ⟨by repeat (first | (with_reducible first | exact HB.out | apply below_alloc | apply pw_below_drewN | apply below_drew1) | exact HB.out)⟩⟩
                · rw [if_neg c15] at H
                  have c15b0 : (((rd_T40 t300 x8_2).f0) == 14) = false := beq_eq_false_iff_ne.mpr c15
                  have c15b1 : (((rd_T40 t300 x8_2).f0) != 14) = true := bne_iff_ne.mpr c15
                  exact absurd ((Option.some.inj H).trans HT.out) (by decide)
              · rw [if_neg c14] at H
                exact absurd H (by simp)
            · rw [if_neg c13] at H
              have c13b0 : decide (x8_2 < (t300.length : Int)) = false := decide_eq_false c13
              clear c13
              replace H := Option.bind_eq_some_iff.mp H
              obtain ⟨t312, A290, H⟩ := H
              replace H : ((trap_Requests.f k2 l1 l1 a2).bind fun t315 => (if (t315.length : Int) = 0 then (if (t312.length : Int) = (t300.length : Int) then ((jobshelllaw34_awake.f k2).bind fun t318 => (some t318)) else (some false)) else (some false))) = some r := H
              have A29 := Aside0.mk A290
              clear A290
              replace H := Option.bind_eq_some_iff.mp H
              obtain ⟨t315, A300, H⟩ := H
              replace H : (if (t315.length : Int) = 0 then (if (t312.length : Int) = (t300.length : Int) then ((jobshelllaw34_awake.f k2).bind fun t318 => (some t318)) else (some false)) else (some false)) = some r := H
              have A30 := Aside0.mk A300
              clear A300
              by_cases c31 : (t315.length : Int) = 0
              · rw [if_pos c31] at H
                have c31b0 : ((t315.length : Int) == 0) = true := beq_iff_eq.mpr c31
                have c31b1 : ((t315.length : Int) != 0) = false := bne_eq_false_iff_eq.mpr c31
                clear c31
                by_cases c32 : (t312.length : Int) = (t300.length : Int)
                · rw [if_pos c32] at H
                  have c32b0 : ((t312.length : Int) == (t300.length : Int)) = true := beq_iff_eq.mpr c32
                  have c32b1 : ((t312.length : Int) != (t300.length : Int)) = false := bne_eq_false_iff_eq.mpr c32
                  have c32b2 : (t312.length == t300.length) = true := by first | simpa using c32 | (simp at c32 ⊢; omega)
                  clear c32
                  replace H := Option.bind_eq_some_iff.mp H
                  obtain ⟨t318, A330, H⟩ := H
                  replace H : (some t318) = some r := H
                  have A33 := Aside0.mk A330
                  clear A330
                  obtain rfl := Option.some.inj H
                  obtain ⟨Ao34, co34, eo34⟩ := Kd.S_slice HO_7.out
                  subst eo34
                  go_wp2_with (first | (go_at_call 17; (with_reducible refine (trap_Requests.calls k2 _ _ l1 _ _ l0 a2 t312 _ ?side1 ?side2 ?side3 ?side4 A29.out).mono ?_); (case side1 => repeat (first | exact (Kd.C_below HR1.out HB.out) | (with_reducible refine Kd.C_alloc ?_ _) | (with_reducible refine Kd.C_drewN ?_ _) | (with_reducible refine Kd.C_drew ?_))); (case side2 => exact HC1.out); (case side3 => repeat (first | exact (Kd.C_below HR0.out HB.out) | (with_reducible refine Kd.C_alloc ?_ _) | (with_reducible refine Kd.C_drewN ?_ _) | (with_reducible refine Kd.C_drew ?_))); (case side4 => exact HC0.out); rintro e w35 ⟨v313, rfl, ho0, hb⟩; have n0_ := Aside0.mk (Kd.S_elder' (by (with_reducible repeat (first | apply Kd.S_alloc | apply Kd.S_drewN | apply Kd.S_drew)); exact HO_7.out) (Kd.S_base ho0) hb); have n1_ := Aside0.mk (Kd.S_lower (Kd.S_new' ho0 (Kd.S_lt (by (with_reducible repeat (first | apply Kd.S_alloc | apply Kd.S_drewN | apply Kd.S_drew)); exact HO_7.out))) (below_size (by repeat (first | (with_reducible first | exact HB.out | apply below_alloc | apply pw_below_drewN | apply below_drew1) | exact HB.out)))); have n2_ := Aside0.mk (below_step (by repeat (first | (with_reducible first | exact HB.out | apply below_alloc | apply pw_below_drewN | apply below_drew1) | exact HB.out)) hb); clear HO_7; clear HB; have HO_7 := n0_; have HO314 := n1_; have HB := n2_; clear n0_ n1_ n2_; (try clear hb); (try clear hb2); (try clear hk); (try clear hi); (try clear ho0)) | (go_at_call 17; (with_reducible refine (trap_Requests.calls k2 _ _ l1 _ _ l1 a2 t315 _ ?side1 ?side2 ?side3 ?side4 A30.out).mono ?_); (case side1 => repeat (first | exact (Kd.C_below HR1.out HB.out) | (with_reducible refine Kd.C_alloc ?_ _) | (with_reducible refine Kd.C_drewN ?_ _) | (with_reducible refine Kd.C_drew ?_))); (case side2 => exact HC1.out); (case side3 => repeat (first | exact (Kd.C_below HR1.out HB.out) | (with_reducible refine Kd.C_alloc ?_ _) | (with_reducible refine Kd.C_drewN ?_ _) | (with_reducible refine Kd.C_drew ?_))); (case side4 => exact HC1.out); rintro e w36 ⟨v316, rfl, ho0, hb⟩; have n0_ := Aside0.mk (Kd.S_elder' (by (with_reducible repeat (first | apply Kd.S_alloc | apply Kd.S_drewN | apply Kd.S_drew)); exact HO_7.out) (Kd.S_base ho0) hb); have n1_ := Aside0.mk (Kd.S_elder' (by (with_reducible repeat (first | apply Kd.S_alloc | apply Kd.S_drewN | apply Kd.S_drew)); exact HO314.out) (Kd.S_base ho0) hb); have n2_ := Aside0.mk (Kd.S_lower (Kd.S_new' (Kd.S_new' ho0 (Kd.S_lt (by (with_reducible repeat (first | apply Kd.S_alloc | apply Kd.S_drewN | apply Kd.S_drew)); exact HO_7.out))) (Kd.S_lt (by (with_reducible repeat (first | apply Kd.S_alloc | apply Kd.S_drewN | apply Kd.S_drew)); exact HO314.out))) (below_size (by repeat (first | (with_reducible first | exact HB.out | apply below_alloc | apply pw_below_drewN | apply below_drew1) | exact HB.out)))); have n3_ := Aside0.mk (below_step (by repeat (first | (with_reducible first | exact HB.out | apply below_alloc | apply pw_below_drewN | apply below_drew1) | exact HB.out)) hb); clear HO_7; clear HO314; clear HB; have HO_7 := n0_; have HO314 := n1_; have HO317 := n2_; have HB := n3_; clear n0_ n1_ n2_ n3_; (try clear hb); (try clear hb2); (try clear hk); (try clear hi); (try clear ho0); obtain ⟨Ao37, co37, eo37⟩ := Kd.S_slice HO317.out; subst eo37; obtain ⟨Ao38, co38, eo38⟩ := Kd.S_slice HO314.out; subst eo38) | (go_at_call 10; (with_reducible refine (jobshelllaw34_awake.calls k2  t318 _ A33.out).mono ?_); rintro e w39 ⟨rfl, hb⟩; have n0_ := Aside0.mk (Kd.S_below (by (with_reducible repeat (first | apply Kd.S_alloc | apply Kd.S_drewN | apply Kd.S_drew)); exact HO_7.out) hb); have n1_ := Aside0.mk (Kd.S_below (by (with_reducible repeat (first | apply Kd.S_alloc | apply Kd.S_drewN | apply Kd.S_drew)); exact HO314.out) hb); have n2_ := Aside0.mk (Kd.S_below (by (with_reducible repeat (first | apply Kd.S_alloc | apply Kd.S_drewN | apply Kd.S_drew)); exact HO317.out) hb); have n3_ := Aside0.mk (below_step (by repeat (first | (with_reducible first | exact HB.out | apply below_alloc | apply pw_below_drewN | apply below_drew1) | exact HB.out)) hb); clear HO_7; clear HO314; clear HO317; clear HB; have HO_7 := n0_; have HO314 := n1_; have HO317 := n2_; have HB := n3_; clear n0_ n1_ n2_ n3_; (try clear hb); (try clear hb2); (try clear hk); (try clear hi)))
                  repeat (go_quiet (first | (go_at_call 17; (with_reducible refine (trap_Requests.calls k2 _ _ l1 _ _ l0 a2 t312 _ ?side1 ?side2 ?side3 ?side4 A29.out).mono ?_); (case side1 => repeat (first | exact (Kd.C_below HR1.out HB.out) | (with_reducible refine Kd.C_alloc ?_ _) | (with_reducible refine Kd.C_drewN ?_ _) | (with_reducible refine Kd.C_drew ?_))); (case side2 => exact HC1.out); (case side3 => repeat (first | exact (Kd.C_below HR0.out HB.out) | (with_reducible refine Kd.C_alloc ?_ _) | (with_reducible refine Kd.C_drewN ?_ _) | (with_reducible refine Kd.C_drew ?_))); (case side4 => exact HC0.out); rintro e w35 ⟨v313, rfl, ho0, hb⟩; have n0_ := Aside0.mk (Kd.S_elder' (by (with_reducible repeat (first | apply Kd.S_alloc | apply Kd.S_drewN | apply Kd.S_drew)); exact HO_7.out) (Kd.S_base ho0) hb); have n1_ := Aside0.mk (Kd.S_lower (Kd.S_new' ho0 (Kd.S_lt (by (with_reducible repeat (first | apply Kd.S_alloc | apply Kd.S_drewN | apply Kd.S_drew)); exact HO_7.out))) (below_size (by repeat (first | (with_reducible first | exact HB.out | apply below_alloc | apply pw_below_drewN | apply below_drew1) | exact HB.out)))); have n2_ := Aside0.mk (below_step (by repeat (first | (with_reducible first | exact HB.out | apply below_alloc | apply pw_below_drewN | apply below_drew1) | exact HB.out)) hb); clear HO_7; clear HB; have HO_7 := n0_; have HO314 := n1_; have HB := n2_; clear n0_ n1_ n2_; (try clear hb); (try clear hb2); (try clear hk); (try clear hi); (try clear ho0)) | (go_at_call 17; (with_reducible refine (trap_Requests.calls k2 _ _ l1 _ _ l1 a2 t315 _ ?side1 ?side2 ?side3 ?side4 A30.out).mono ?_); (case side1 => repeat (first | exact (Kd.C_below HR1.out HB.out) | (with_reducible refine Kd.C_alloc ?_ _) | (with_reducible refine Kd.C_drewN ?_ _) | (with_reducible refine Kd.C_drew ?_))); (case side2 => exact HC1.out); (case side3 => repeat (first | exact (Kd.C_below HR1.out HB.out) | (with_reducible refine Kd.C_alloc ?_ _) | (with_reducible refine Kd.C_drewN ?_ _) | (with_reducible refine Kd.C_drew ?_))); (case side4 => exact HC1.out); rintro e w36 ⟨v316, rfl, ho0, hb⟩; have n0_ := Aside0.mk (Kd.S_elder' (by (with_reducible repeat (first | apply Kd.S_alloc | apply Kd.S_drewN | apply Kd.S_drew)); exact HO_7.out) (Kd.S_base ho0) hb); have n1_ := Aside0.mk (Kd.S_elder' (by (with_reducible repeat (first | apply Kd.S_alloc | apply Kd.S_drewN | apply Kd.S_drew)); exact HO314.out) (Kd.S_base ho0) hb); have n2_ := Aside0.mk (Kd.S_lower (Kd.S_new' (Kd.S_new' ho0 (Kd.S_lt (by (with_reducible repeat (first | apply Kd.S_alloc | apply Kd.S_drewN | apply Kd.S_drew)); exact HO_7.out))) (Kd.S_lt (by (with_reducible repeat (first | apply Kd.S_alloc | apply Kd.S_drewN | apply Kd.S_drew)); exact HO314.out))) (below_size (by repeat (first | (with_reducible first | exact HB.out | apply below_alloc | apply pw_below_drewN | apply below_drew1) | exact HB.out)))); have n3_ := Aside0.mk (below_step (by repeat (first | (with_reducible first | exact HB.out | apply below_alloc | apply pw_below_drewN | apply below_drew1) | exact HB.out)) hb); clear HO_7; clear HO314; clear HB; have HO_7 := n0_; have HO314 := n1_; have HO317 := n2_; have HB := n3_; clear n0_ n1_ n2_ n3_; (try clear hb); (try clear hb2); (try clear hk); (try clear hi); (try clear ho0); obtain ⟨Ao37, co37, eo37⟩ := Kd.S_slice HO317.out; subst eo37; obtain ⟨Ao38, co38, eo38⟩ := Kd.S_slice HO314.out; subst eo38) | (go_at_call 10; (with_reducible refine (jobshelllaw34_awake.calls k2  t318 _ A33.out).mono ?_); rintro e w39 ⟨rfl, hb⟩; have n0_ := Aside0.mk (Kd.S_below (by (with_reducible repeat (first | apply Kd.S_alloc | apply Kd.S_drewN | apply Kd.S_drew)); exact HO_7.out) hb); have n1_ := Aside0.mk (Kd.S_below (by (with_reducible repeat (first | apply Kd.S_alloc | apply Kd.S_drewN | apply Kd.S_drew)); exact HO314.out) hb); have n2_ := Aside0.mk (Kd.S_below (by (with_reducible repeat (first | apply Kd.S_alloc | apply Kd.S_drewN | apply Kd.S_drew)); exact HO317.out) hb); have n3_ := Aside0.mk (below_step (by repeat (first | (with_reducible first | exact HB.out | apply below_alloc | apply pw_below_drewN | apply below_drew1) | exact HB.out)) hb); clear HO_7; clear HO314; clear HO317; clear HB; have HO_7 := n0_; have HO314 := n1_; have HO317 := n2_; have HB := n3_; clear n0_ n1_ n2_ n3_; (try clear hb); (try clear hb2); (try clear hk); (try clear hi))); try go_wp2_with (first | (go_at_call 17; (with_reducible refine (trap_Requests.calls k2 _ _ l1 _ _ l0 a2 t312 _ ?side1 ?side2 ?side3 ?side4 A29.out).mono ?_); (case side1 => repeat (first | exact (Kd.C_below HR1.out HB.out) | (with_reducible refine Kd.C_alloc ?_ _) | (with_reducible refine Kd.C_drewN ?_ _) | (with_reducible refine Kd.C_drew ?_))); (case side2 => exact HC1.out); (case side3 => repeat (first | exact (Kd.C_below HR0.out HB.out) | (with_reducible refine Kd.C_alloc ?_ _) | (with_reducible refine Kd.C_drewN ?_ _) | (with_reducible refine Kd.C_drew ?_))); (case side4 => exact HC0.out); rintro e w35 ⟨v313, rfl, ho0, hb⟩; have n0_ := Aside0.mk (Kd.S_elder' (by (with_reducible repeat (first | apply Kd.S_alloc | apply Kd.S_drewN | apply Kd.S_drew)); exact HO_7.out) (Kd.S_base ho0) hb); have n1_ := Aside0.mk (Kd.S_lower (Kd.S_new' ho0 (Kd.S_lt (by (with_reducible repeat (first | apply Kd.S_alloc | apply Kd.S_drewN | apply Kd.S_drew)); exact HO_7.out))) (below_size (by repeat (first | (with_reducible first | exact HB.out | apply below_alloc | apply pw_below_drewN | apply below_drew1) | exact HB.out)))); have n2_ := Aside0.mk (below_step (by repeat (first | (with_reducible first | exact HB.out | apply below_alloc | apply pw_below_drewN | apply below_drew1) | exact HB.out)) hb); clear HO_7; clear HB; have HO_7 := n0_; have HO314 := n1_; have HB := n2_; clear n0_ n1_ n2_; (try clear hb); (try clear hb2); (try clear hk); (try clear hi); (try clear ho0)) | (go_at_call 17; (with_reducible refine (trap_Requests.calls k2 _ _ l1 _ _ l1 a2 t315 _ ?side1 ?side2 ?side3 ?side4 A30.out).mono ?_); (case side1 => repeat (first | exact (Kd.C_below HR1.out HB.out) | (with_reducible refine Kd.C_alloc ?_ _) | (with_reducible refine Kd.C_drewN ?_ _) | (with_reducible refine Kd.C_drew ?_))); (case side2 => exact HC1.out); (case side3 => repeat (first | exact (Kd.C_below HR1.out HB.out) | (with_reducible refine Kd.C_alloc ?_ _) | (with_reducible refine Kd.C_drewN ?_ _) | (with_reducible refine Kd.C_drew ?_))); (case side4 => exact HC1.out); rintro e w36 ⟨v316, rfl, ho0, hb⟩; have n0_ := Aside0.mk (Kd.S_elder' (by (with_reducible repeat (first | apply Kd.S_alloc | apply Kd.S_drewN | apply Kd.S_drew)); exact HO_7.out) (Kd.S_base ho0) hb); have n1_ := Aside0.mk (Kd.S_elder' (by (with_reducible repeat (first | apply Kd.S_alloc | apply Kd.S_drewN | apply Kd.S_drew)); exact HO314.out) (Kd.S_base ho0) hb); have n2_ := Aside0.mk (Kd.S_lower (Kd.S_new' (Kd.S_new' ho0 (Kd.S_lt (by (with_reducible repeat (first | apply Kd.S_alloc | apply Kd.S_drewN | apply Kd.S_drew)); exact HO_7.out))) (Kd.S_lt (by (with_reducible repeat (first | apply Kd.S_alloc | apply Kd.S_drewN | apply Kd.S_drew)); exact HO314.out))) (below_size (by repeat (first | (with_reducible first | exact HB.out | apply below_alloc | apply pw_below_drewN | apply below_drew1) | exact HB.out)))); have n3_ := Aside0.mk (below_step (by repeat (first | (with_reducible first | exact HB.out | apply below_alloc | apply pw_below_drewN | apply below_drew1) | exact HB.out)) hb); clear HO_7; clear HO314; clear HB; have HO_7 := n0_; have HO314 := n1_; have HO317 := n2_; have HB := n3_; clear n0_ n1_ n2_ n3_; (try clear hb); (try clear hb2); (try clear hk); (try clear hi); (try clear ho0); obtain ⟨Ao37, co37, eo37⟩ := Kd.S_slice HO317.out; subst eo37; obtain ⟨Ao38, co38, eo38⟩ := Kd.S_slice HO314.out; subst eo38) | (go_at_call 10; (with_reducible refine (jobshelllaw34_awake.calls k2  t318 _ A33.out).mono ?_); rintro e w39 ⟨rfl, hb⟩; have n0_ := Aside0.mk (Kd.S_below (by (with_reducible repeat (first | apply Kd.S_alloc | apply Kd.S_drewN | apply Kd.S_drew)); exact HO_7.out) hb); have n1_ := Aside0.mk (Kd.S_below (by (with_reducible repeat (first | apply Kd.S_alloc | apply Kd.S_drewN | apply Kd.S_drew)); exact HO314.out) hb); have n2_ := Aside0.mk (Kd.S_below (by (with_reducible repeat (first | apply Kd.S_alloc | apply Kd.S_drewN | apply Kd.S_drew)); exact HO317.out) hb); have n3_ := Aside0.mk (below_step (by repeat (first | (with_reducible first | exact HB.out | apply below_alloc | apply pw_below_drewN | apply below_drew1) | exact HB.out)) hb); clear HO_7; clear HO314; clear HO317; clear HB; have HO_7 := n0_; have HO314 := n1_; have HO317 := n2_; have HB := n3_; clear n0_ n1_ n2_ n3_; (try clear hb); (try clear hb2); (try clear hk); (try clear hi))))
                  go_ret
                  exact ⟨by first | rfl | (simp [errW_none, errW_some] <;> rfl) | (simp [*, errW_none, errW_some] <;> rfl), by repeat (first | (with_reducible first | exact HB.out | apply below_alloc | apply pw_below_drewN | apply below_drew1) | exact HB.out)⟩
                · rw [if_neg c32] at H
                  have c32b0 : ((t312.length : Int) == (t300.length : Int)) = false := beq_eq_false_iff_ne.mpr c32
                  have c32b1 : ((t312.length : Int) != (t300.length : Int)) = true := bne_iff_ne.mpr c32
                  have c32b2 : (t312.length == t300.length) = false := by first | simpa using c32 | (simp at c32 ⊢; omega)
                  exact absurd ((Option.some.inj H).trans HT.out) (by decide)
              · rw [if_neg c31] at H
                have c31b0 : ((t315.length : Int) == 0) = false := beq_eq_false_iff_ne.mpr c31
                have c31b1 : ((t315.length : Int) != 0) = true := bne_iff_ne.mpr c31
                have c31b2 : ¬ (t315 = []) := fun h_ => c31 (by rw [h_]; rfl)
                exact absurd ((Option.some.inj H).trans HT.out) (by decide)

end Go.Proofs.YtphgcpoefpogfaaDoor.PS

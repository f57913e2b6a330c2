-- Written by a program of this session's (wip/mkprint.py) out of the translation; the texts of functions that the program does not take are mine.
import Derived.Test.YtphgcpoefpogfaaDoorPSx0
import Derived.Test.YtphgcpoefpogfaaDoorPSx3
import Derived.Test.YtphgcpoefpogfaaDoorPSx5
import Derived.Test.YtphgcpoefpogfaaDoorPSx7
import Derived.Test.YtphgcpoefpogfaaDoorPSx10
import Derived.Test.YtphgcpoefpogfaaDoorPSx11
namespace Go.Proofs.YtphgcpoefpogfaaDoor.PS
open Go.RowKit Go.Proofs.YtphgcpoefpogfaaDoorW.PrintWords Go.Proofs.YtphgcpoefpogfaaDoorW.PrintLast Go.Proofs.YtphgcpoefpogfaaDoorW.PrintMore
attribute [local go_sem] max2_int min2_int max_two min_two max_three min_three max_four min_four   -- for this text's walks alone
set_option linter.unusedVariables false
set_option linter.unusedSimpArgs false

/-! ### jobshelllaw34_TrapRequests: function 5 -/
mutual
def jobshelllaw34_TrapRequests.j0 : Nat → List (S30) → List (S30) → Bool → Bool → Option (Bool)
  | 0, _, _, _, _ => none
  | k + 1, x0, x1, x2, x17 => if x17 = true then ((jobshelllaw34_awake.f k).bind fun t272 => (some t272)) else ((trap_Requests.f k x0 x1 x2).bind fun t273 => ((jobshellref34_Requests.f k x0 x1 x2).bind fun t276 => (if (t273.length : Int) = (t276.length : Int) then (jobshelllaw34_TrapRequests.l0 k t273 t276 0) else (some false))))
def jobshelllaw34_TrapRequests.l0 : Nat → List (S40) → List (S40) → Int → Option (Bool)
  | 0, _, _, _ => none
  | k + 1, x7, x8, x9 => if x9 < (x7.length : Int) then (if 0 ≤ x9 then (if x9 < (x8.length : Int) then ((jobshellref31_SameReq.f k ((rd_T40 x7 x9).f0) ((rd_T40 x7 x9).f1) ((rd_T40 x7 x9).f2) ((rd_T40 x7 x9).f3) ((rd_T40 x7 x9).f4) ((rd_T40 x7 x9).f5) ((rd_T40 x7 x9).f6) ((rd_T40 x7 x9).f7) ((rd_T40 x7 x9).f8) ((rd_T40 x7 x9).f9) ((rd_T40 x7 x9).f10) ((rd_T40 x7 x9).f11) ((rd_T40 x8 x9).f0) ((rd_T40 x8 x9).f1) ((rd_T40 x8 x9).f2) ((rd_T40 x8 x9).f3) ((rd_T40 x8 x9).f4) ((rd_T40 x8 x9).f5) ((rd_T40 x8 x9).f6) ((rd_T40 x8 x9).f7) ((rd_T40 x8 x9).f8) ((rd_T40 x8 x9).f9) ((rd_T40 x8 x9).f10) ((rd_T40 x8 x9).f11)).bind fun t281 => (if t281 = true then (jobshelllaw34_TrapRequests.l0 k x7 x8 (wrap64 (x9 + 1))) else (some false))) else (none)) else (none)) else ((jobshelllaw34_awake.f k).bind fun t282 => (some t282))
end
def jobshelllaw34_TrapRequests.f (k : Nat) (l0 : List (S30)) (l1 : List (S30)) (a2 : Bool) : Option (Bool) := (jobshelllaw34_ok.f k l0).bind fun t270 => (if t270 = true then ((jobshelllaw34_ok.f k l1).bind fun t271 => (jobshelllaw34_TrapRequests.j0 k l0 l1 a2 (!t271))) else (jobshelllaw34_TrapRequests.j0 k l0 l1 a2 true))
theorem jobshelllaw34_TrapRequests.mono_l : ∀ k, (∀ y0 y1 y2 y3, LeO (jobshelllaw34_TrapRequests.j0 k y0 y1 y2 y3) (jobshelllaw34_TrapRequests.j0 (k + 1) y0 y1 y2 y3)) ∧ (∀ y0 y1 y2, LeO (jobshelllaw34_TrapRequests.l0 k y0 y1 y2) (jobshelllaw34_TrapRequests.l0 (k + 1) y0 y1 y2))
  | 0 => ⟨fun _ _ _ _ r h => by simp [jobshelllaw34_TrapRequests.j0] at h, fun _ _ _ r h => by simp [jobshelllaw34_TrapRequests.l0] at h⟩
  | k + 1 => by
    obtain ⟨ih0, ih1⟩ := jobshelllaw34_TrapRequests.mono_l k
    refine ⟨?_, ?_⟩
    · intro y0 y1 y2 y3
      unfold jobshelllaw34_TrapRequests.j0
      repeat' first
      | (with_reducible exact ih0 _ _ _ _)
      | (with_reducible exact ih1 _ _ _)
      | (with_reducible exact jobshelllaw34_awake.mono _)
      | (with_reducible exact jobshelllaw34_ok.mono _ _)
      | (with_reducible exact jobshellref31_SameReq.mono _ _ _ _ _ _ _ _ _ _ _ _ _ _ _ _ _ _ _ _ _ _ _ _ _)
      | (with_reducible exact jobshellref34_Requests.mono _ _ _ _)
      | (with_reducible exact trap_Requests.mono _ _ _ _)
      | (with_reducible exact LeO.refl _)
      | (with_reducible exact LeO.none _)
      | (with_reducible refine LeO.ite ?_ ?_)
      | (with_reducible refine LeO.bind ?_ (fun _ => ?_))
      | exact ih0 _ _ _ _
      | exact ih1 _ _ _
      | exact jobshelllaw34_awake.mono _
      | exact jobshelllaw34_ok.mono _ _
      | exact jobshellref31_SameReq.mono _ _ _ _ _ _ _ _ _ _ _ _ _ _ _ _ _ _ _ _ _ _ _ _ _
      | exact jobshellref34_Requests.mono _ _ _ _
      | exact trap_Requests.mono _ _ _ _
      | exact LeO.none _
      | refine LeO.ite ?_ ?_
      | refine LeO.bind ?_ (fun _ => ?_)
    · intro y0 y1 y2
      unfold jobshelllaw34_TrapRequests.l0
      repeat' first
      | (with_reducible exact ih0 _ _ _ _)
      | (with_reducible exact ih1 _ _ _)
      | (with_reducible exact jobshelllaw34_awake.mono _)
      | (with_reducible exact jobshelllaw34_ok.mono _ _)
      | (with_reducible exact jobshellref31_SameReq.mono _ _ _ _ _ _ _ _ _ _ _ _ _ _ _ _ _ _ _ _ _ _ _ _ _)
      | (with_reducible exact jobshellref34_Requests.mono _ _ _ _)
      | (with_reducible exact trap_Requests.mono _ _ _ _)
      | (with_reducible exact LeO.refl _)
      | (with_reducible exact LeO.none _)
      | (with_reducible refine LeO.ite ?_ ?_)
      | (with_reducible refine LeO.bind ?_ (fun _ => ?_))
      | exact ih0 _ _ _ _
      | exact ih1 _ _ _
      | exact jobshelllaw34_awake.mono _
      | exact jobshelllaw34_ok.mono _ _
      | exact jobshellref31_SameReq.mono _ _ _ _ _ _ _ _ _ _ _ _ _ _ _ _ _ _ _ _ _ _ _ _ _
      | exact jobshellref34_Requests.mono _ _ _ _
      | exact trap_Requests.mono _ _ _ _
      | exact LeO.none _
      | refine LeO.ite ?_ ?_
      | refine LeO.bind ?_ (fun _ => ?_)
theorem jobshelllaw34_TrapRequests.mono : ∀ a0 a1 a2 k, LeO (jobshelllaw34_TrapRequests.f k a0 a1 a2) (jobshelllaw34_TrapRequests.f (k + 1) a0 a1 a2) := by
  intro a0 a1 a2 k
  obtain ⟨ih0, ih1⟩ := jobshelllaw34_TrapRequests.mono_l k
  unfold jobshelllaw34_TrapRequests.f
  repeat' first
      | (with_reducible exact ih0 _ _ _ _)
      | (with_reducible exact ih1 _ _ _)
      | (with_reducible exact jobshelllaw34_awake.mono _)
      | (with_reducible exact jobshelllaw34_ok.mono _ _)
      | (with_reducible exact jobshellref31_SameReq.mono _ _ _ _ _ _ _ _ _ _ _ _ _ _ _ _ _ _ _ _ _ _ _ _ _)
      | (with_reducible exact jobshellref34_Requests.mono _ _ _ _)
      | (with_reducible exact trap_Requests.mono _ _ _ _)
      | (with_reducible exact LeO.refl _)
      | (with_reducible exact LeO.none _)
      | (with_reducible refine LeO.ite ?_ ?_)
      | (with_reducible refine LeO.bind ?_ (fun _ => ?_))
      | exact ih0 _ _ _ _
      | exact ih1 _ _ _
      | exact jobshelllaw34_awake.mono _
      | exact jobshelllaw34_ok.mono _ _
      | exact jobshellref31_SameReq.mono _ _ _ _ _ _ _ _ _ _ _ _ _ _ _ _ _ _ _ _ _ _ _ _ _
      | exact jobshellref34_Requests.mono _ _ _ _
      | exact trap_Requests.mono _ _ _ _
      | exact LeO.none _
      | refine LeO.ite ?_ ?_
      | refine LeO.bind ?_ (fun _ => ?_)
def jobshelllaw34_TrapRequests.T9 : Bool × List (List Nat × List Nat) := (true, [([], []), ([], []), ([0, 1], [0, 1]), ([2], [2]), ([], []), ([], []), ([4, 5], [4, 5]), ([6], [6]), ([3, 7], [3, 7]), ([8], [8])])
def jobshelllaw34_TrapRequests.B9 : List Nat := [0, 0, 3, 7, 0, 0, 48, 112, 255, 511]
theorem jobshelllaw34_TrapRequests.tab9 : rtab .any (opsOf Tryd.f5 9) = jobshelllaw34_TrapRequests.T9 := by kernel_rfl
theorem jobshelllaw34_TrapRequests.bits9 : waitsOk jobshelllaw34_TrapRequests.T9.2 jobshelllaw34_TrapRequests.B9 = true := by kernel_rfl
set_option maxHeartbeats 8000000 in
set_option maxRecDepth 100000 in
theorem jobshelllaw34_TrapRequests.calls_true (k : Nat) (A0 : Option Addr) (c0 : Nat) (l0 : List (S30)) (A1 : Option Addr) (c1 : Nat) (l1 : List (S30)) (a2 : Bool) (r : Bool) (w : World) (hr0 : Kd.C k30 w A0 l0.length l0) (hc0 : l0.length ≤ c0) (hr1 : Kd.C k30 w A1 l1.length l1) (hc1 : l1.length ≤ c1) (h : jobshelllaw34_TrapRequests.f k l0 l1 a2 = some r) (hT : r = true) :
    Calls Tryd.prog 5 #[.slice A0 l0.length c0, .slice A1 l1.length c1, .bool a2] w fun e w' => e = .returned (.bool r) ∧ Below w.heap.size w w' := by
  have HT := Aside0.mk hT
  clear hT
  have hu40 := Tryd.underlying40
  have HR0 := Aside0.mk hr0
  have HC0 := Aside0.mk hc0
  clear hr0 hc0
  have HR1 := Aside0.mk hr1
  have HC1 := Aside0.mk hc1
  clear hr1 hc1
  have HB := Aside0.mk (Below.refl w.heap.size w)
  have H : ((jobshelllaw34_ok.f k l0).bind fun t270 => (if t270 = true then ((jobshelllaw34_ok.f k l1).bind fun t271 => (jobshelllaw34_TrapRequests.j0 k l0 l1 a2 (!t271))) else (jobshelllaw34_TrapRequests.j0 k l0 l1 a2 true))) = some r := h
  clear h
  have HC4 := Aside0.mk H
  clear H
  go_enter Tryd.func5, Tryd.ntmps5
  go_upto_region 1 with (fail)
  go_cut [17] (fun v17 wc => ∃ (kq : Nat) (x17_3 : Bool), v17 = .bool x17_3 ∧ Aside0 (jobshelllaw34_TrapRequests.j0 kq l0 l1 a2 x17_3 = some r) ∧ Aside0 (kq ≤ k) ∧ Aside0 (Below w.heap.size w wc))
  case first =>
    have H := HC4.out
    clear HC4
    replace H := Option.bind_eq_some_iff.mp H
    obtain ⟨t270, A50, H⟩ := H
    replace H : (if t270 = true then ((jobshelllaw34_ok.f k l1).bind fun t271 => (jobshelllaw34_TrapRequests.j0 k l0 l1 a2 (!t271))) else (jobshelllaw34_TrapRequests.j0 k l0 l1 a2 true)) = some r := H
    have A5 := Aside0.mk A50
    clear A50
    by_cases c6 : t270 = true
    · subst c6
      have H1 : ((jobshelllaw34_ok.f k l1).bind fun t271 => (jobshelllaw34_TrapRequests.j0 k l0 l1 a2 (!t271))) = some r := by rw [if_pos rfl] at H; exact H
      clear H
      have H := H1
      clear H1
      replace H := Option.bind_eq_some_iff.mp H
      obtain ⟨t271, A70, H⟩ := H
      replace H : (jobshelllaw34_TrapRequests.j0 k l0 l1 a2 (!t271)) = some r := H
      have A7 := Aside0.mk A70
      clear A70
      have H' := Aside0.mk H
      clear H
      go_wp2_with (first | ((with_reducible refine gate_callee (f := 13) rfl ?_); refine goesL_ (some 11) rfl rfl Tryd.func13 (by kernel_rfl) rfl #[.slice A0 l0.length c0] rfl (by (try simp only [List.map_toArray, List.map_cons, List.map_nil]); first | done | rfl | (simp only [List.length_drop, List.length_take]; rfl)) ?_; (with_reducible refine (jobshelllaw34_ok.calls k _ _ l0 true _ ?side1 ?side2 A5.out).mono ?_); (case side1 => repeat (first | exact (Kd.C_below HR0.out HB.out) | (with_reducible refine Kd.C_alloc ?_ _) | (with_reducible refine Kd.C_drewN ?_ _) | (with_reducible refine Kd.C_drew ?_))); (case side2 => exact HC0.out); rintro e w' ⟨rfl, ⟨nd, rfl⟩⟩; refine ⟨_, rfl, ?_⟩) | (go_at_call 13; (with_reducible refine (jobshelllaw34_ok.calls k _ _ l1 t271 _ ?side1 ?side2 A7.out).mono ?_); (case side1 => repeat (first | exact (Kd.C_below HR1.out (by repeat (first | (with_reducible first | exact HB.out | apply below_alloc | apply pw_below_drewN | apply below_drew1) | exact HB.out))) | (with_reducible refine Kd.C_alloc ?_ _) | (with_reducible refine Kd.C_drewN ?_ _) | (with_reducible refine Kd.C_drew ?_))); (case side2 => exact HC1.out); rintro e w' ⟨rfl, ⟨nd, rfl⟩⟩))
      go_meet
      case rel => exact ⟨_, (!t271), (by first | rfl | (simp; done) | (simp [*]; done) | exact congrArg (fun b => Ending.returned (Value.bool b)) (Ch.bne_nil _)), H', ⟨by first | omega | exact Nat.le_refl _⟩, ⟨by repeat (first | (with_reducible first | exact HB.out | apply below_alloc | apply pw_below_drewN | apply below_drew1) | exact HB.out)⟩⟩
    · replace c6 := Bool.eq_false_iff.mpr c6
      subst c6
      have H1 : (jobshelllaw34_TrapRequests.j0 k l0 l1 a2 true) = some r := by rw [if_neg (show ¬ (false = true) by decide)] at H; exact H
      clear H
      have H := H1
      clear H1
      have H' := Aside0.mk H
      clear H
      go_wp2_with (first | ((with_reducible refine gate_callee (f := 13) rfl ?_); refine goesL_ (some 11) rfl rfl Tryd.func13 (by kernel_rfl) rfl #[.slice A0 l0.length c0] rfl (by (try simp only [List.map_toArray, List.map_cons, List.map_nil]); first | done | rfl | (simp only [List.length_drop, List.length_take]; rfl)) ?_; (with_reducible refine (jobshelllaw34_ok.calls k _ _ l0 false _ ?side1 ?side2 A5.out).mono ?_); (case side1 => repeat (first | exact (Kd.C_below HR0.out HB.out) | (with_reducible refine Kd.C_alloc ?_ _) | (with_reducible refine Kd.C_drewN ?_ _) | (with_reducible refine Kd.C_drew ?_))); (case side2 => exact HC0.out); rintro e w' ⟨rfl, ⟨nd, rfl⟩⟩; refine ⟨_, rfl, ?_⟩))
      go_meet
      case rel => exact ⟨_, (true), (by first | rfl | (simp; done) | (simp [*]; done) | exact congrArg (fun b => Ending.returned (Value.bool b)) (Ch.bne_nil _)), H', ⟨by first | omega | exact Nat.le_refl _⟩, ⟨by repeat (first | (with_reducible first | exact HB.out | apply below_alloc | apply pw_below_drewN | apply below_drew1) | exact HB.out)⟩⟩
  case rest =>
    clear HC4
    try clear c1
    try clear p2
    try clear c5
    try clear c6
    obtain ⟨kq, x17_3, rfl, HA, HJ3, HB⟩ := hcut
    cases kq with
    | zero => exact absurd HA.out (by simp [jobshelllaw34_TrapRequests.j0])
    | succ kj3 =>
      have H := HA.out
      clear HA
      simp only [jobshelllaw34_TrapRequests.j0] at H
      by_cases c8 : x17_3 = true
      · subst c8
        have H1 : ((jobshelllaw34_awake.f kj3).bind fun t272 => (some t272)) = some r := by rw [if_pos rfl] at H; exact H
        clear H
        have H := H1
        clear H1
        replace H := Option.bind_eq_some_iff.mp H
        obtain ⟨t272, A90, H⟩ := H
        replace H : (some t272) = some r := H
        have A9 := Aside0.mk A90
        clear A90
        obtain rfl := Option.some.inj H
        go_wp2_with (first | ((with_reducible refine gate_callee (f := 10) rfl ?_); refine goesL_ (some 18) rfl rfl Tryd.func10 (by kernel_rfl) rfl #[] rfl (by (try simp only [List.map_toArray, List.map_cons, List.map_nil]); first | done | rfl | (simp only [List.length_drop, List.length_take]; rfl)) ?_; (with_reducible refine (jobshelllaw34_awake.calls kj3  t272 _ A9.out).mono ?_); rintro e w10 ⟨rfl, hb⟩; refine ⟨_, rfl, ?_⟩; have n0_ := Aside0.mk (below_step (by repeat (first | (with_reducible first | exact HB.out | apply below_alloc | apply pw_below_drewN | apply below_drew1) | exact HB.out)) hb); clear HB; have HB := n0_; clear n0_; (try clear hb); (try clear hb2); (try clear hk); (try clear hi)))
        go_ret
        exact ⟨by first | rfl | (simp [errW_none, errW_some] <;> rfl) | (simp [*, errW_none, errW_some] <;> rfl), by repeat (first | (with_reducible first | exact HB.out | apply below_alloc | apply pw_below_drewN | apply below_drew1) | exact HB.out)⟩
      · replace c8 := Bool.eq_false_iff.mpr c8
        subst c8
        have H1 : ((trap_Requests.f kj3 l0 l1 a2).bind fun t273 => ((jobshellref34_Requests.f kj3 l0 l1 a2).bind fun t276 => (if (t273.length : Int) = (t276.length : Int) then (jobshelllaw34_TrapRequests.l0 kj3 t273 t276 0) else (some false)))) = some r := by rw [if_neg (show ¬ (false = true) by decide)] at H; exact H
        clear H
        have H := H1
        clear H1
        replace H := Option.bind_eq_some_iff.mp H
        obtain ⟨t273, A110, H⟩ := H
        replace H : ((jobshellref34_Requests.f kj3 l0 l1 a2).bind fun t276 => (if (t273.length : Int) = (t276.length : Int) then (jobshelllaw34_TrapRequests.l0 kj3 t273 t276 0) else (some false))) = some r := H
        have A11 := Aside0.mk A110
        clear A110
        replace H := Option.bind_eq_some_iff.mp H
        obtain ⟨t276, A120, H⟩ := H
        replace H : (if (t273.length : Int) = (t276.length : Int) then (jobshelllaw34_TrapRequests.l0 kj3 t273 t276 0) else (some false)) = some r := H
        have A12 := Aside0.mk A120
        clear A120
        by_cases c13 : (t273.length : Int) = (t276.length : Int)
        · rw [if_pos c13] at H
          have c13b0 : ((t273.length : Int) == (t276.length : Int)) = true := beq_iff_eq.mpr c13
          have c13b1 : ((t273.length : Int) != (t276.length : Int)) = false := bne_eq_false_iff_eq.mpr c13
          have c13b2 : (t273.length == t276.length) = true := by first | simpa using c13 | (simp at c13 ⊢; omega)
          clear c13
          have H' := Aside0.mk H
          clear H
          go_wp2_with (first | ((with_reducible refine gate_callee (f := 17) rfl ?_); refine goesL_ (some 22) rfl rfl Tryd.func17 (by kernel_rfl) rfl #[.slice A0 l0.length c0, .slice A1 l1.length c1, .bool a2] rfl (by (try simp only [List.map_toArray, List.map_cons, List.map_nil]); first | done | rfl | (simp only [List.length_drop, List.length_take]; rfl)) ?_; (with_reducible refine (trap_Requests.calls kj3 _ _ l0 _ _ l1 a2 t273 _ ?side1 ?side2 ?side3 ?side4 A11.out).mono ?_); (case side1 => repeat (first | exact (Kd.C_below HR0.out HB.out) | (with_reducible refine Kd.C_alloc ?_ _) | (with_reducible refine Kd.C_drewN ?_ _) | (with_reducible refine Kd.C_drew ?_))); (case side2 => exact HC0.out); (case side3 => repeat (first | exact (Kd.C_below HR1.out HB.out) | (with_reducible refine Kd.C_alloc ?_ _) | (with_reducible refine Kd.C_drewN ?_ _) | (with_reducible refine Kd.C_drew ?_))); (case side4 => exact HC1.out); rintro e w14 ⟨v274, rfl, ho0, hb⟩; refine ⟨_, rfl, ?_⟩; have n0_ := Aside0.mk (Kd.S_lower ho0 (below_size (by repeat (first | (with_reducible first | exact HB.out | apply below_alloc | apply pw_below_drewN | apply below_drew1) | exact HB.out)))); have n1_ := Aside0.mk (below_step (by repeat (first | (with_reducible first | exact HB.out | apply below_alloc | apply pw_below_drewN | apply below_drew1) | exact HB.out)) hb); clear HB; have HO275 := n0_; have HB := n1_; clear n0_ n1_; (try clear hb); (try clear hb2); (try clear hk); (try clear hi); (try clear ho0)) | ((with_reducible refine gate_callee (f := 18) rfl ?_); refine goesL_ (some 26) rfl rfl Tryd.func18 (by kernel_rfl) rfl #[.slice A0 l0.length c0, .slice A1 l1.length c1, .bool a2] rfl (by (try simp only [List.map_toArray, List.map_cons, List.map_nil]); first | done | rfl | (simp only [List.length_drop, List.length_take]; rfl)) ?_; (with_reducible refine (jobshellref34_Requests.calls kj3 _ _ l0 _ _ l1 a2 t276 _ ?side1 ?side2 ?side3 ?side4 A12.out).mono ?_); (case side1 => repeat (first | exact (Kd.C_below HR0.out HB.out) | (with_reducible refine Kd.C_alloc ?_ _) | (with_reducible refine Kd.C_drewN ?_ _) | (with_reducible refine Kd.C_drew ?_))); (case side2 => exact HC0.out); (case side3 => repeat (first | exact (Kd.C_below HR1.out HB.out) | (with_reducible refine Kd.C_alloc ?_ _) | (with_reducible refine Kd.C_drewN ?_ _) | (with_reducible refine Kd.C_drew ?_))); (case side4 => exact HC1.out); rintro e w15 ⟨v277, rfl, ho0, hb⟩; refine ⟨_, rfl, ?_⟩; have n0_ := Aside0.mk (Kd.S_elder' (by (with_reducible repeat (first | apply Kd.S_alloc | apply Kd.S_drewN | apply Kd.S_drew)); exact HO275.out) (Kd.S_base ho0) hb); have n1_ := Aside0.mk (Kd.S_lower (Kd.S_new' ho0 (Kd.S_lt (by (with_reducible repeat (first | apply Kd.S_alloc | apply Kd.S_drewN | apply Kd.S_drew)); exact HO275.out))) (below_size (by repeat (first | (with_reducible first | exact HB.out | apply below_alloc | apply pw_below_drewN | apply below_drew1) | exact HB.out)))); have n2_ := Aside0.mk (below_step (by repeat (first | (with_reducible first | exact HB.out | apply below_alloc | apply pw_below_drewN | apply below_drew1) | exact HB.out)) hb); clear HO275; clear HB; have HO275 := n0_; have HO278 := n1_; have HB := n2_; clear n0_ n1_ n2_; (try clear hb); (try clear hb2); (try clear hk); (try clear hi); (try clear ho0); obtain ⟨Ao16, co16, eo16⟩ := Kd.S_slice HO275.out; subst eo16; obtain ⟨Ao17, co17, eo17⟩ := Kd.S_slice HO278.out; subst eo17))
          go_loopg [9] kj3 (fun kq v9 w' => ∃ (x9_2 : Int), v9 = .int .i64 x9_2 ∧ Aside0 (jobshelllaw34_TrapRequests.l0 kq t273 t276 x9_2 = some r) ∧ Aside0 (kq ≤ kj3) ∧ Aside0 (Kd.S k40 40 w' w.heap.size (fun k_ => some k_ ≠ ((.slice Ao17 t276.length co17) : Value).ownBlock) (.slice Ao16 t273.length co16) t273) ∧ Aside0 (Kd.S k40 40 w' w.heap.size (fun k_ => some k_ ≠ ((.slice Ao16 t273.length co16) : Value).ownBlock) (.slice Ao17 t276.length co17) t276) ∧ Aside0 (Below w.heap.size w w'))
          case atStart => exact ⟨(0), (by first | rfl | (simp; done) | (simp [*]; done) | exact congrArg (fun b => Ending.returned (Value.bool b)) (Ch.bne_nil _)), H', ⟨Nat.le_refl _⟩, ⟨by (with_reducible repeat (first | apply Kd.S_alloc | apply Kd.S_drewN | apply Kd.S_drew)); exact Kd.S_mono HO275.out (fun _ hk => hk.2)⟩, ⟨by (with_reducible repeat (first | apply Kd.S_alloc | apply Kd.S_drewN | apply Kd.S_drew)); exact Kd.S_mono HO278.out (fun _ hk => hk.2)⟩, ⟨by repeat (first | (with_reducible first | exact HB.out | apply below_alloc | apply pw_below_drewN | apply below_drew1) | exact HB.out)⟩⟩
          case round =>
            clear H'
            try clear c1
            try clear p2
            try clear c5
            try clear c6
            try clear c8
            try clear c10
            try clear c13
            try clear c13b0
            try clear c13b1
            try clear c13b2
            try clear c17
            try clear p2
            obtain ⟨x9_2, rfl, HA, HK2, HO_7, HO_8, HB⟩ := hrel
            cases gk with
            | zero => exact absurd HA.out (by simp [jobshelllaw34_TrapRequests.l0])
            | succ k2 =>
              have H := HA.out
              clear HA
              simp only [jobshelllaw34_TrapRequests.l0] at H
              by_cases c18 : x9_2 < (t273.length : Int)
              · rw [if_pos c18] at H
                have c18b0 : decide (x9_2 < (t273.length : Int)) = true := decide_eq_true c18
                clear c18
                by_cases c19 : 0 ≤ x9_2
                · rw [if_pos c19] at H
                  have c19b0 : decide (0 ≤ x9_2) = true := decide_eq_true c19
                  clear c19
                  by_cases c20 : x9_2 < (t276.length : Int)
                  · rw [if_pos c20] at H
                    have c20b0 : decide (x9_2 < (t276.length : Int)) = true := decide_eq_true c20
                    clear c20
                    replace H := Option.bind_eq_some_iff.mp H
                    obtain ⟨t281, A210, H⟩ := H
                    replace H : (if t281 = true then (jobshelllaw34_TrapRequests.l0 k2 t273 t276 (wrap64 (x9_2 + 1))) else (some false)) = some r := H
                    have A21 := Aside0.mk A210
                    clear A210
                    by_cases c22 : t281 = true
                    · subst c22
                      have H1 : (jobshelllaw34_TrapRequests.l0 k2 t273 t276 (wrap64 (x9_2 + 1))) = some r := by rw [if_pos rfl] at H; exact H
                      clear H
                      have H := H1
                      clear H1
                      have H' := Aside0.mk H
                      clear H
                      try go_wp2
                      have n0_ := Aside0.mk (Kd.S_drew HO_7.out)
                      have n1_ := Aside0.mk (Kd.S_drew HO_8.out)
                      have n2_ := Aside0.mk (below_drew1 HB.out)
                      clear HO_7
                      clear HO_8
                      clear HB
                      have HO_7 := n0_
                      have HO_8 := n1_
                      have HB := n2_
                      clear n0_ n1_ n2_
                      have p279 : 0 ≤ (x9_2 : Int) := of_decide_eq_true (by first | (with_reducible assumption) | assumption)
                      have q279 : x9_2 < (t273.length : Int) := of_decide_eq_true (by first | (with_reducible assumption) | assumption)
                      obtain ⟨ad279, A279_10, c279_10, A279_11, c279_11, e279, hx279_0, hx279_1, hx279_2, hx279_3, hx279_4, hx279_5, hx279_6, hx279_7, hx279_8, hx279_9, hx279_10, hx279_11, hl279_10, hi279_10, hl279_11, hi279_11⟩ := at_T40 (Kd.S_reads' HO_7.out).2.2 x9_2 p279 q279
                      cases e279
                      obtain ⟨ce279, hce279, hMe279, hcc279⟩ := Kd.S_get HO_7.out z40 x9_2 p279 (by first | exact q279 | exact of_decide_eq_true (by first | (with_reducible assumption) | assumption) | (have e_ := (Kd.S_reads' HO_7.out).1; omega))
                      obtain ⟨ve279_10, ve279_11, rfl, ge279_10, ge279_11⟩ := k40_openM hMe279
                      have hv279_10 := hcc279 10 _ rfl
                      rw [add_field _ _ 10 (by omega)] at hv279_10
                      replace hv279_10 := Option.some.inj (hv279_10.symm.trans hx279_10)
                      rw [hv279_10] at ge279_10
                      have HL279_10 := Aside0.mk (show Kd.R Kd.string 9 _ _ _ _ ((rd_T40 t273 x9_2).f10) from ge279_10)
                      clear hv279_10 ge279_10
                      have hv279_11 := hcc279 11 _ rfl
                      rw [add_field _ _ 11 (by omega)] at hv279_11
                      replace hv279_11 := Option.some.inj (hv279_11.symm.trans hx279_11)
                      rw [hv279_11] at ge279_11
                      have HL279_11 := Aside0.mk (show Kd.R Kd.string 9 _ _ _ _ ((rd_T40 t273 x9_2).f11) from ge279_11)
                      clear hv279_11 ge279_11
                      clear hcc279 hce279
                      have HR279_10 := Aside0.mk hi279_10
                      have HC279_10 := Aside0.mk hl279_10
                      clear hi279_10 hl279_10
                      have HR279_11 := Aside0.mk hi279_11
                      have HC279_11 := Aside0.mk hl279_11
                      clear hi279_11 hl279_11
                      replace p279 := eq_true p279
                      replace q279 := eq_true q279
                      have p280 : 0 ≤ (x9_2 : Int) := of_decide_eq_true (by first | (with_reducible assumption) | assumption)
                      have q280 : x9_2 < (t276.length : Int) := of_decide_eq_true (by first | (with_reducible assumption) | assumption)
                      obtain ⟨ad280, A280_10, c280_10, A280_11, c280_11, e280, hx280_0, hx280_1, hx280_2, hx280_3, hx280_4, hx280_5, hx280_6, hx280_7, hx280_8, hx280_9, hx280_10, hx280_11, hl280_10, hi280_10, hl280_11, hi280_11⟩ := at_T40 (Kd.S_reads' HO_8.out).2.2 x9_2 p280 q280
                      cases e280
                      obtain ⟨ce280, hce280, hMe280, hcc280⟩ := Kd.S_get HO_8.out z40 x9_2 p280 (by first | exact q280 | exact of_decide_eq_true (by first | (with_reducible assumption) | assumption) | (have e_ := (Kd.S_reads' HO_8.out).1; omega))
                      obtain ⟨ve280_10, ve280_11, rfl, ge280_10, ge280_11⟩ := k40_openM hMe280
                      have hv280_10 := hcc280 10 _ rfl
                      rw [add_field _ _ 10 (by omega)] at hv280_10
                      replace hv280_10 := Option.some.inj (hv280_10.symm.trans hx280_10)
                      rw [hv280_10] at ge280_10
                      have HL280_10 := Aside0.mk (show Kd.R Kd.string 9 _ _ _ _ ((rd_T40 t276 x9_2).f10) from ge280_10)
                      clear hv280_10 ge280_10
                      have hv280_11 := hcc280 11 _ rfl
                      rw [add_field _ _ 11 (by omega)] at hv280_11
                      replace hv280_11 := Option.some.inj (hv280_11.symm.trans hx280_11)
                      rw [hv280_11] at ge280_11
                      have HL280_11 := Aside0.mk (show Kd.R Kd.string 9 _ _ _ _ ((rd_T40 t276 x9_2).f11) from ge280_11)
                      clear hv280_11 ge280_11
                      clear hcc280 hce280
                      have HR280_10 := Aside0.mk hi280_10
                      have HC280_10 := Aside0.mk hl280_10
                      clear hi280_10 hl280_10
                      have HR280_11 := Aside0.mk hi280_11
                      have HC280_11 := Aside0.mk hl280_11
                      clear hi280_11 hl280_11
                      replace p280 := eq_true p280
                      replace q280 := eq_true q280
                      refine start_ (n := 10) (S := fun w' => w'.cell? (ad279.add ((x9_2).toNat * 12)) = some (.int .i64 ((rd_T40 t273 x9_2).f0)) ∧ w'.cell? ⟨(ad279.add ((x9_2).toNat * 12)).block, (ad279.add ((x9_2).toNat * 12)).off + 1, none⟩ = some (.int .i64 ((rd_T40 t273 x9_2).f1)) ∧ w'.cell? ⟨(ad279.add ((x9_2).toNat * 12)).block, (ad279.add ((x9_2).toNat * 12)).off + 2, none⟩ = some (.int .i64 ((rd_T40 t273 x9_2).f2)) ∧ w'.cell? ⟨(ad279.add ((x9_2).toNat * 12)).block, (ad279.add ((x9_2).toNat * 12)).off + 3, none⟩ = some (.int .i64 ((rd_T40 t273 x9_2).f3)) ∧ w'.cell? ⟨(ad279.add ((x9_2).toNat * 12)).block, (ad279.add ((x9_2).toNat * 12)).off + 4, none⟩ = some (.int .i64 ((rd_T40 t273 x9_2).f4)) ∧ w'.cell? ⟨(ad279.add ((x9_2).toNat * 12)).block, (ad279.add ((x9_2).toNat * 12)).off + 5, none⟩ = some (.int .i64 ((rd_T40 t273 x9_2).f5)) ∧ w'.cell? ⟨(ad279.add ((x9_2).toNat * 12)).block, (ad279.add ((x9_2).toNat * 12)).off + 6, none⟩ = some (.int .i64 ((rd_T40 t273 x9_2).f6)) ∧ w'.cell? ⟨(ad279.add ((x9_2).toNat * 12)).block, (ad279.add ((x9_2).toNat * 12)).off + 7, none⟩ = some (.int .i64 ((rd_T40 t273 x9_2).f7)) ∧ w'.cell? ⟨(ad279.add ((x9_2).toNat * 12)).block, (ad279.add ((x9_2).toNat * 12)).off + 8, none⟩ = some (.string ((rd_T40 t273 x9_2).f8)) ∧ w'.cell? ⟨(ad279.add ((x9_2).toNat * 12)).block, (ad279.add ((x9_2).toNat * 12)).off + 9, none⟩ = some (.string ((rd_T40 t273 x9_2).f9)) ∧ w'.cell? ⟨(ad279.add ((x9_2).toNat * 12)).block, (ad279.add ((x9_2).toNat * 12)).off + 10, none⟩ = some (.slice A279_10 ((rd_T40 t273 x9_2).f10).length c279_10) ∧ w'.cell? ⟨(ad279.add ((x9_2).toNat * 12)).block, (ad279.add ((x9_2).toNat * 12)).off + 11, none⟩ = some (.slice A279_11 ((rd_T40 t273 x9_2).f11).length c279_11) ∧ w'.cell? (ad280.add ((x9_2).toNat * 12)) = some (.int .i64 ((rd_T40 t276 x9_2).f0)) ∧ w'.cell? ⟨(ad280.add ((x9_2).toNat * 12)).block, (ad280.add ((x9_2).toNat * 12)).off + 1, none⟩ = some (.int .i64 ((rd_T40 t276 x9_2).f1)) ∧ w'.cell? ⟨(ad280.add ((x9_2).toNat * 12)).block, (ad280.add ((x9_2).toNat * 12)).off + 2, none⟩ = some (.int .i64 ((rd_T40 t276 x9_2).f2)) ∧ w'.cell? ⟨(ad280.add ((x9_2).toNat * 12)).block, (ad280.add ((x9_2).toNat * 12)).off + 3, none⟩ = some (.int .i64 ((rd_T40 t276 x9_2).f3)) ∧ w'.cell? ⟨(ad280.add ((x9_2).toNat * 12)).block, (ad280.add ((x9_2).toNat * 12)).off + 4, none⟩ = some (.int .i64 ((rd_T40 t276 x9_2).f4)) ∧ w'.cell? ⟨(ad280.add ((x9_2).toNat * 12)).block, (ad280.add ((x9_2).toNat * 12)).off + 5, none⟩ = some (.int .i64 ((rd_T40 t276 x9_2).f5)) ∧ w'.cell? ⟨(ad280.add ((x9_2).toNat * 12)).block, (ad280.add ((x9_2).toNat * 12)).off + 6, none⟩ = some (.int .i64 ((rd_T40 t276 x9_2).f6)) ∧ w'.cell? ⟨(ad280.add ((x9_2).toNat * 12)).block, (ad280.add ((x9_2).toNat * 12)).off + 7, none⟩ = some (.int .i64 ((rd_T40 t276 x9_2).f7)) ∧ w'.cell? ⟨(ad280.add ((x9_2).toNat * 12)).block, (ad280.add ((x9_2).toNat * 12)).off + 8, none⟩ = some (.string ((rd_T40 t276 x9_2).f8)) ∧ w'.cell? ⟨(ad280.add ((x9_2).toNat * 12)).block, (ad280.add ((x9_2).toNat * 12)).off + 9, none⟩ = some (.string ((rd_T40 t276 x9_2).f9)) ∧ w'.cell? ⟨(ad280.add ((x9_2).toNat * 12)).block, (ad280.add ((x9_2).toNat * 12)).off + 10, none⟩ = some (.slice A280_10 ((rd_T40 t276 x9_2).f10).length c280_10) ∧ w'.cell? ⟨(ad280.add ((x9_2).toNat * 12)).block, (ad280.add ((x9_2).toNat * 12)).off + 11, none⟩ = some (.slice A280_11 ((rd_T40 t276 x9_2).f11).length c280_11)) (ds := []) #[false, false, false, false, false, false, false, false, false, false] (by kernel_rfl) rfl rfl ⟨hx279_0, hx279_1, hx279_2, hx279_3, hx279_4, hx279_5, hx279_6, hx279_7, hx279_8, hx279_9, hx279_10, hx279_11, hx280_0, hx280_1, hx280_2, hx280_3, hx280_4, hx280_5, hx280_6, hx280_7, hx280_8, hx280_9, hx280_10, hx280_11⟩ (fun hHeld => ?_); refine with_tabW jobshelllaw34_TrapRequests.tab9 jobshelllaw34_TrapRequests.bits9 (fun HT_ HW_ => ?_)
                      generalize wr.drew = w23 at HO_7 HO_8 HB HL279_10 HL279_11 HL280_10 HL280_11 HR279_10 HR279_11 HR280_10 HR280_11 hx279_0 hx279_1 hx279_10 hx279_11 hx279_2 hx279_3 hx279_4 hx279_5 hx279_6 hx279_7 hx279_8 hx279_9 hx280_0 hx280_1 hx280_10 hx280_11 hx280_2 hx280_3 hx280_4 hx280_5 hx280_6 hx280_7 hx280_8 hx280_9 hHeld ⊢
                      refine pure_ (i := 0) (N := some 38) (v := ?_) (a' := ?_) #[true, false, false, false, false, false, false, false, false, false] rfl rfl (any_of HT_.out (by kernel_rfl)) (fun _ _ _ h => h) (Or.inl ⟨by rfl, ?_⟩) ?_ ?_
                      rotate_left
                      · intro w'
                        go_simp
                        with_reducible rfl
                      rotate_left
                      · simp only [Act.put, List.setIfInBounds_toArray, List.set_cons_zero, List.set_cons_succ, i64_w, i32_w]
                        rfl
                      refine pure_ (i := 1) (N := some 39) (v := ?_) (a' := ?_) #[true, true, false, false, false, false, false, false, false, false] rfl rfl (any_of HT_.out (by kernel_rfl)) (fun _ _ _ h => h) (Or.inl ⟨by rfl, ?_⟩) ?_ ?_
                      rotate_left
                      · intro w'
                        go_simp
                        with_reducible rfl
                      rotate_left
                      · simp only [Act.put, List.setIfInBounds_toArray, List.set_cons_zero, List.set_cons_succ, i64_w, i32_w]
                        rfl
                      refine pure_ (i := 2) (N := some 40) (v := ?_) (a' := ?_) #[true, true, true, false, false, false, false, false, false, false] rfl rfl (any_of HT_.out (by kernel_rfl)) (fun _ _ _ h => h) (Or.inl ⟨by rfl, ?_⟩) ?_ ?_
                      rotate_left
                      · intro w'
                        go_simp
                        with_reducible rfl
                      rotate_left
                      · simp only [Act.put, List.setIfInBounds_toArray, List.set_cons_zero, List.set_cons_succ, i64_w, i32_w]
                        rfl
                      refine pure_ (i := 4) (N := some 42) (v := ?_) (a' := ?_) #[true, true, true, false, true, false, false, false, false, false] rfl rfl (any_of HT_.out (by kernel_rfl)) (fun _ _ _ h => h) (Or.inl ⟨by rfl, ?_⟩) ?_ ?_
                      rotate_left
                      · intro w'
                        go_simp
                        with_reducible rfl
                      rotate_left
                      · simp only [Act.put, List.setIfInBounds_toArray, List.set_cons_zero, List.set_cons_succ, i64_w, i32_w]
                        rfl
                      refine pure_ (i := 5) (N := some 43) (v := ?_) (a' := ?_) #[true, true, true, false, true, true, false, false, false, false] rfl rfl (any_of HT_.out (by kernel_rfl)) (fun _ _ _ h => h) (Or.inl ⟨by rfl, ?_⟩) ?_ ?_
                      rotate_left
                      · intro w'
                        go_simp
                        with_reducible rfl
                      rotate_left
                      · simp only [Act.put, List.setIfInBounds_toArray, List.set_cons_zero, List.set_cons_succ, i64_w, i32_w]
                        rfl
                      refine pure_ (i := 6) (N := some 44) (v := ?_) (a' := ?_) #[true, true, true, false, true, true, true, false, false, false] rfl rfl (any_of HT_.out (by kernel_rfl)) (fun _ _ _ h => h) (Or.inl ⟨by rfl, ?_⟩) ?_ ?_
                      rotate_left
                      · intro w'
                        go_simp
                        with_reducible rfl
                      rotate_left
                      · simp only [Act.put, List.setIfInBounds_toArray, List.set_cons_zero, List.set_cons_succ, i64_w, i32_w]
                        rfl
                      refine take_ (i := 3) (N := some 41) (v := ?_) (a' := ?_) #[true, true, true, true, true, true, true, false, false, false] rfl rfl (take_ofW HT_.out HW_.out (by kernel_rfl)) (fun _ _ _ h => h) (Or.inl ⟨by rfl, ?_⟩) hHeld ?_ ?_
                      rotate_left
                      · rintro w' ⟨s0, s1, s2, s3, s4, s5, s6, s7, s8, s9, s10, s11, s12, s13, s14, s15, s16, s17, s18, s19, s20, s21, s22, s23⟩
                        go_simp
                        with_reducible rfl
                      rotate_left
                      · simp only [Act.put, List.setIfInBounds_toArray, List.set_cons_zero, List.set_cons_succ, i64_w, i32_w]
                        rfl
                      refine take_ (i := 7) (N := some 45) (v := ?_) (a' := ?_) #[true, true, true, true, true, true, true, true, false, false] rfl rfl (take_ofW HT_.out HW_.out (by kernel_rfl)) (fun _ _ _ h => h) (Or.inl ⟨by rfl, ?_⟩) hHeld ?_ ?_
                      rotate_left
                      · rintro w' ⟨s0, s1, s2, s3, s4, s5, s6, s7, s8, s9, s10, s11, s12, s13, s14, s15, s16, s17, s18, s19, s20, s21, s22, s23⟩
                        go_simp
                        with_reducible rfl
                      rotate_left
                      · simp only [Act.put, List.setIfInBounds_toArray, List.set_cons_zero, List.set_cons_succ, i64_w, i32_w]
                        rfl
                      refine one_ (i := 8) (N := some 46) #[true, true, true, true, true, true, true, true, true, false] rfl rfl (one_of HT_.out (by kernel_rfl)) (by decide) (fun K hK => ?_)
                      refine goes_ Tryd.func19 (by kernel_rfl) rfl #[.agg #[.int .i64 ((rd_T40 t273 x9_2).f0), .int .i64 ((rd_T40 t273 x9_2).f1), .int .i64 ((rd_T40 t273 x9_2).f2), .int .i64 ((rd_T40 t273 x9_2).f3), .int .i64 ((rd_T40 t273 x9_2).f4), .int .i64 ((rd_T40 t273 x9_2).f5), .int .i64 ((rd_T40 t273 x9_2).f6), .int .i64 ((rd_T40 t273 x9_2).f7), .string ((rd_T40 t273 x9_2).f8), .string ((rd_T40 t273 x9_2).f9), .slice A279_10 ((rd_T40 t273 x9_2).f10).length c279_10, .slice A279_11 ((rd_T40 t273 x9_2).f11).length c279_11], .agg #[.int .i64 ((rd_T40 t276 x9_2).f0), .int .i64 ((rd_T40 t276 x9_2).f1), .int .i64 ((rd_T40 t276 x9_2).f2), .int .i64 ((rd_T40 t276 x9_2).f3), .int .i64 ((rd_T40 t276 x9_2).f4), .int .i64 ((rd_T40 t276 x9_2).f5), .int .i64 ((rd_T40 t276 x9_2).f6), .int .i64 ((rd_T40 t276 x9_2).f7), .string ((rd_T40 t276 x9_2).f8), .string ((rd_T40 t276 x9_2).f9), .slice A280_10 ((rd_T40 t276 x9_2).f10).length c280_10, .slice A280_11 ((rd_T40 t276 x9_2).f11).length c280_11]] (by rfl) rfl rfl (by (try simp only [List.map_toArray, List.map_cons, List.map_nil]); first | done | rfl | (simp only [List.length_drop, List.length_take]; rfl)) ?_
                      with_reducible refine (jobshellref31_SameReq.calls k2 ((rd_T40 t273 x9_2).f0) ((rd_T40 t273 x9_2).f1) ((rd_T40 t273 x9_2).f2) ((rd_T40 t273 x9_2).f3) ((rd_T40 t273 x9_2).f4) ((rd_T40 t273 x9_2).f5) ((rd_T40 t273 x9_2).f6) ((rd_T40 t273 x9_2).f7) ((rd_T40 t273 x9_2).f8) ((rd_T40 t273 x9_2).f9) _ _ ((rd_T40 t273 x9_2).f10) _ _ ((rd_T40 t273 x9_2).f11) ((rd_T40 t276 x9_2).f0) ((rd_T40 t276 x9_2).f1) ((rd_T40 t276 x9_2).f2) ((rd_T40 t276 x9_2).f3) ((rd_T40 t276 x9_2).f4) ((rd_T40 t276 x9_2).f5) ((rd_T40 t276 x9_2).f6) ((rd_T40 t276 x9_2).f7) ((rd_T40 t276 x9_2).f8) ((rd_T40 t276 x9_2).f9) _ _ ((rd_T40 t276 x9_2).f10) _ _ ((rd_T40 t276 x9_2).f11) true _ ?side1 ?side2 ?side3 ?side4 ?side5 ?side6 ?side7 ?side8 A21.out).mono ?_
                      (case side1 => repeat (first | exact (by repeat (first | (with_reducible exact HR279_10.out) | (with_reducible refine Kd.C_alloc ?_ _) | (with_reducible refine Kd.C_drewN ?_ _) | (with_reducible refine Kd.C_drew ?_) | exact HR279_10.out)) | (with_reducible refine Kd.C_alloc ?_ _) | (with_reducible refine Kd.C_drewN ?_ _) | (with_reducible refine Kd.C_drew ?_)))
                      (case side2 => exact HC279_10.out)
                      (case side3 => repeat (first | exact (by repeat (first | (with_reducible exact HR279_11.out) | (with_reducible refine Kd.C_alloc ?_ _) | (with_reducible refine Kd.C_drewN ?_ _) | (with_reducible refine Kd.C_drew ?_) | exact HR279_11.out)) | (with_reducible refine Kd.C_alloc ?_ _) | (with_reducible refine Kd.C_drewN ?_ _) | (with_reducible refine Kd.C_drew ?_)))
                      (case side4 => exact HC279_11.out)
                      (case side5 => repeat (first | exact (by repeat (first | (with_reducible exact HR280_10.out) | (with_reducible refine Kd.C_alloc ?_ _) | (with_reducible refine Kd.C_drewN ?_ _) | (with_reducible refine Kd.C_drew ?_) | exact HR280_10.out)) | (with_reducible refine Kd.C_alloc ?_ _) | (with_reducible refine Kd.C_drewN ?_ _) | (with_reducible refine Kd.C_drew ?_)))
                      (case side6 => exact HC280_10.out)
                      (case side7 => repeat (first | exact (by repeat (first | (with_reducible exact HR280_11.out) | (with_reducible refine Kd.C_alloc ?_ _) | (with_reducible refine Kd.C_drewN ?_ _) | (with_reducible refine Kd.C_drew ?_) | exact HR280_11.out)) | (with_reducible refine Kd.C_alloc ?_ _) | (with_reducible refine Kd.C_drewN ?_ _) | (with_reducible refine Kd.C_drew ?_)))
                      (case side8 => exact HC280_11.out)
                      rintro e w24 ⟨rfl, hb⟩
                      have HS0_ := (hb.cell (World.block_lt_of_cell? _ _ (hHeld.1))).trans (hHeld.1)
                      have HS1_ := (hb.cell (World.block_lt_of_cell? _ _ (hHeld.2.1))).trans (hHeld.2.1)
                      have HS2_ := (hb.cell (World.block_lt_of_cell? _ _ (hHeld.2.2.1))).trans (hHeld.2.2.1)
                      have HS3_ := (hb.cell (World.block_lt_of_cell? _ _ (hHeld.2.2.2.1))).trans (hHeld.2.2.2.1)
                      have HS4_ := (hb.cell (World.block_lt_of_cell? _ _ (hHeld.2.2.2.2.1))).trans (hHeld.2.2.2.2.1)
                      have HS5_ := (hb.cell (World.block_lt_of_cell? _ _ (hHeld.2.2.2.2.2.1))).trans (hHeld.2.2.2.2.2.1)
                      have HS6_ := (hb.cell (World.block_lt_of_cell? _ _ (hHeld.2.2.2.2.2.2.1))).trans (hHeld.2.2.2.2.2.2.1)
                      have HS7_ := (hb.cell (World.block_lt_of_cell? _ _ (hHeld.2.2.2.2.2.2.2.1))).trans (hHeld.2.2.2.2.2.2.2.1)
                      have HS8_ := (hb.cell (World.block_lt_of_cell? _ _ (hHeld.2.2.2.2.2.2.2.2.1))).trans (hHeld.2.2.2.2.2.2.2.2.1)
                      have HS9_ := (hb.cell (World.block_lt_of_cell? _ _ (hHeld.2.2.2.2.2.2.2.2.2.1))).trans (hHeld.2.2.2.2.2.2.2.2.2.1)
                      have HS10_ := (hb.cell (World.block_lt_of_cell? _ _ (hHeld.2.2.2.2.2.2.2.2.2.2.1))).trans (hHeld.2.2.2.2.2.2.2.2.2.2.1)
                      have HS11_ := (hb.cell (World.block_lt_of_cell? _ _ (hHeld.2.2.2.2.2.2.2.2.2.2.2.1))).trans (hHeld.2.2.2.2.2.2.2.2.2.2.2.1)
                      have HS12_ := (hb.cell (World.block_lt_of_cell? _ _ (hHeld.2.2.2.2.2.2.2.2.2.2.2.2.1))).trans (hHeld.2.2.2.2.2.2.2.2.2.2.2.2.1)
                      have HS13_ := (hb.cell (World.block_lt_of_cell? _ _ (hHeld.2.2.2.2.2.2.2.2.2.2.2.2.2.1))).trans (hHeld.2.2.2.2.2.2.2.2.2.2.2.2.2.1)
                      have HS14_ := (hb.cell (World.block_lt_of_cell? _ _ (hHeld.2.2.2.2.2.2.2.2.2.2.2.2.2.2.1))).trans (hHeld.2.2.2.2.2.2.2.2.2.2.2.2.2.2.1)
                      have HS15_ := (hb.cell (World.block_lt_of_cell? _ _ (hHeld.2.2.2.2.2.2.2.2.2.2.2.2.2.2.2.1))).trans (hHeld.2.2.2.2.2.2.2.2.2.2.2.2.2.2.2.1)
                      have HS16_ := (hb.cell (World.block_lt_of_cell? _ _ (hHeld.2.2.2.2.2.2.2.2.2.2.2.2.2.2.2.2.1))).trans (hHeld.2.2.2.2.2.2.2.2.2.2.2.2.2.2.2.2.1)
                      have HS17_ := (hb.cell (World.block_lt_of_cell? _ _ (hHeld.2.2.2.2.2.2.2.2.2.2.2.2.2.2.2.2.2.1))).trans (hHeld.2.2.2.2.2.2.2.2.2.2.2.2.2.2.2.2.2.1)
                      have HS18_ := (hb.cell (World.block_lt_of_cell? _ _ (hHeld.2.2.2.2.2.2.2.2.2.2.2.2.2.2.2.2.2.2.1))).trans (hHeld.2.2.2.2.2.2.2.2.2.2.2.2.2.2.2.2.2.2.1)
                      have HS19_ := (hb.cell (World.block_lt_of_cell? _ _ (hHeld.2.2.2.2.2.2.2.2.2.2.2.2.2.2.2.2.2.2.2.1))).trans (hHeld.2.2.2.2.2.2.2.2.2.2.2.2.2.2.2.2.2.2.2.1)
                      have HS20_ := (hb.cell (World.block_lt_of_cell? _ _ (hHeld.2.2.2.2.2.2.2.2.2.2.2.2.2.2.2.2.2.2.2.2.1))).trans (hHeld.2.2.2.2.2.2.2.2.2.2.2.2.2.2.2.2.2.2.2.2.1)
                      have HS21_ := (hb.cell (World.block_lt_of_cell? _ _ (hHeld.2.2.2.2.2.2.2.2.2.2.2.2.2.2.2.2.2.2.2.2.2.1))).trans (hHeld.2.2.2.2.2.2.2.2.2.2.2.2.2.2.2.2.2.2.2.2.2.1)
                      have HS22_ := (hb.cell (World.block_lt_of_cell? _ _ (hHeld.2.2.2.2.2.2.2.2.2.2.2.2.2.2.2.2.2.2.2.2.2.2.1))).trans (hHeld.2.2.2.2.2.2.2.2.2.2.2.2.2.2.2.2.2.2.2.2.2.2.1)
                      have HS23_ := (hb.cell (World.block_lt_of_cell? _ _ (hHeld.2.2.2.2.2.2.2.2.2.2.2.2.2.2.2.2.2.2.2.2.2.2.2))).trans (hHeld.2.2.2.2.2.2.2.2.2.2.2.2.2.2.2.2.2.2.2.2.2.2.2)
                      refine ⟨_, rfl, ?_⟩
                      have n0_ := Aside0.mk (Kd.S_below (by (with_reducible repeat (first | apply Kd.S_alloc | apply Kd.S_drewN | apply Kd.S_drew)); exact HO_7.out) hb)
                      have n1_ := Aside0.mk (Kd.S_below (by (with_reducible repeat (first | apply Kd.S_alloc | apply Kd.S_drewN | apply Kd.S_drew)); exact HO_8.out) hb)
                      have n2_ := Aside0.mk (Kd.R_below (by (with_reducible repeat (first | apply Kd.R_alloc | apply Kd.R_drewN | apply Kd.R_drew)); exact HL279_10.out) hb)
                      have n3_ := Aside0.mk (Kd.R_below (by (with_reducible repeat (first | apply Kd.R_alloc | apply Kd.R_drewN | apply Kd.R_drew)); exact HL279_11.out) hb)
                      have n4_ := Aside0.mk (Kd.R_below (by (with_reducible repeat (first | apply Kd.R_alloc | apply Kd.R_drewN | apply Kd.R_drew)); exact HL280_10.out) hb)
                      have n5_ := Aside0.mk (Kd.R_below (by (with_reducible repeat (first | apply Kd.R_alloc | apply Kd.R_drewN | apply Kd.R_drew)); exact HL280_11.out) hb)
                      have n6_ := Aside0.mk (Kd.C_below (by repeat (first | (with_reducible exact HR279_10.out) | (with_reducible refine Kd.C_alloc ?_ _) | (with_reducible refine Kd.C_drewN ?_ _) | (with_reducible refine Kd.C_drew ?_) | exact HR279_10.out)) hb)
                      have n7_ := Aside0.mk (Kd.C_below (by repeat (first | (with_reducible exact HR279_11.out) | (with_reducible refine Kd.C_alloc ?_ _) | (with_reducible refine Kd.C_drewN ?_ _) | (with_reducible refine Kd.C_drew ?_) | exact HR279_11.out)) hb)
                      have n8_ := Aside0.mk (Kd.C_below (by repeat (first | (with_reducible exact HR280_10.out) | (with_reducible refine Kd.C_alloc ?_ _) | (with_reducible refine Kd.C_drewN ?_ _) | (with_reducible refine Kd.C_drew ?_) | exact HR280_10.out)) hb)
                      have n9_ := Aside0.mk (Kd.C_below (by repeat (first | (with_reducible exact HR280_11.out) | (with_reducible refine Kd.C_alloc ?_ _) | (with_reducible refine Kd.C_drewN ?_ _) | (with_reducible refine Kd.C_drew ?_) | exact HR280_11.out)) hb)
                      have n10_ := Aside0.mk (below_step (by repeat (first | (with_reducible first | exact HB.out | apply below_alloc | apply pw_below_drewN | apply below_drew1) | exact HB.out)) hb)
                      clear HO_7
                      clear HO_8
                      clear HL279_10
                      clear HL279_11
                      clear HL280_10
                      clear HL280_11
                      clear HR279_10
                      clear HR279_11
                      clear HR280_10
                      clear HR280_11
                      clear HB
                      have HO_7 := n0_
                      have HO_8 := n1_
                      have HL279_10 := n2_
                      have HL279_11 := n3_
                      have HL280_10 := n4_
                      have HL280_11 := n5_
                      have HR279_10 := n6_
                      have HR279_11 := n7_
                      have HR280_10 := n8_
                      have HR280_11 := n9_
                      have HB := n10_
                      clear n0_ n1_ n2_ n3_ n4_ n5_ n6_ n7_ n8_ n9_ n10_
                      (try clear hb)
                      (try clear hb2)
                      (try clear hk)
                      (try clear hi)
                      refine hK.out _ _ ⟨HS0_, HS1_, HS2_, HS3_, HS4_, HS5_, HS6_, HS7_, HS8_, HS9_, HS10_, HS11_, HS12_, HS13_, HS14_, HS15_, HS16_, HS17_, HS18_, HS19_, HS20_, HS21_, HS22_, HS23_⟩ (fun hHeld => ?_)
                      clear hK K
                      refine norm_ (a' := ?_) ?_ ?_
                      rotate_left
                      · show Act.put _ (some 46) _ = _
                        simp only [Act.put, List.setIfInBounds_toArray, List.set_cons_zero, List.set_cons_succ, i64_w, i32_w]
                        rfl
                      refine pure_ (i := 9) (N := some 47) (v := ?_) (a' := ?_) #[true, true, true, true, true, true, true, true, true, true] rfl rfl (any_of HT_.out (by kernel_rfl)) (fun _ _ _ h => h) (Or.inl ⟨by rfl, ?_⟩) ?_ ?_
                      rotate_left
                      · intro w'
                        go_simp
                        with_reducible rfl
                      rotate_left
                      · simp only [Act.put, List.setIfInBounds_toArray, List.set_cons_zero, List.set_cons_succ, i64_w, i32_w]
                        rfl
                      refine done_ (done_of HT_.out (by kernel_rfl)) ?_
                      try go_wp2
                      go_roundg k2
                      case measure => have := HJ3.out; have := HK2.out; omega
                      case rel => exact ⟨(wrap64 (x9_2 + 1)), (by first | rfl | (simp; done) | (simp [*]; done) | exact congrArg (fun b => Ending.returned (Value.bool b)) (Ch.bne_nil _)), H', ⟨by have := HJ3.out; have := HK2.out; omega⟩, ⟨by (with_reducible repeat (first | apply Kd.S_alloc | apply Kd.S_drewN | apply Kd.S_drew)); exact HO_7.out⟩, ⟨by (with_reducible repeat (first | apply Kd.S_alloc | apply Kd.S_drewN | apply Kd.S_drew)); exact HO_8.out⟩, ⟨by repeat (first | (with_reducible first | exact HB.out | apply below_alloc | apply pw_below_drewN | apply below_drew1) | exact HB.out)⟩⟩
                    · replace c22 := Bool.eq_false_iff.mpr c22
                      subst c22
                      have H1 : (some false) = some r := by rw [if_neg (show ¬ (false = true) by decide)] at H; exact H
                      clear H
                      have H := H1
                      clear H1
                      exact absurd ((Option.some.inj H).trans HT.out) (by decide)
                  · rw [if_neg c20] at H
                    exact absurd H (by simp)
                · rw [if_neg c19] at H
                  exact absurd H (by simp)
              · rw [if_neg c18] at H
                have c18b0 : decide (x9_2 < (t273.length : Int)) = false := decide_eq_false c18
                clear c18
                replace H := Option.bind_eq_some_iff.mp H
                obtain ⟨t282, A250, H⟩ := H
                replace H : (some t282) = some r := H
                have A25 := Aside0.mk A250
                clear A250
                obtain rfl := Option.some.inj H
                go_wp2_with (first | ((with_reducible refine gate_callee (f := 10) rfl ?_); refine goesL_ (some 48) rfl rfl Tryd.func10 (by kernel_rfl) rfl #[] rfl (by (try simp only [List.map_toArray, List.map_cons, List.map_nil]); first | done | rfl | (simp only [List.length_drop, List.length_take]; rfl)) ?_; (with_reducible refine (jobshelllaw34_awake.calls k2  t282 _ A25.out).mono ?_); rintro e w26 ⟨rfl, hb⟩; refine ⟨_, rfl, ?_⟩; have n0_ := Aside0.mk (Kd.S_below (by (with_reducible repeat (first | apply Kd.S_alloc | apply Kd.S_drewN | apply Kd.S_drew)); exact HO_7.out) hb); have n1_ := Aside0.mk (Kd.S_below (by (with_reducible repeat (first | apply Kd.S_alloc | apply Kd.S_drewN | apply Kd.S_drew)); exact HO_8.out) hb); have n2_ := Aside0.mk (below_step (by repeat (first | (with_reducible first | exact HB.out | apply below_alloc | apply pw_below_drewN | apply below_drew1) | exact HB.out)) hb); clear HO_7; clear HO_8; clear HB; have HO_7 := n0_; have HO_8 := n1_; have HB := n2_; clear n0_ n1_ n2_; (try clear hb); (try clear hb2); (try clear hk); (try clear hi)))
                go_ret
                exact ⟨by first | rfl | (simp [errW_none, errW_some] <;> rfl) | (simp [*, errW_none, errW_some] <;> rfl), by repeat (first | (with_reducible first | exact HB.out | apply below_alloc | apply pw_below_drewN | apply below_drew1) | exact HB.out)⟩
        · rw [if_neg c13] at H
          have c13b0 : ((t273.length : Int) == (t276.length : Int)) = false := beq_eq_false_iff_ne.mpr c13
          have c13b1 : ((t273.length : Int) != (t276.length : Int)) = true := bne_iff_ne.mpr c13
          have c13b2 : (t273.length == t276.length) = false := by first | simpa using c13 | (simp at c13 ⊢; omega)
          exact absurd ((Option.some.inj H).trans HT.out) (by decide)

end Go.Proofs.YtphgcpoefpogfaaDoor.PS

-- Written by a program of this session's (wip/mkprint.py) out of the translation; the texts of functions that the program does not take are mine.
import Derived.Test.YthafbimhmfjcoaaDoorPVx0
import Derived.Test.YthafbimhmfjcoaaDoorPVx1
namespace Go.Proofs.YthafbimhmfjcoaaDoor.PV
open Go.RowKit Go.Proofs.YthafbimhmfjcoaaDoorW.PrintWords Go.Proofs.YthafbimhmfjcoaaDoorW.PrintLast Go.Proofs.YthafbimhmfjcoaaDoorW.PrintMore
attribute [local go_sem] max2_int min2_int max_two min_two max_three min_three max_four min_four   -- for this text's walks alone
set_option linter.unusedVariables false
set_option linter.unusedSimpArgs false

mutual
def jobs_Add.j0 : Nat → List (S35) → Int → List Int → ByteArray → Bool → Option ((List (S35)) × Int × Int)
  | 0, _, _, _, _, _ => none
  | k + 1, x0, x1, x2, x3, x32 => if x32 = true then (some (x0, 0, 1)) else (jobs_Add.l0 k x0 x1 x2 x3 x2 (x2.length : Int) 0)
def jobs_Add.l0 : Nat → List (S35) → Int → List Int → ByteArray → List Int → Int → Int → Option ((List (S35)) × Int × Int)
  | 0, _, _, _, _, _, _, _ => none
  | k + 1, x0, x1, x2, x3, x34, x35, x36 => if x36 < x35 then (if 0 ≤ x36 then (if x36 < (x34.length : Int) then (if (rd x34 x36) < 1 then (some (x0, 0, 1)) else (if (rd x34 x36) > 2147483647 then (some (x0, 0, 1)) else (jobs_Add.l0 k x0 x1 x2 x3 x34 x35 (wrap64 (x36 + 1))))) else (none)) else (none)) else (jobs_Add.l1 k x0 x1 x2 x3 x2 (x2.length : Int) 0)
def jobs_Add.l1 : Nat → List (S35) → Int → List Int → ByteArray → List Int → Int → Int → Option ((List (S35)) × Int × Int)
  | 0, _, _, _, _, _, _, _ => none
  | k + 1, x0, x1, x2, x3, x48, x49, x50 => if x50 < x49 then (if 0 ≤ x50 then (if x50 < (x48.length : Int) then (if x50 ≤ (x2.length : Int) then ((jobs_within.f k (x2.take (x50 : Int).toNat) (rd x48 x50)).bind fun t125 => (if t125 = true then (some (x0, 0, 9)) else ((jobs_member.f k x0 (rd x48 x50)).bind fun t126 => (if t126 ≥ 0 then (some (x0, 0, 9)) else (jobs_Add.l1 k x0 x1 x2 x3 x48 x49 (wrap64 (x50 + 1))))))) else (none)) else (none)) else (none)) else (if (x3.size : Int) > 4096 then (some (x0, 0, 3)) else (jobs_Add.l2 k x0 x1 x2 x3 1 0))
def jobs_Add.l2 : Nat → List (S35) → Int → List Int → ByteArray → Int → Int → Option ((List (S35)) × Int × Int)
  | 0, _, _, _, _, _, _ => none
  | k + 1, x0, x1, x2, x3, x15, x16 => if x16 < (x0.length : Int) then (if 0 ≤ x16 then (if ((rd_T35 x0 x16).f0) = x15 then (jobs_Add.l2 k x0 x1 x2 x3 (wrap64 (x15 + 1)) ((-1) + 1)) else (jobs_Add.l2 k x0 x1 x2 x3 x15 (wrap64 (x16 + 1)))) else (none)) else ((some (([] : List Int) : List Int)).bind fun y128 => (if y128.length + x2.length < 17592186044416 then (jobs_Add.l3 k x0 x15 (x2.length : Int) 0 x15 x1 1 (y128 ++ x2) ([] : List Int) x3 true) else (none)))
def jobs_Add.l3 : Nat → List (S35) → Int → Int → Int → Int → Int → Int → List Int → List Int → ByteArray → Bool → Option ((List (S35)) × Int × Int)
  | 0, _, _, _, _, _, _, _, _, _, _, _ => none
  | k + 1, x0, x15, x95, x96, x135000, x135001, x135002, x135003, x135004, x135005, x135006 => if x96 < x95 then ((some (([(-1)] : List Int) : List Int)).bind fun y135 => (if x135004.length + y135.length < 17592186044416 then (jobs_Add.l3 k x0 x15 x95 (wrap64 (x96 + 1)) x135000 x135001 x135002 x135003 (x135004 ++ y135) x135005 x135006) else (none))) else ((jobs_own.f k x0).bind fun t141 => ((some (([(⟨x135000, x135001, x135002, x135003, x135004, x135005, x135006⟩ : S35)] : List (S35)) : List (S35))).bind fun y144 => (if t141.length + y144.length < 1466015503701 then (some ((t141 ++ y144), x15, 0)) else (none))))
end
def jobs_Add.f (k : Nat) (l0 : List (S35)) (a1 : Int) (l2 : List Int) (a3 : ByteArray) : Option ((List (S35)) × Int × Int) := if (l0.length : Int) ≥ 32 then (some (l0, 0, 4)) else (if a1 < 1 then (jobs_Add.j0 k l0 a1 l2 a3 true) else (if a1 > 2147483647 then (jobs_Add.j0 k l0 a1 l2 a3 true) else (jobs_Add.j0 k l0 a1 l2 a3 ((l2.length : Int) == 0))))
theorem jobs_Add.mono_l : ∀ k, (∀ y0 y1 y2 y3 y4, LeO (jobs_Add.j0 k y0 y1 y2 y3 y4) (jobs_Add.j0 (k + 1) y0 y1 y2 y3 y4)) ∧ (∀ y0 y1 y2 y3 y4 y5 y6, LeO (jobs_Add.l0 k y0 y1 y2 y3 y4 y5 y6) (jobs_Add.l0 (k + 1) y0 y1 y2 y3 y4 y5 y6)) ∧ (∀ y0 y1 y2 y3 y4 y5 y6, LeO (jobs_Add.l1 k y0 y1 y2 y3 y4 y5 y6) (jobs_Add.l1 (k + 1) y0 y1 y2 y3 y4 y5 y6)) ∧ (∀ y0 y1 y2 y3 y4 y5, LeO (jobs_Add.l2 k y0 y1 y2 y3 y4 y5) (jobs_Add.l2 (k + 1) y0 y1 y2 y3 y4 y5)) ∧ (∀ y0 y1 y2 y3 y4 y5 y6 y7 y8 y9 y10, LeO (jobs_Add.l3 k y0 y1 y2 y3 y4 y5 y6 y7 y8 y9 y10) (jobs_Add.l3 (k + 1) y0 y1 y2 y3 y4 y5 y6 y7 y8 y9 y10))
  | 0 => ⟨fun _ _ _ _ _ r h => by simp [jobs_Add.j0] at h, fun _ _ _ _ _ _ _ r h => by simp [jobs_Add.l0] at h, fun _ _ _ _ _ _ _ r h => by simp [jobs_Add.l1] at h, fun _ _ _ _ _ _ r h => by simp [jobs_Add.l2] at h, fun _ _ _ _ _ _ _ _ _ _ _ r h => by simp [jobs_Add.l3] at h⟩
  | k + 1 => by
    obtain ⟨ih0, ih1, ih2, ih3, ih4⟩ := jobs_Add.mono_l k
    refine ⟨?_, ?_, ?_, ?_, ?_⟩
    · intro y0 y1 y2 y3 y4
      unfold jobs_Add.j0
      repeat' first
      | (with_reducible exact ih0 _ _ _ _ _)
      | (with_reducible exact ih1 _ _ _ _ _ _ _)
      | (with_reducible exact ih2 _ _ _ _ _ _ _)
      | (with_reducible exact ih3 _ _ _ _ _ _)
      | (with_reducible exact ih4 _ _ _ _ _ _ _ _ _ _ _)
      | (with_reducible exact jobs_member.mono _ _ _)
      | (with_reducible exact jobs_own.mono _ _)
      | (with_reducible exact jobs_within.mono _ _ _)
      | (with_reducible exact LeO.refl _)
      | (with_reducible exact LeO.none _)
      | (with_reducible refine LeO.ite ?_ ?_)
      | (with_reducible refine LeO.bind ?_ (fun _ => ?_))
      | exact ih0 _ _ _ _ _
      | exact ih1 _ _ _ _ _ _ _
      | exact ih2 _ _ _ _ _ _ _
      | exact ih3 _ _ _ _ _ _
      | exact ih4 _ _ _ _ _ _ _ _ _ _ _
      | exact jobs_member.mono _ _ _
      | exact jobs_own.mono _ _
      | exact jobs_within.mono _ _ _
      | exact LeO.none _
      | refine LeO.ite ?_ ?_
      | refine LeO.bind ?_ (fun _ => ?_)
    · intro y0 y1 y2 y3 y4 y5 y6
      unfold jobs_Add.l0
      repeat' first
      | (with_reducible exact ih0 _ _ _ _ _)
      | (with_reducible exact ih1 _ _ _ _ _ _ _)
      | (with_reducible exact ih2 _ _ _ _ _ _ _)
      | (with_reducible exact ih3 _ _ _ _ _ _)
      | (with_reducible exact ih4 _ _ _ _ _ _ _ _ _ _ _)
      | (with_reducible exact jobs_member.mono _ _ _)
      | (with_reducible exact jobs_own.mono _ _)
      | (with_reducible exact jobs_within.mono _ _ _)
      | (with_reducible exact LeO.refl _)
      | (with_reducible exact LeO.none _)
      | (with_reducible refine LeO.ite ?_ ?_)
      | (with_reducible refine LeO.bind ?_ (fun _ => ?_))
      | exact ih0 _ _ _ _ _
      | exact ih1 _ _ _ _ _ _ _
      | exact ih2 _ _ _ _ _ _ _
      | exact ih3 _ _ _ _ _ _
      | exact ih4 _ _ _ _ _ _ _ _ _ _ _
      | exact jobs_member.mono _ _ _
      | exact jobs_own.mono _ _
      | exact jobs_within.mono _ _ _
      | exact LeO.none _
      | refine LeO.ite ?_ ?_
      | refine LeO.bind ?_ (fun _ => ?_)
    · intro y0 y1 y2 y3 y4 y5 y6
      unfold jobs_Add.l1
      repeat' first
      | (with_reducible exact ih0 _ _ _ _ _)
      | (with_reducible exact ih1 _ _ _ _ _ _ _)
      | (with_reducible exact ih2 _ _ _ _ _ _ _)
      | (with_reducible exact ih3 _ _ _ _ _ _)
      | (with_reducible exact ih4 _ _ _ _ _ _ _ _ _ _ _)
      | (with_reducible exact jobs_member.mono _ _ _)
      | (with_reducible exact jobs_own.mono _ _)
      | (with_reducible exact jobs_within.mono _ _ _)
      | (with_reducible exact LeO.refl _)
      | (with_reducible exact LeO.none _)
      | (with_reducible refine LeO.ite ?_ ?_)
      | (with_reducible refine LeO.bind ?_ (fun _ => ?_))
      | exact ih0 _ _ _ _ _
      | exact ih1 _ _ _ _ _ _ _
      | exact ih2 _ _ _ _ _ _ _
      | exact ih3 _ _ _ _ _ _
      | exact ih4 _ _ _ _ _ _ _ _ _ _ _
      | exact jobs_member.mono _ _ _
      | exact jobs_own.mono _ _
      | exact jobs_within.mono _ _ _
      | exact LeO.none _
      | refine LeO.ite ?_ ?_
      | refine LeO.bind ?_ (fun _ => ?_)
    · intro y0 y1 y2 y3 y4 y5
      unfold jobs_Add.l2
      repeat' first
      | (with_reducible exact ih0 _ _ _ _ _)
      | (with_reducible exact ih1 _ _ _ _ _ _ _)
      | (with_reducible exact ih2 _ _ _ _ _ _ _)
      | (with_reducible exact ih3 _ _ _ _ _ _)
      | (with_reducible exact ih4 _ _ _ _ _ _ _ _ _ _ _)
      | (with_reducible exact jobs_member.mono _ _ _)
      | (with_reducible exact jobs_own.mono _ _)
      | (with_reducible exact jobs_within.mono _ _ _)
      | (with_reducible exact LeO.refl _)
      | (with_reducible exact LeO.none _)
      | (with_reducible refine LeO.ite ?_ ?_)
      | (with_reducible refine LeO.bind ?_ (fun _ => ?_))
      | exact ih0 _ _ _ _ _
      | exact ih1 _ _ _ _ _ _ _
      | exact ih2 _ _ _ _ _ _ _
      | exact ih3 _ _ _ _ _ _
      | exact ih4 _ _ _ _ _ _ _ _ _ _ _
      | exact jobs_member.mono _ _ _
      | exact jobs_own.mono _ _
      | exact jobs_within.mono _ _ _
      | exact LeO.none _
      | refine LeO.ite ?_ ?_
      | refine LeO.bind ?_ (fun _ => ?_)
    · intro y0 y1 y2 y3 y4 y5 y6 y7 y8 y9 y10
      unfold jobs_Add.l3
      repeat' first
      | (with_reducible exact ih0 _ _ _ _ _)
      | (with_reducible exact ih1 _ _ _ _ _ _ _)
      | (with_reducible exact ih2 _ _ _ _ _ _ _)
      | (with_reducible exact ih3 _ _ _ _ _ _)
      | (with_reducible exact ih4 _ _ _ _ _ _ _ _ _ _ _)
      | (with_reducible exact jobs_member.mono _ _ _)
      | (with_reducible exact jobs_own.mono _ _)
      | (with_reducible exact jobs_within.mono _ _ _)
      | (with_reducible exact LeO.refl _)
      | (with_reducible exact LeO.none _)
      | (with_reducible refine LeO.ite ?_ ?_)
      | (with_reducible refine LeO.bind ?_ (fun _ => ?_))
      | exact ih0 _ _ _ _ _
      | exact ih1 _ _ _ _ _ _ _
      | exact ih2 _ _ _ _ _ _ _
      | exact ih3 _ _ _ _ _ _
      | exact ih4 _ _ _ _ _ _ _ _ _ _ _
      | exact jobs_member.mono _ _ _
      | exact jobs_own.mono _ _
      | exact jobs_within.mono _ _ _
      | exact LeO.none _
      | refine LeO.ite ?_ ?_
      | refine LeO.bind ?_ (fun _ => ?_)
theorem jobs_Add.mono : ∀ a0 a1 a2 a3 k, LeO (jobs_Add.f k a0 a1 a2 a3) (jobs_Add.f (k + 1) a0 a1 a2 a3) := by
  intro a0 a1 a2 a3 k
  obtain ⟨ih0, ih1, ih2, ih3, ih4⟩ := jobs_Add.mono_l k
  unfold jobs_Add.f
  repeat' first
      | (with_reducible exact ih0 _ _ _ _ _)
      | (with_reducible exact ih1 _ _ _ _ _ _ _)
      | (with_reducible exact ih2 _ _ _ _ _ _ _)
      | (with_reducible exact ih3 _ _ _ _ _ _)
      | (with_reducible exact ih4 _ _ _ _ _ _ _ _ _ _ _)
      | (with_reducible exact jobs_member.mono _ _ _)
      | (with_reducible exact jobs_own.mono _ _)
      | (with_reducible exact jobs_within.mono _ _ _)
      | (with_reducible exact LeO.refl _)
      | (with_reducible exact LeO.none _)
      | (with_reducible refine LeO.ite ?_ ?_)
      | (with_reducible refine LeO.bind ?_ (fun _ => ?_))
      | exact ih0 _ _ _ _ _
      | exact ih1 _ _ _ _ _ _ _
      | exact ih2 _ _ _ _ _ _ _
      | exact ih3 _ _ _ _ _ _
      | exact ih4 _ _ _ _ _ _ _ _ _ _ _
      | exact jobs_member.mono _ _ _
      | exact jobs_own.mono _ _
      | exact jobs_within.mono _ _ _
      | exact LeO.none _
      | refine LeO.ite ?_ ?_
      | refine LeO.bind ?_ (fun _ => ?_)
def jobs_Add.T31 : Bool × List (List Nat × List Nat) := (true, [([], []), ([0], [0]), ([], []), ([2], [2]), ([1, 3, 1], [1, 3]), ([], []), ([4, 4, 0, 1, 2, 3, 4], [4]), ([5, 6, 0, 1, 2, 3, 4, 5, 6], [5]), ([7, 0, 1, 2, 3, 4, 5, 6, 7], [])])
def jobs_Add.B31 : List Nat := [0, 1, 0, 4, 15, 0, 31, 127, 255]
theorem jobs_Add.tab31 : rtab .any (opsOf Tryd.f9 31) = jobs_Add.T31 := by kernel_rfl
theorem jobs_Add.bits31 : waitsOk jobs_Add.T31.2 jobs_Add.B31 = true := by kernel_rfl
set_option maxHeartbeats 8000000 in
set_option maxRecDepth 100000 in
theorem jobs_Add.calls (k : Nat) (P0_ : Nat → Prop) (A0 : Option Addr) (c0 : Nat) (l0 : List (S35)) (a1 : Int) (A2 : Option Addr) (c2 : Nat) (l2 : List Int) (a3 : ByteArray) (r1 : List (S35)) (r2 : Int) (r3 : Int) (w : World) (hs0 : Kd.V k35 35 w w.heap.size (fun k_ => P0_ k_) (.slice A0 l0.length c0) l0) (hr2 : Kd.C (Kd.int .i64) w A2 l2.length l2) (hc2 : l2.length ≤ c2) (h : jobs_Add.f k l0 a1 l2 a3 = some (r1, r2, r3)) (hG : Gl w) :
    Calls Tryd.prog 9 #[.slice A0 l0.length c0, .int .i64 a1, .slice A2 l2.length c2, .string a3] w fun e w' => ∃ v0_ : Value, e = .returned (.tuple #[v0_, .int .i64 r2, .int .i64 r3]) ∧ Kd.V k35 35 w' w.heap.size (fun k_ => (P0_ k_ ∨ w.heap.size ≤ k_)) v0_ r1 ∧ Below w.heap.size w w' := by
  have HG := Aside0.mk hG
  clear hG
  have hu35 := Tryd.underlying35
  have HO0 := Aside0.mk (show Kd.V k35 35 w w.heap.size (fun k_ => (P0_ k_ ∨ w.heap.size ≤ k_)) (.slice A0 l0.length c0) l0 from Kd.V_mono hs0 (fun k_ hk => .inl hk))
  have HR2 := Aside0.mk hr2
  have HC2 := Aside0.mk hc2
  clear hr2 hc2
  have HB := Aside0.mk (Below.refl w.heap.size w)
  have H : (if (l0.length : Int) ≥ 32 then (some (l0, 0, 4)) else (if a1 < 1 then (jobs_Add.j0 k l0 a1 l2 a3 true) else (if a1 > 2147483647 then (jobs_Add.j0 k l0 a1 l2 a3 true) else (jobs_Add.j0 k l0 a1 l2 a3 ((l2.length : Int) == 0))))) = some (r1, r2, r3) := h
  clear h
  by_cases c5 : (l0.length : Int) ≥ 32
  · rw [if_pos c5] at H
    have c5b0 : decide (32 ≤ (l0.length : Int)) = true := decide_eq_true c5
    have c5b1 : decide (32 ≤ l0.length) = true := decide_eq_true (by omega)
    clear c5
    simp only [Option.some.injEq, Prod.mk.injEq] at H
    obtain ⟨rfl, rfl, rfl⟩ := H
    go_enter Tryd.func9, Tryd.ntmps9
    go_wp2
    go_ret3
    exact ⟨_, by first | rfl | (simp [*]; done), by (with_reducible repeat (first | apply Kd.V_alloc | apply Kd.V_drewN | apply Kd.V_drew)); exact HO0.out, by repeat (first | (with_reducible first | exact HB.out | apply below_alloc | apply pw_below_drewN | apply below_drew1) | exact HB.out)⟩
  rw [if_neg c5] at H
  have c5b0 : decide (32 ≤ (l0.length : Int)) = false := decide_eq_false c5
  have c5b1 : decide (32 ≤ l0.length) = false := decide_eq_false (by omega)
  clear c5
  have HC6 := Aside0.mk H
  clear H
  go_enter Tryd.func9, Tryd.ntmps9
  go_upto_region 3 with (fail)
  go_cut [32] (fun v32 wc => ∃ (kq : Nat) (x32_5 : Bool), v32 = .bool x32_5 ∧ Aside0 (jobs_Add.j0 kq l0 a1 l2 a3 x32_5 = some (r1, r2, r3)) ∧ Aside0 (kq ≤ k) ∧ Aside0 (Kd.V k35 35 wc w.heap.size (fun k_ => (P0_ k_ ∨ w.heap.size ≤ k_)) (.slice A0 l0.length c0) l0) ∧ Aside0 (Below w.heap.size w wc))
  case first =>
    have H := HC6.out
    clear HC6
    by_cases c7 : a1 < 1
    · rw [if_pos c7] at H
      have c7b0 : decide (a1 < 1) = true := decide_eq_true c7
      clear c7
      (first | rw [c7b0] | (simp only [i64_w, i32_w]; rw [c7b0]) | skip)
      have H' := Aside0.mk H
      clear H
      go_wp2
      go_meet
      case rel => exact ⟨_, (true), (by first | rfl | (simp; done) | (simp [*]; done)), H', ⟨by first | omega | exact Nat.le_refl _⟩, ⟨by (with_reducible repeat (first | apply Kd.V_alloc | apply Kd.V_drewN | apply Kd.V_drew)); exact HO0.out⟩, ⟨by repeat (first | (with_reducible first | exact HB.out | apply below_alloc | apply pw_below_drewN | apply below_drew1) | exact HB.out)⟩⟩
    rw [if_neg c7] at H
    have c7b0 : decide (a1 < 1) = false := decide_eq_false c7
    clear c7
    (first | rw [c7b0] | (simp only [i64_w, i32_w]; rw [c7b0]) | skip)
    by_cases c8 : a1 > 2147483647
    rotate_left
    · rw [if_neg c8] at H
      have c8b0 : decide (2147483647 < a1) = false := decide_eq_false c8
      clear c8
      have H' := Aside0.mk H
      clear H
      go_wp2
      go_meet
      case rel => exact ⟨_, (((l2.length : Int) == 0)), (by first | rfl | (simp; done) | (simp [*]; done)), H', ⟨by first | omega | exact Nat.le_refl _⟩, ⟨by (with_reducible repeat (first | apply Kd.V_alloc | apply Kd.V_drewN | apply Kd.V_drew)); exact HO0.out⟩, ⟨by repeat (first | (with_reducible first | exact HB.out | apply below_alloc | apply pw_below_drewN | apply below_drew1) | exact HB.out)⟩⟩
    rw [if_pos c8] at H
    have c8b0 : decide (2147483647 < a1) = true := decide_eq_true c8
    clear c8
    have H' := Aside0.mk H
    clear H
    go_wp2
    go_meet
    case rel => exact ⟨_, (true), (by first | rfl | (simp; done) | (simp [*]; done)), H', ⟨by first | omega | exact Nat.le_refl _⟩, ⟨by (with_reducible repeat (first | apply Kd.V_alloc | apply Kd.V_drewN | apply Kd.V_drew)); exact HO0.out⟩, ⟨by repeat (first | (with_reducible first | exact HB.out | apply below_alloc | apply pw_below_drewN | apply below_drew1) | exact HB.out)⟩⟩
  case rest =>
    clear HC6
    obtain ⟨kq, x32_5, rfl, HA, HJ5, HO_0, HB⟩ := hcut
    cases kq with
    | zero => exact absurd HA.out (by simp [jobs_Add.j0])
    | succ kj5 =>
      have H := HA.out
      clear HA
      simp only [jobs_Add.j0] at H
      by_cases c9 : x32_5 = true
      · subst c9
        have H1 : (some (l0, 0, 1)) = some (r1, r2, r3) := by rw [if_pos rfl] at H; exact H
        clear H
        have H := H1
        clear H1
        simp only [Option.some.injEq, Prod.mk.injEq] at H
        obtain ⟨rfl, rfl, rfl⟩ := H
        go_wp2
        go_ret3
        exact ⟨_, by first | rfl | (simp [*]; done), by (with_reducible repeat (first | apply Kd.V_alloc | apply Kd.V_drewN | apply Kd.V_drew)); exact HO_0.out, by repeat (first | (with_reducible first | exact HB.out | apply below_alloc | apply pw_below_drewN | apply below_drew1) | exact HB.out)⟩
      replace c9 := Bool.eq_false_iff.mpr c9
      subst c9
      have H1 : (jobs_Add.l0 kj5 l0 a1 l2 a3 l2 (l2.length : Int) 0) = some (r1, r2, r3) := by rw [if_neg (show ¬ (false = true) by decide)] at H; exact H
      clear H
      have H := H1
      clear H1
      have H' := Aside0.mk H
      clear H
      go_wp2
      go_loopg [36] kj5 (fun kq v36 w' => ∃ (x36_2 : Int), v36 = .int .i64 x36_2 ∧ Aside0 (jobs_Add.l0 kq l0 a1 l2 a3 l2 (l2.length : Int) x36_2 = some (r1, r2, r3)) ∧ Aside0 (kq ≤ kj5) ∧ Aside0 (Kd.V k35 35 w' w.heap.size (fun k_ => (P0_ k_ ∨ w.heap.size ≤ k_)) (.slice A0 l0.length c0) l0) ∧ Aside0 (Below w.heap.size w w'))
      case atStart => exact ⟨(0), (by first | rfl | (simp; done) | (simp [*]; done)), H', ⟨Nat.le_refl _⟩, ⟨by (with_reducible repeat (first | apply Kd.V_alloc | apply Kd.V_drewN | apply Kd.V_drew)); exact HO_0.out⟩, ⟨by repeat (first | (with_reducible first | exact HB.out | apply below_alloc | apply pw_below_drewN | apply below_drew1) | exact HB.out)⟩⟩
      case round =>
        clear H'
        obtain ⟨x36_2, rfl, HA, HK2, HO_0, HB⟩ := hrel
        cases gk with
        | zero => exact absurd HA.out (by simp [jobs_Add.l0])
        | succ k2 =>
          have H := HA.out
          clear HA
          simp only [jobs_Add.l0] at H
          by_cases c10 : x36_2 < (l2.length : Int)
          · rw [if_pos c10] at H
            have c10b0 : decide (x36_2 < (l2.length : Int)) = true := decide_eq_true c10
            clear c10
            by_cases c11 : 0 ≤ x36_2
            rotate_left
            · rw [if_neg c11] at H
              exact absurd H (by simp)
            rw [if_pos c11] at H
            have c11b0 : decide (0 ≤ x36_2) = true := decide_eq_true c11
            clear c11
            by_cases c12 : x36_2 < (l2.length : Int)
            rotate_left
            · rw [if_neg c12] at H
              exact absurd H (by simp)
            rw [if_pos c12] at H
            have c12b0 : decide (x36_2 < (l2.length : Int)) = true := decide_eq_true c12
            clear c12
            by_cases c13 : (rd l2 x36_2) < 1
            · rw [if_pos c13] at H
              have c13b0 : decide ((rd l2 x36_2) < 1) = true := decide_eq_true c13
              clear c13
              simp only [Option.some.injEq, Prod.mk.injEq] at H
              obtain ⟨rfl, rfl, rfl⟩ := H
              have p122 : 0 ≤ (x36_2 : Int) := of_decide_eq_true (by with_reducible assumption)
              have q122 : x36_2 < (l2.length : Int) := of_decide_eq_true (by with_reducible assumption)
              obtain ⟨ad122, e122, hx122_0⟩ := Kd.at_int HR2.out x36_2 p122 q122
              cases e122
              replace hx122_0 := (HB.out.cell (World.block_lt_of_cell? w _ hx122_0)).trans hx122_0
              replace p122 := eq_true p122
              replace q122 := eq_true q122
              go_wp2
              go_ret3
              exact ⟨_, by first | rfl | (simp [*]; done), by (with_reducible repeat (first | apply Kd.V_alloc | apply Kd.V_drewN | apply Kd.V_drew)); exact HO_0.out, by repeat (first | (with_reducible first | exact HB.out | apply below_alloc | apply pw_below_drewN | apply below_drew1) | exact HB.out)⟩
            rw [if_neg c13] at H
            have c13b0 : decide ((rd l2 x36_2) < 1) = false := decide_eq_false c13
            clear c13
            by_cases c14 : (rd l2 x36_2) > 2147483647
            · rw [if_pos c14] at H
              have c14b0 : decide (2147483647 < (rd l2 x36_2)) = true := decide_eq_true c14
              clear c14
              simp only [Option.some.injEq, Prod.mk.injEq] at H
              obtain ⟨rfl, rfl, rfl⟩ := H
              have p122 : 0 ≤ (x36_2 : Int) := of_decide_eq_true (by with_reducible assumption)
              have q122 : x36_2 < (l2.length : Int) := of_decide_eq_true (by with_reducible assumption)
              obtain ⟨ad122, e122, hx122_0⟩ := Kd.at_int HR2.out x36_2 p122 q122
              cases e122
              replace hx122_0 := (HB.out.cell (World.block_lt_of_cell? w _ hx122_0)).trans hx122_0
              replace p122 := eq_true p122
              replace q122 := eq_true q122
              go_wp2
              go_ret3
              exact ⟨_, by first | rfl | (simp [*]; done), by (with_reducible repeat (first | apply Kd.V_alloc | apply Kd.V_drewN | apply Kd.V_drew)); exact HO_0.out, by repeat (first | (with_reducible first | exact HB.out | apply below_alloc | apply pw_below_drewN | apply below_drew1) | exact HB.out)⟩
            rw [if_neg c14] at H
            have c14b0 : decide (2147483647 < (rd l2 x36_2)) = false := decide_eq_false c14
            clear c14
            have H' := Aside0.mk H
            clear H
            have p122 : 0 ≤ (x36_2 : Int) := of_decide_eq_true (by with_reducible assumption)
            have q122 : x36_2 < (l2.length : Int) := of_decide_eq_true (by with_reducible assumption)
            obtain ⟨ad122, e122, hx122_0⟩ := Kd.at_int HR2.out x36_2 p122 q122
            cases e122
            replace hx122_0 := (HB.out.cell (World.block_lt_of_cell? w _ hx122_0)).trans hx122_0
            replace p122 := eq_true p122
            replace q122 := eq_true q122
            go_wp2
            go_roundg k2
            case measure => have := HJ5.out; have := HK2.out; omega
            case rel => exact ⟨(wrap64 (x36_2 + 1)), (by first | rfl | (simp; done) | (simp [*]; done)), H', ⟨by have := HJ5.out; have := HK2.out; omega⟩, ⟨by (with_reducible repeat (first | apply Kd.V_alloc | apply Kd.V_drewN | apply Kd.V_drew)); exact HO_0.out⟩, ⟨by repeat (first | (with_reducible first | exact HB.out | apply below_alloc | apply pw_below_drewN | apply below_drew1) | exact HB.out)⟩⟩
          rw [if_neg c10] at H
          have c10b0 : decide (x36_2 < (l2.length : Int)) = false := decide_eq_false c10
          clear c10
          have H' := Aside0.mk H
          clear H
          go_wp2
          go_loopg [50] k2 (fun kq v50 w' => ∃ (x50_3 : Int), v50 = .int .i64 x50_3 ∧ Aside0 (jobs_Add.l1 kq l0 a1 l2 a3 l2 (l2.length : Int) x50_3 = some (r1, r2, r3)) ∧ Aside0 (kq ≤ k2) ∧ Aside0 (Kd.V k35 35 w' w.heap.size (fun k_ => (P0_ k_ ∨ w.heap.size ≤ k_)) (.slice A0 l0.length c0) l0) ∧ Aside0 (Below w.heap.size w w'))
          case atStart => exact ⟨(0), (by first | rfl | (simp; done) | (simp [*]; done)), H', ⟨Nat.le_refl _⟩, ⟨by (with_reducible repeat (first | apply Kd.V_alloc | apply Kd.V_drewN | apply Kd.V_drew)); exact HO_0.out⟩, ⟨by repeat (first | (with_reducible first | exact HB.out | apply below_alloc | apply pw_below_drewN | apply below_drew1) | exact HB.out)⟩⟩
          case round =>
            clear H'
            obtain ⟨x50_3, rfl, HA, HK3, HO_0, HB⟩ := hrel
            cases gk with
            | zero => exact absurd HA.out (by simp [jobs_Add.l1])
            | succ k3 =>
              have H := HA.out
              clear HA
              simp only [jobs_Add.l1] at H
              by_cases c15 : x50_3 < (l2.length : Int)
              · rw [if_pos c15] at H
                have c15b0 : decide (x50_3 < (l2.length : Int)) = true := decide_eq_true c15
                clear c15
                by_cases c16 : 0 ≤ x50_3
                rotate_left
                · rw [if_neg c16] at H
                  exact absurd H (by simp)
                rw [if_pos c16] at H
                have c16b0 : decide (0 ≤ x50_3) = true := decide_eq_true c16
                clear c16
                by_cases c17 : x50_3 < (l2.length : Int)
                rotate_left
                · rw [if_neg c17] at H
                  exact absurd H (by simp)
                rw [if_pos c17] at H
                have c17b0 : decide (x50_3 < (l2.length : Int)) = true := decide_eq_true c17
                clear c17
                have c18b0 := eq_true (of_decide_eq_true (by with_reducible assumption) : 0 ≤ x50_3)
                by_cases c19 : x50_3 ≤ (l2.length : Int)
                rotate_left
                · rw [if_neg c19] at H
                  exact absurd H (by simp)
                rw [if_pos c19] at H
                have c19b0 := eq_true c19
                have c19b1 : decide (x50_3 ≤ (l2.length : Int)) = true := decide_eq_true c19
                clear c19
                replace H := Option.bind_eq_some_iff.mp H
                obtain ⟨t125, A200, H⟩ := H
                replace H : (if t125 = true then (some (l0, 0, 9)) else ((jobs_member.f k3 l0 (rd l2 x50_3)).bind fun t126 => (if t126 ≥ 0 then (some (l0, 0, 9)) else (jobs_Add.l1 k3 l0 a1 l2 a3 l2 (l2.length : Int) (wrap64 (x50_3 + 1)))))) = some (r1, r2, r3) := H
                have A20 := Aside0.mk A200
                clear A200
                by_cases c21 : t125 = true
                · subst c21
                  have H1 : (some (l0, 0, 9)) = some (r1, r2, r3) := by rw [if_pos rfl] at H; exact H
                  clear H
                  have H := H1
                  clear H1
                  simp only [Option.some.injEq, Prod.mk.injEq] at H
                  obtain ⟨rfl, rfl, rfl⟩ := H
                  have p123 : 0 ≤ (x50_3 : Int) := of_decide_eq_true (by with_reducible assumption)
                  have q123 : x50_3 < (l2.length : Int) := of_decide_eq_true (by with_reducible assumption)
                  obtain ⟨ad123, e123, hx123_0⟩ := Kd.at_int HR2.out x50_3 p123 q123
                  cases e123
                  replace hx123_0 := (HB.out.cell (World.block_lt_of_cell? w _ hx123_0)).trans hx123_0
                  replace p123 := eq_true p123
                  replace q123 := eq_true q123
                  obtain ⟨i022, hi022, _, hsz22, _⟩ := info_parts info3
                  obtain ⟨hcut22, hA22, hC22⟩ := print_take_of (P := Tryd.prog) (Value.int .i64) 0 23 3 .i64 Tryd.underlying23 hi022 hsz22 (some ad123) c2 l2 x50_3 (of_decide_eq_true (by with_reducible assumption)) (of_decide_eq_true (by with_reducible assumption)) HC2.out
                  have HR124 := Aside0.mk (Kd.C_of_reads (h1 := fun _ => rfl) (hA22 _ (Kd.reads_of_C HR2.out)))
                  have HC124 := Aside0.mk hC22
                  clear hA22 hC22 hi022 hsz22
                  go_wp2_with (first | ((with_reducible refine gate_callee (f := 25) rfl ?_); refine goesL_ (some 59) rfl rfl Tryd.func25 (by kernel_rfl) rfl #[.slice (some ad123) (l2.take (x50_3 : Int).toNat).length c2, .int .i64 (rd l2 x50_3)] rfl (by (try simp only [List.map_toArray, List.map_cons, List.map_nil]); first | done | (rw [show (l2.take (x50_3 : Int).toNat).length = x50_3.toNat from (by rw [List.length_take]; have h_ : (x50_3 : Int) ≤ (l2.length : Int) := of_decide_eq_true (by with_reducible assumption); omega)] <;> rfl) | rfl | (simp only [List.length_drop, List.length_take]; rfl)) ?_; (with_reducible refine (Calls.args (jobs_within.calls k3 (some ad123) c2 (l2.take (x50_3 : Int).toNat) (rd l2 x50_3) true _ ?side1 ?side2 A20.out ?sideG) ?argsE).mono ?_); (case sideG => first | (with_reducible exact HG.out) | (with_reducible exact HG.out.drewN _) | exact HG.out.below (by repeat (first | (with_reducible first | exact HB.out | apply below_alloc | apply pw_below_drewN | apply below_drew1) | exact HB.out))); (case side1 => repeat (first | exact (Kd.C_below HR124.out HB.out) | (with_reducible refine Kd.C_alloc ?_ _) | (with_reducible refine Kd.C_drewN ?_ _) | (with_reducible refine Kd.C_drew ?_))); (case side2 => exact HC124.out); (case argsE => first | rfl | (rw [List.length_take, Nat.min_eq_left (show (x50_3 : Int).toNat ≤ (l2).length from Int.toNat_le.2 (of_decide_eq_true (by with_reducible assumption)))])); rintro e w' ⟨rfl, ⟨nd, rfl⟩⟩; refine ⟨_, rfl, ?_⟩))
                  go_ret3
                  exact ⟨_, by first | rfl | (simp [*]; done), by (with_reducible repeat (first | apply Kd.V_alloc | apply Kd.V_drewN | apply Kd.V_drew)); exact HO_0.out, by repeat (first | (with_reducible first | exact HB.out | apply below_alloc | apply pw_below_drewN | apply below_drew1) | exact HB.out)⟩
                replace c21 := Bool.eq_false_iff.mpr c21
                subst c21
                have H1 : ((jobs_member.f k3 l0 (rd l2 x50_3)).bind fun t126 => (if t126 ≥ 0 then (some (l0, 0, 9)) else (jobs_Add.l1 k3 l0 a1 l2 a3 l2 (l2.length : Int) (wrap64 (x50_3 + 1))))) = some (r1, r2, r3) := by rw [if_neg (show ¬ (false = true) by decide)] at H; exact H
                clear H
                have H := H1
                clear H1
                replace H := Option.bind_eq_some_iff.mp H
                obtain ⟨t126, A230, H⟩ := H
                replace H : (if t126 ≥ 0 then (some (l0, 0, 9)) else (jobs_Add.l1 k3 l0 a1 l2 a3 l2 (l2.length : Int) (wrap64 (x50_3 + 1)))) = some (r1, r2, r3) := H
                have A23 := Aside0.mk A230
                clear A230
                by_cases c24 : t126 ≥ 0
                · rw [if_pos c24] at H
                  have c24b0 : decide (0 ≤ t126) = true := decide_eq_true c24
                  clear c24
                  simp only [Option.some.injEq, Prod.mk.injEq] at H
                  obtain ⟨rfl, rfl, rfl⟩ := H
                  have p123 : 0 ≤ (x50_3 : Int) := of_decide_eq_true (by with_reducible assumption)
                  have q123 : x50_3 < (l2.length : Int) := of_decide_eq_true (by with_reducible assumption)
                  obtain ⟨ad123, e123, hx123_0⟩ := Kd.at_int HR2.out x50_3 p123 q123
                  cases e123
                  replace hx123_0 := (HB.out.cell (World.block_lt_of_cell? w _ hx123_0)).trans hx123_0
                  replace p123 := eq_true p123
                  replace q123 := eq_true q123
                  obtain ⟨i025, hi025, _, hsz25, _⟩ := info_parts info3
                  obtain ⟨hcut25, hA25, hC25⟩ := print_take_of (P := Tryd.prog) (Value.int .i64) 0 23 3 .i64 Tryd.underlying23 hi025 hsz25 (some ad123) c2 l2 x50_3 (of_decide_eq_true (by with_reducible assumption)) (of_decide_eq_true (by with_reducible assumption)) HC2.out
                  have HR124 := Aside0.mk (Kd.C_of_reads (h1 := fun _ => rfl) (hA25 _ (Kd.reads_of_C HR2.out)))
                  have HC124 := Aside0.mk hC25
                  clear hA25 hC25 hi025 hsz25
                  go_wp2_with (first | ((with_reducible refine gate_callee (f := 25) rfl ?_); refine goesL_ (some 59) rfl rfl Tryd.func25 (by kernel_rfl) rfl #[.slice (some ad123) (l2.take (x50_3 : Int).toNat).length c2, .int .i64 (rd l2 x50_3)] rfl (by (try simp only [List.map_toArray, List.map_cons, List.map_nil]); first | done | (rw [show (l2.take (x50_3 : Int).toNat).length = x50_3.toNat from (by rw [List.length_take]; have h_ : (x50_3 : Int) ≤ (l2.length : Int) := of_decide_eq_true (by with_reducible assumption); omega)] <;> rfl) | rfl | (simp only [List.length_drop, List.length_take]; rfl)) ?_; (with_reducible refine (Calls.args (jobs_within.calls k3 (some ad123) c2 (l2.take (x50_3 : Int).toNat) (rd l2 x50_3) false _ ?side1 ?side2 A20.out ?sideG) ?argsE).mono ?_); (case sideG => first | (with_reducible exact HG.out) | (with_reducible exact HG.out.drewN _) | exact HG.out.below (by repeat (first | (with_reducible first | exact HB.out | apply below_alloc | apply pw_below_drewN | apply below_drew1) | exact HB.out))); (case side1 => repeat (first | exact (Kd.C_below HR124.out HB.out) | (with_reducible refine Kd.C_alloc ?_ _) | (with_reducible refine Kd.C_drewN ?_ _) | (with_reducible refine Kd.C_drew ?_))); (case side2 => exact HC124.out); (case argsE => first | rfl | (rw [List.length_take, Nat.min_eq_left (show (x50_3 : Int).toNat ≤ (l2).length from Int.toNat_le.2 (of_decide_eq_true (by with_reducible assumption)))])); rintro e w' ⟨rfl, ⟨nd, rfl⟩⟩; refine ⟨_, rfl, ?_⟩) | (go_at_call 26; (with_reducible refine (jobs_member.calls k3 _ _ l0 (rd l2 x50_3) t126 _ ?side1 ?side2 A23.out ?sideG).mono ?_); (case sideG => first | (with_reducible exact HG.out) | (with_reducible exact HG.out.drewN _) | exact HG.out.below (by repeat (first | (with_reducible first | exact HB.out | apply below_alloc | apply pw_below_drewN | apply below_drew1) | exact HB.out))); (case side1 => repeat (first | exact (Kd.V_reads' HO_0.out).2.2 | (with_reducible refine Kd.C_alloc ?_ _) | (with_reducible refine Kd.C_drewN ?_ _) | (with_reducible refine Kd.C_drew ?_))); (case side2 => exact (Kd.V_reads' HO_0.out).2.1); rintro e w26 ⟨rfl, hb⟩; have n0_ := Aside0.mk (Kd.V_below (by (with_reducible repeat (first | apply Kd.V_alloc | apply Kd.V_drewN | apply Kd.V_drew)); exact HO_0.out) hb); have n1_ := Aside0.mk (below_step (by repeat (first | (with_reducible first | exact HB.out | apply below_alloc | apply pw_below_drewN | apply below_drew1) | exact HB.out)) hb); clear HO_0; clear HB; have HO_0 := n0_; have HB := n1_; clear n0_ n1_; (try clear hb); (try clear hb2); (try clear hk); (try clear hi)))
                  go_ret3
                  exact ⟨_, by first | rfl | (simp [*]; done), by (with_reducible repeat (first | apply Kd.V_alloc | apply Kd.V_drewN | apply Kd.V_drew)); exact HO_0.out, by repeat (first | (with_reducible first | exact HB.out | apply below_alloc | apply pw_below_drewN | apply below_drew1) | exact HB.out)⟩
                rw [if_neg c24] at H
                have c24b0 : decide (0 ≤ t126) = false := decide_eq_false c24
                clear c24
                have H' := Aside0.mk H
                clear H
                have p123 : 0 ≤ (x50_3 : Int) := of_decide_eq_true (by with_reducible assumption)
                have q123 : x50_3 < (l2.length : Int) := of_decide_eq_true (by with_reducible assumption)
                obtain ⟨ad123, e123, hx123_0⟩ := Kd.at_int HR2.out x50_3 p123 q123
                cases e123
                replace hx123_0 := (HB.out.cell (World.block_lt_of_cell? w _ hx123_0)).trans hx123_0
                replace p123 := eq_true p123
                replace q123 := eq_true q123
                obtain ⟨i027, hi027, _, hsz27, _⟩ := info_parts info3
                obtain ⟨hcut27, hA27, hC27⟩ := print_take_of (P := Tryd.prog) (Value.int .i64) 0 23 3 .i64 Tryd.underlying23 hi027 hsz27 (some ad123) c2 l2 x50_3 (of_decide_eq_true (by with_reducible assumption)) (of_decide_eq_true (by with_reducible assumption)) HC2.out
                have HR124 := Aside0.mk (Kd.C_of_reads (h1 := fun _ => rfl) (hA27 _ (Kd.reads_of_C HR2.out)))
                have HC124 := Aside0.mk hC27
                clear hA27 hC27 hi027 hsz27
                go_wp2_with (first | ((with_reducible refine gate_callee (f := 25) rfl ?_); refine goesL_ (some 59) rfl rfl Tryd.func25 (by kernel_rfl) rfl #[.slice (some ad123) (l2.take (x50_3 : Int).toNat).length c2, .int .i64 (rd l2 x50_3)] rfl (by (try simp only [List.map_toArray, List.map_cons, List.map_nil]); first | done | (rw [show (l2.take (x50_3 : Int).toNat).length = x50_3.toNat from (by rw [List.length_take]; have h_ : (x50_3 : Int) ≤ (l2.length : Int) := of_decide_eq_true (by with_reducible assumption); omega)] <;> rfl) | rfl | (simp only [List.length_drop, List.length_take]; rfl)) ?_; (with_reducible refine (Calls.args (jobs_within.calls k3 (some ad123) c2 (l2.take (x50_3 : Int).toNat) (rd l2 x50_3) false _ ?side1 ?side2 A20.out ?sideG) ?argsE).mono ?_); (case sideG => first | (with_reducible exact HG.out) | (with_reducible exact HG.out.drewN _) | exact HG.out.below (by repeat (first | (with_reducible first | exact HB.out | apply below_alloc | apply pw_below_drewN | apply below_drew1) | exact HB.out))); (case side1 => repeat (first | exact (Kd.C_below HR124.out HB.out) | (with_reducible refine Kd.C_alloc ?_ _) | (with_reducible refine Kd.C_drewN ?_ _) | (with_reducible refine Kd.C_drew ?_))); (case side2 => exact HC124.out); (case argsE => first | rfl | (rw [List.length_take, Nat.min_eq_left (show (x50_3 : Int).toNat ≤ (l2).length from Int.toNat_le.2 (of_decide_eq_true (by with_reducible assumption)))])); rintro e w' ⟨rfl, ⟨nd, rfl⟩⟩; refine ⟨_, rfl, ?_⟩) | (go_at_call 26; (with_reducible refine (jobs_member.calls k3 _ _ l0 (rd l2 x50_3) t126 _ ?side1 ?side2 A23.out ?sideG).mono ?_); (case sideG => first | (with_reducible exact HG.out) | (with_reducible exact HG.out.drewN _) | exact HG.out.below (by repeat (first | (with_reducible first | exact HB.out | apply below_alloc | apply pw_below_drewN | apply below_drew1) | exact HB.out))); (case side1 => repeat (first | exact (Kd.V_reads' HO_0.out).2.2 | (with_reducible refine Kd.C_alloc ?_ _) | (with_reducible refine Kd.C_drewN ?_ _) | (with_reducible refine Kd.C_drew ?_))); (case side2 => exact (Kd.V_reads' HO_0.out).2.1); rintro e w28 ⟨rfl, hb⟩; have n0_ := Aside0.mk (Kd.V_below (by (with_reducible repeat (first | apply Kd.V_alloc | apply Kd.V_drewN | apply Kd.V_drew)); exact HO_0.out) hb); have n1_ := Aside0.mk (below_step (by repeat (first | (with_reducible first | exact HB.out | apply below_alloc | apply pw_below_drewN | apply below_drew1) | exact HB.out)) hb); clear HO_0; clear HB; have HO_0 := n0_; have HB := n1_; clear n0_ n1_; (try clear hb); (try clear hb2); (try clear hk); (try clear hi)))
                go_roundg k3
                case measure => have := HJ5.out; have := HK2.out; have := HK3.out; omega
                case rel => exact ⟨(wrap64 (x50_3 + 1)), (by first | rfl | (simp; done) | (simp [*]; done)), H', ⟨by have := HJ5.out; have := HK2.out; have := HK3.out; omega⟩, ⟨by (with_reducible repeat (first | apply Kd.V_alloc | apply Kd.V_drewN | apply Kd.V_drew)); exact HO_0.out⟩, ⟨by repeat (first | (with_reducible first | exact HB.out | apply below_alloc | apply pw_below_drewN | apply below_drew1) | exact HB.out)⟩⟩
              rw [if_neg c15] at H
              have c15b0 : decide (x50_3 < (l2.length : Int)) = false := decide_eq_false c15
              clear c15
              by_cases c29 : (a3.size : Int) > 4096
              · rw [if_pos c29] at H
                have c29b0 : decide (4096 < (a3.size : Int)) = true := decide_eq_true c29
                have c29b1 : decide (4096 < a3.size) = true := decide_eq_true (by omega)
                clear c29
                simp only [Option.some.injEq, Prod.mk.injEq] at H
                obtain ⟨rfl, rfl, rfl⟩ := H
                go_wp2
                go_ret3
                exact ⟨_, by first | rfl | (simp [*]; done), by (with_reducible repeat (first | apply Kd.V_alloc | apply Kd.V_drewN | apply Kd.V_drew)); exact HO_0.out, by repeat (first | (with_reducible first | exact HB.out | apply below_alloc | apply pw_below_drewN | apply below_drew1) | exact HB.out)⟩
              rw [if_neg c29] at H
              have c29b0 : decide (4096 < (a3.size : Int)) = false := decide_eq_false c29
              have c29b1 : decide (4096 < a3.size) = false := decide_eq_false (by omega)
              clear c29
              have H' := Aside0.mk H
              clear H
              go_wp2
              go_loopg [15, 16] k3 (fun kq v15 v16 w' => ∃ (x15_4 : Int) (x16_4 : Int), v15 = .int .i64 x15_4 ∧ v16 = .int .i64 x16_4 ∧ Aside0 (jobs_Add.l2 kq l0 a1 l2 a3 x15_4 x16_4 = some (r1, r2, r3)) ∧ Aside0 (kq ≤ k3) ∧ Aside0 (Kd.V k35 35 w' w.heap.size (fun k_ => (P0_ k_ ∨ w.heap.size ≤ k_)) (.slice A0 l0.length c0) l0) ∧ Aside0 (Below w.heap.size w w'))
              case atStart => exact ⟨(1), (0), (by first | rfl | (simp; done) | (simp [*]; done)), (by first | rfl | (simp; done) | (simp [*]; done)), H', ⟨Nat.le_refl _⟩, ⟨by (with_reducible repeat (first | apply Kd.V_alloc | apply Kd.V_drewN | apply Kd.V_drew)); exact HO_0.out⟩, ⟨by repeat (first | (with_reducible first | exact HB.out | apply below_alloc | apply pw_below_drewN | apply below_drew1) | exact HB.out)⟩⟩
              case round =>
                clear H'
                obtain ⟨x15_4, x16_4, rfl, rfl, HA, HK4, HO_0, HB⟩ := hrel
                cases gk with
                | zero => exact absurd HA.out (by simp [jobs_Add.l2])
                | succ k4 =>
                  have H := HA.out
                  clear HA
                  simp only [jobs_Add.l2] at H
                  by_cases c30 : x16_4 < (l0.length : Int)
                  · rw [if_pos c30] at H
                    have c30b0 : decide (x16_4 < (l0.length : Int)) = true := decide_eq_true c30
                    clear c30
                    by_cases c31 : 0 ≤ x16_4
                    rotate_left
                    · rw [if_neg c31] at H
                      exact absurd H (by simp)
                    rw [if_pos c31] at H
                    have c31b0 : decide (0 ≤ x16_4) = true := decide_eq_true c31
                    clear c31
                    by_cases c32 : ((rd_T35 l0 x16_4).f0) = x15_4
                    rotate_left
                    · rw [if_neg c32] at H
                      have c32b0 : (((rd_T35 l0 x16_4).f0) == x15_4) = false := beq_eq_false_iff_ne.mpr c32
                      have c32b1 : (((rd_T35 l0 x16_4).f0) != x15_4) = true := bne_iff_ne.mpr c32
                      have H' := Aside0.mk H
                      clear H
                      have p127 : 0 ≤ (x16_4 : Int) := of_decide_eq_true (by with_reducible assumption)
                      have q127 : x16_4 < (l0.length : Int) := of_decide_eq_true (by with_reducible assumption)
                      obtain ⟨ad127, A127_3, c127_3, A127_4, c127_4, e127, hx127_0, hx127_1, hx127_2, hx127_3, hx127_4, hx127_5, hx127_6, hl127_3, hi127_3, hl127_4, hi127_4⟩ := at_T35 (Kd.V_reads' HO_0.out).2.2 x16_4 p127 q127
                      cases e127
                      obtain ⟨ce127, hce127, hMe127, hcc127⟩ := Kd.V_get HO_0.out z35 x16_4 p127 (by first | exact q127 | exact of_decide_eq_true (by with_reducible assumption) | (have e_ := (Kd.V_reads' HO_0.out).1; omega))
                      obtain ⟨ua127_3, uc127_3, ua127_4, uc127_4, rfl, ul127_3, ge127_3, ul127_4, ge127_4⟩ := k35_openF hMe127
                      have hv127_3 := hcc127 3 _ rfl
                      rw [add_field _ _ 3 (by omega)] at hv127_3
                      replace hv127_3 := Option.some.inj (hv127_3.symm.trans hx127_3)
                      injection hv127_3 with hva_ hvn_ hvc_
                      rw [hva_] at ge127_3
                      rw [hvc_] at ul127_3
                      have HL127_3 := Aside0.mk (show Kd.V (Kd.int .i64) 3 _ w.heap.size _ _ ((rd_T35 l0 x16_4).f3) from Kd.V_mk ul127_3 ge127_3)
                      clear hva_ hvn_ hvc_ ge127_3 ul127_3
                      have hv127_4 := hcc127 4 _ rfl
                      rw [add_field _ _ 4 (by omega)] at hv127_4
                      replace hv127_4 := Option.some.inj (hv127_4.symm.trans hx127_4)
                      injection hv127_4 with hva_ hvn_ hvc_
                      rw [hva_] at ge127_4
                      rw [hvc_] at ul127_4
                      have HL127_4 := Aside0.mk (show Kd.V (Kd.int .i64) 3 _ w.heap.size _ _ ((rd_T35 l0 x16_4).f4) from Kd.V_mk ul127_4 ge127_4)
                      clear hva_ hvn_ hvc_ ge127_4 ul127_4
                      clear hcc127 hce127
                      have HR127_3 := Aside0.mk hi127_3
                      have HC127_3 := Aside0.mk hl127_3
                      clear hi127_3 hl127_3
                      have HR127_4 := Aside0.mk hi127_4
                      have HC127_4 := Aside0.mk hl127_4
                      clear hi127_4 hl127_4
                      replace p127 := eq_true p127
                      replace q127 := eq_true q127
                      go_wp2
                      go_roundg k4
                      case measure => have := HJ5.out; have := HK2.out; have := HK3.out; have := HK4.out; omega
                      case rel => exact ⟨(x15_4), (wrap64 (x16_4 + 1)), (by first | rfl | (simp; done) | (simp [*]; done)), (by first | rfl | (simp; done) | (simp [*]; done)), H', ⟨by have := HJ5.out; have := HK2.out; have := HK3.out; have := HK4.out; omega⟩, ⟨by (with_reducible repeat (first | apply Kd.V_alloc | apply Kd.V_drewN | apply Kd.V_drew)); exact HO_0.out⟩, ⟨by repeat (first | (with_reducible first | exact HB.out | apply below_alloc | apply pw_below_drewN | apply below_drew1) | exact HB.out)⟩⟩
                    rw [if_pos c32] at H
                    have c32b0 : (((rd_T35 l0 x16_4).f0) == x15_4) = true := beq_iff_eq.mpr c32
                    have c32b1 : (((rd_T35 l0 x16_4).f0) != x15_4) = false := bne_eq_false_iff_eq.mpr c32
                    clear c32
                    have H' := Aside0.mk H
                    clear H
                    have p127 : 0 ≤ (x16_4 : Int) := of_decide_eq_true (by with_reducible assumption)
                    have q127 : x16_4 < (l0.length : Int) := of_decide_eq_true (by with_reducible assumption)
                    obtain ⟨ad127, A127_3, c127_3, A127_4, c127_4, e127, hx127_0, hx127_1, hx127_2, hx127_3, hx127_4, hx127_5, hx127_6, hl127_3, hi127_3, hl127_4, hi127_4⟩ := at_T35 (Kd.V_reads' HO_0.out).2.2 x16_4 p127 q127
                    cases e127
                    obtain ⟨ce127, hce127, hMe127, hcc127⟩ := Kd.V_get HO_0.out z35 x16_4 p127 (by first | exact q127 | exact of_decide_eq_true (by with_reducible assumption) | (have e_ := (Kd.V_reads' HO_0.out).1; omega))
                    obtain ⟨ua127_3, uc127_3, ua127_4, uc127_4, rfl, ul127_3, ge127_3, ul127_4, ge127_4⟩ := k35_openF hMe127
                    have hv127_3 := hcc127 3 _ rfl
                    rw [add_field _ _ 3 (by omega)] at hv127_3
                    replace hv127_3 := Option.some.inj (hv127_3.symm.trans hx127_3)
                    injection hv127_3 with hva_ hvn_ hvc_
                    rw [hva_] at ge127_3
                    rw [hvc_] at ul127_3
                    have HL127_3 := Aside0.mk (show Kd.V (Kd.int .i64) 3 _ w.heap.size _ _ ((rd_T35 l0 x16_4).f3) from Kd.V_mk ul127_3 ge127_3)
                    clear hva_ hvn_ hvc_ ge127_3 ul127_3
                    have hv127_4 := hcc127 4 _ rfl
                    rw [add_field _ _ 4 (by omega)] at hv127_4
                    replace hv127_4 := Option.some.inj (hv127_4.symm.trans hx127_4)
                    injection hv127_4 with hva_ hvn_ hvc_
                    rw [hva_] at ge127_4
                    rw [hvc_] at ul127_4
                    have HL127_4 := Aside0.mk (show Kd.V (Kd.int .i64) 3 _ w.heap.size _ _ ((rd_T35 l0 x16_4).f4) from Kd.V_mk ul127_4 ge127_4)
                    clear hva_ hvn_ hvc_ ge127_4 ul127_4
                    clear hcc127 hce127
                    have HR127_3 := Aside0.mk hi127_3
                    have HC127_3 := Aside0.mk hl127_3
                    clear hi127_3 hl127_3
                    have HR127_4 := Aside0.mk hi127_4
                    have HC127_4 := Aside0.mk hl127_4
                    clear hi127_4 hl127_4
                    replace p127 := eq_true p127
                    replace q127 := eq_true q127
                    go_wp2
                    go_roundg k4
                    case measure => have := HJ5.out; have := HK2.out; have := HK3.out; have := HK4.out; omega
                    case rel => exact ⟨(wrap64 (x15_4 + 1)), ((-1) + 1), (by first | rfl | (simp; done) | (simp [*]; done)), (by first | rfl | (simp; done) | (simp [*]; done)), H', ⟨by have := HJ5.out; have := HK2.out; have := HK3.out; have := HK4.out; omega⟩, ⟨by (with_reducible repeat (first | apply Kd.V_alloc | apply Kd.V_drewN | apply Kd.V_drew)); exact HO_0.out⟩, ⟨by repeat (first | (with_reducible first | exact HB.out | apply below_alloc | apply pw_below_drewN | apply below_drew1) | exact HB.out)⟩⟩
                  rw [if_neg c30] at H
                  have c30b0 : decide (x16_4 < (l0.length : Int)) = false := decide_eq_false c30
                  clear c30
                  obtain ⟨y128, hy128⟩ : ∃ y_ : List Int, y_ = (([] : List Int)) := ⟨_, rfl⟩
                  replace H : (if y128.length + l2.length < 17592186044416 then (jobs_Add.l3 k4 l0 x15_4 (l2.length : Int) 0 x15_4 a1 1 (y128 ++ l2) ([] : List Int) a3 true) else (none)) = some (r1, r2, r3) := by first | (rw [hy128]; exact H) | exact H | (rw [hy128]; exact H) | exact H
                  have Ny128 := Aside0.mk hy128
                  clear hy128
                  by_cases c33 : y128.length + l2.length < 17592186044416
                  rotate_left
                  · rw [if_neg c33] at H
                    exact absurd H (by simp)

                  rw [if_pos c33] at H
                  have LMc33 := Aside0.mk c33
                  clear c33
                  obtain ⟨y131, hy131⟩ : ∃ y_ : List Int, y_ = (y128 ++ l2) := ⟨_, rfl⟩
                  replace H : (jobs_Add.l3 k4 l0 x15_4 (l2.length : Int) 0 x15_4 a1 1 y131 ([] : List Int) a3 true) = some (r1, r2, r3) := by first | (rw [hy131]; exact H) | exact H | (rw [hy131]; exact H) | exact H
                  have Ny131 := Aside0.mk hy131
                  clear hy131
                  have H' := Aside0.mk H
                  clear H
                  go_wp2_with (first | ((with_reducible refine gate_dst (N := 89) rfl ?_); (try (refine gate_guard (by rfl) ?_; dsimp only)); refine Kd.R_lit (Kd.int .i64) _ 3 ?hg (N := 89) ?hd (xs := ([] : List Int)) (inner := []) (ok := fun _ => True) (okp := fun _ => True) ?hr ?hp (fun _ hk => hk) trivial (Below.refl _ _) (Nat.le_refl _) (by simp) ?_; (case hd => rfl); (case hg => rfl); (case hr => first | (go_simp; done) | (go_simp; rfl)); (case hp => exact (Reps.none _ _)); intro v129 w34 ho35 hb hg_ hnew_; clear hg_ hnew_; (first | rw [← Ny128.out] at ho35 | (simp only [Int.reduceToNat] at ho35; rw [← Ny128.out] at ho35)); have n0_ := Aside0.mk (Kd.V_elder' (by (with_reducible repeat (first | apply Kd.V_alloc | apply Kd.V_drewN | apply Kd.V_drew)); exact HO_0.out) (Kd.R_base ho35) hb); have n1_ := Aside0.mk (Kd.R_lower (Kd.R_newM (M := fun k_ => (w.heap.size ≤ k_)) ho35 (below_size (by repeat (first | (with_reducible first | exact HB.out | apply below_alloc | apply pw_below_drewN | apply below_drew1) | exact HB.out))) (fun k_ h_ => h_)) (below_size (by repeat (first | (with_reducible first | exact HB.out | apply below_alloc | apply pw_below_drewN | apply below_drew1) | exact HB.out)))); have n2_ := Aside0.mk (below_step (by repeat (first | (with_reducible first | exact HB.out | apply below_alloc | apply pw_below_drewN | apply below_drew1) | exact HB.out)) hb); clear HO_0; clear HB; have HO_0 := n0_; have HO130 := n1_; have HB := n2_; clear n0_ n1_ n2_; clear hb ho35) | ((with_reducible refine gate_builtin (b := .append) (xs := #[.tmp 89, .tmp 90]) rfl ?_); (try (refine gate_guard (by rfl) ?_; dsimp only)); at_builtin; refine Kd.R_append_rows (Kd.int .i64) (w0 := w) w.heap.size rfl (.tmp 89) (.tmp 90) 23 3 (.int .i64 0) 8 rfl Tryd.underlying23 info3 rfl (by decide) (by omega) v129 y128 l2 _ _ _ (fun k_ => (w.heap.size ≤ k_)) (fun _ => False) rfl rfl ?aO ?aR (fun _ _ h => h) (fun _ h => h.elim) ?aF ?aB ?aS ?aL ?_; (case aR => repeat (first | exact (Kd.C_below HR2.out HB.out) | (with_reducible refine Kd.C_alloc ?_ _) | (with_reducible refine Kd.C_drewN ?_ _) | (with_reducible refine Kd.C_drew ?_))); (case aB => exact (by repeat (first | (with_reducible first | exact HB.out | apply below_alloc | apply pw_below_drewN | apply below_drew1) | exact HB.out))); (case aF => exact (fun k_ hk => (Nat.le_trans (below_size (by repeat (first | (with_reducible first | exact HB.out | apply below_alloc | apply pw_below_drewN | apply below_drew1) | exact HB.out))) hk))); (case aO => exact (by (with_reducible repeat (first | apply Kd.R_alloc | apply Kd.R_drewN | apply Kd.R_drew)); exact Kd.R_mono HO130.out (fun _ hk => hk.1))); (case aS => exact (below_size (by repeat (first | (with_reducible first | exact HB.out | apply below_alloc | apply pw_below_drewN | apply below_drew1) | exact HB.out)))); (case aL => have := LMc33.out; omega); intro v132 w36 ho hb hg hat; rw [← Ny131.out] at ho; have n0_ := Aside0.mk (Kd.V_afterv (ok := (fun k_ => (P0_ k_ ∨ w.heap.size ≤ k_))) (by (with_reducible repeat (first | apply Kd.V_alloc | apply Kd.V_drewN | apply Kd.V_drew)); exact HO_0.out) hg hat); have n1_ := Aside0.mk (hb); have n2_ := Aside0.mk (ho); clear HO_0; clear HB; clear HO130; have HO_0 := n0_; have HB := n1_; have HO133 := n2_; clear n0_ n1_ n2_; clear ho hb hg hat; obtain ⟨Ao37, co37, eo37⟩ := Kd.R_slice HO133.out; subst eo37) | ((with_reducible refine gate_dst (N := 17) rfl ?_); (try (refine gate_guard (by rfl) ?_; dsimp only)); refine box_event ?hg (N := 17) ?hd (cs := #[.int .i64 0, .int .i64 0, .int .i64 0, .slice none 0 0, .slice none 0 0, .string (⟨#[]⟩ : ByteArray), .bool false]) (t := 35) ?hr ?_; (case hd => rfl); (case hg => rfl); (case hr => first | (go_simp; done) | (go_simp; rfl)); intro gb134 hg w38 hbox hb; have n0_ := Aside0.mk (Kd.V_below (Kd.V_elderB (by (with_reducible repeat (first | apply Kd.V_alloc | apply Kd.V_drewN | apply Kd.V_drew)); exact HO_0.out) gb134 (Nat.le_of_eq hg.symm)) hb); have n1_ := Aside0.mk (Kd.R_below (by (with_reducible repeat (first | apply Kd.R_alloc | apply Kd.R_drewN | apply Kd.R_drew)); exact HO133.out) hb); have n2_ := Aside0.mk (below_step (by repeat (first | (with_reducible first | exact HB.out | apply below_alloc | apply pw_below_drewN | apply below_drew1) | exact HB.out)) hb); have n3_ := Aside0.mk (hbox); have n4_ := Aside0.mk ((by rw [hg]; exact (below_size (by repeat (first | (with_reducible first | exact HB.out | apply below_alloc | apply pw_below_drewN | apply below_drew1) | exact HB.out))) : w.heap.size ≤ gb134)); have n5_ := n4_; clear HO_0; clear HO133; clear HB; have HO_0 := n0_; have HO133 := n1_; have HB := n2_; have BK134 := n3_; have GW134 := n4_; have GE134 := n5_; clear n0_ n1_ n2_ n3_ n4_ n5_; clear hb hbox hg; obtain ⟨hcz39_0, hcz39_1, hcz39_2, hcz39_3, hcz39_4, hcz39_5, hcz39_6, hfz39_0, hfz39_1, hfz39_2, hfz39_3, hfz39_4, hfz39_5, hfz39_6⟩ := cells7 BK134.out))
                  go_loopg [96] k4 (fun kq v96 w' => ∃ (x96_5 : Int) (x135004_5 : List Int) (u135004 : Value), v96 = .int .i64 x96_5 ∧ Aside0 (jobs_Add.l3 kq l0 x15_4 (l2.length : Int) x96_5 x15_4 a1 1 y131 x135004_5 a3 true = some (r1, r2, r3)) ∧ Aside0 (kq ≤ k4) ∧ Aside0 (Kd.V k35 35 w' w.heap.size (fun k_ => (P0_ k_ ∨ w.heap.size ≤ k_) ∧ some k_ ≠ ((.slice Ao37 y131.length co37) : Value).ownBlock ∧ some k_ ≠ (u135004 : Value).ownBlock ∧ k_ ≠ gb134) (.slice A0 l0.length c0) l0) ∧ Aside0 (Kd.R (Kd.int .i64) 3 w' w.heap.size (fun k_ => (w.heap.size ≤ k_) ∧ some k_ ≠ (u135004 : Value).ownBlock) (.slice Ao37 y131.length co37) y131) ∧ Aside0 (Kd.R (Kd.int .i64) 3 w' w.heap.size (fun k_ => (w.heap.size ≤ k_) ∧ some k_ ≠ ((.slice Ao37 y131.length co37) : Value).ownBlock) u135004 x135004_5) ∧ Aside0 (w'.heap[gb134]? = some (.cells #[.int .i64 x15_4, .int .i64 a1, .int .i64 1, (.slice Ao37 y131.length co37), u135004, .string a3, .bool true] 35 (0, 0))) ∧ Aside0 (Below w.heap.size w w'))
                  case atStart => exact ⟨(0), (([] : List Int)), (.slice none 0 0), (by first | rfl | (simp; done) | (simp [*]; done)), H', ⟨Nat.le_refl _⟩, ⟨by (with_reducible repeat (first | apply Kd.V_alloc | apply Kd.V_drewN | apply Kd.V_drew)); exact Kd.V_mono (Kd.V_far (p := ⟨gb134, 6, none⟩) (Kd.V_far (p := ⟨gb134, 5, none⟩) (Kd.V_far (p := ⟨gb134, 4, none⟩) (Kd.V_far (p := ⟨gb134, 3, none⟩) (Kd.V_far (p := ⟨gb134, 2, none⟩) (Kd.V_far (p := ⟨gb134, 1, none⟩) (Kd.V_far (p := ⟨gb134, 0, none⟩) (Kd.V_mono HO_0.out (fun k_ hk => (⟨hk, by first | exact hk.2 | exact hk.2.2 | exact hk.2.1⟩ : _ ∧ k_ ≠ gb134))) (fun _ hk => hk.2) (.int .i64 x15_4)) (fun _ hk => hk.2) (.int .i64 a1)) (fun _ hk => hk.2) (.int .i64 1)) (fun _ hk => hk.2) (.slice Ao37 y131.length co37)) (fun _ hk => hk.2) (.slice none 0 0)) (fun _ hk => hk.2) (.string a3)) (fun _ hk => hk.2) (.bool true)) (fun _ hk => ⟨hk.1.1.1, ⟨hk.1.1.2, ⟨(by simp [Value.ownBlock]), hk.1.2⟩⟩⟩)⟩, ⟨by (with_reducible repeat (first | apply Kd.R_alloc | apply Kd.R_drewN | apply Kd.R_drew)); exact Kd.R_mono (Kd.R_far (p := ⟨gb134, 6, none⟩) (Kd.R_far (p := ⟨gb134, 5, none⟩) (Kd.R_far (p := ⟨gb134, 4, none⟩) (Kd.R_far (p := ⟨gb134, 3, none⟩) (Kd.R_far (p := ⟨gb134, 2, none⟩) (Kd.R_far (p := ⟨gb134, 1, none⟩) (Kd.R_far (p := ⟨gb134, 0, none⟩) (Kd.R_types HO133.out BK134.out (by decide)) (fun _ hk => hk.2) (.int .i64 x15_4)) (fun _ hk => hk.2) (.int .i64 a1)) (fun _ hk => hk.2) (.int .i64 1)) (fun _ hk => hk.2) (.slice Ao37 y131.length co37)) (fun _ hk => hk.2) (.slice none 0 0)) (fun _ hk => hk.2) (.string a3)) (fun _ hk => hk.2) (.bool true)) (fun _ hk => ⟨hk.1, (by simp [Value.ownBlock])⟩)⟩, ⟨by first | exact Kd.R_nil _ _ _ _ _ | exact Kd.N_nil _ _ _ _ _ | exact Kd.V_nil _ _ _ _ _ | exact Kd.Q_nil _ _ _ _ _ | exact Kd.S_nil _ _ _ _ _⟩, ⟨by (with_reducible repeat (first | refine blk_drewN ?_ _ | refine blk_drew ?_ | refine blk_alloc ?_ _)); refine blk_put (cs := #[.int .i64 x15_4, .int .i64 a1, .int .i64 1, .slice Ao37 y131.length co37, .slice none 0 0, .string a3, .bool false]) ?_ 6 _ rfl; (with_reducible repeat (first | refine blk_drewN ?_ _ | refine blk_drew ?_ | refine blk_alloc ?_ _)); refine blk_put (cs := #[.int .i64 x15_4, .int .i64 a1, .int .i64 1, .slice Ao37 y131.length co37, .slice none 0 0, .string (⟨#[]⟩ : ByteArray), .bool false]) ?_ 5 _ rfl; (with_reducible repeat (first | refine blk_drewN ?_ _ | refine blk_drew ?_ | refine blk_alloc ?_ _)); refine blk_put (cs := #[.int .i64 x15_4, .int .i64 a1, .int .i64 1, .slice Ao37 y131.length co37, .slice none 0 0, .string (⟨#[]⟩ : ByteArray), .bool false]) ?_ 4 _ rfl; (with_reducible repeat (first | refine blk_drewN ?_ _ | refine blk_drew ?_ | refine blk_alloc ?_ _)); refine blk_put (cs := #[.int .i64 x15_4, .int .i64 a1, .int .i64 1, .slice none 0 0, .slice none 0 0, .string (⟨#[]⟩ : ByteArray), .bool false]) ?_ 3 _ rfl; (with_reducible repeat (first | refine blk_drewN ?_ _ | refine blk_drew ?_ | refine blk_alloc ?_ _)); refine blk_put (cs := #[.int .i64 x15_4, .int .i64 a1, .int .i64 0, .slice none 0 0, .slice none 0 0, .string (⟨#[]⟩ : ByteArray), .bool false]) ?_ 2 _ rfl; (with_reducible repeat (first | refine blk_drewN ?_ _ | refine blk_drew ?_ | refine blk_alloc ?_ _)); refine blk_put (cs := #[.int .i64 x15_4, .int .i64 0, .int .i64 0, .slice none 0 0, .slice none 0 0, .string (⟨#[]⟩ : ByteArray), .bool false]) ?_ 1 _ rfl; (with_reducible repeat (first | refine blk_drewN ?_ _ | refine blk_drew ?_ | refine blk_alloc ?_ _)); refine blk_put (cs := #[.int .i64 0, .int .i64 0, .int .i64 0, .slice none 0 0, .slice none 0 0, .string (⟨#[]⟩ : ByteArray), .bool false]) ?_ 0 _ rfl; (with_reducible repeat (first | refine blk_drewN ?_ _ | refine blk_drew ?_ | refine blk_alloc ?_ _)); exact BK134.out⟩, ⟨by repeat (first | (with_reducible first | exact HB.out | apply below_alloc | apply pw_below_drewN | apply below_drew1 | refine below_set ?_ GE134.out) | exact HB.out)⟩⟩
                  case round =>
                    clear H'
                    obtain ⟨x96_5, x135004_5, u135004, rfl, HA, HK5, HO_0, HO_135003, HO_135004, BK134, HB⟩ := hrel
                    cases gk with
                    | zero => exact absurd HA.out (by simp [jobs_Add.l3])
                    | succ k5 =>
                      have H := HA.out
                      clear HA
                      simp only [jobs_Add.l3] at H
                      by_cases c40 : x96_5 < (l2.length : Int)
                      · rw [if_pos c40] at H
                        have c40b0 : decide (x96_5 < (l2.length : Int)) = true := decide_eq_true c40
                        clear c40
                        obtain ⟨y135, hy135⟩ : ∃ y_ : List Int, y_ = (([(-1)] : List Int)) := ⟨_, rfl⟩
                        replace H : (if x135004_5.length + y135.length < 17592186044416 then (jobs_Add.l3 k5 l0 x15_4 (l2.length : Int) (wrap64 (x96_5 + 1)) x15_4 a1 1 y131 (x135004_5 ++ y135) a3 true) else (none)) = some (r1, r2, r3) := by first | (rw [hy135]; exact H) | exact H | (rw [hy135]; exact H) | exact H
                        have Ny135 := Aside0.mk hy135
                        clear hy135
                        by_cases c41 : x135004_5.length + y135.length < 17592186044416
                        rotate_left
                        · rw [if_neg c41] at H
                          exact absurd H (by simp)
                        rw [if_pos c41] at H
                        have LMc41 := Aside0.mk c41
                        clear c41
                        obtain ⟨y138, hy138⟩ : ∃ y_ : List Int, y_ = (x135004_5 ++ y135) := ⟨_, rfl⟩
                        replace H : (jobs_Add.l3 k5 l0 x15_4 (l2.length : Int) (wrap64 (x96_5 + 1)) x15_4 a1 1 y131 y138 a3 true) = some (r1, r2, r3) := by first | (rw [hy138]; exact H) | exact H | (rw [hy138]; exact H) | exact H
                        have Ny138 := Aside0.mk hy138
                        clear hy138
                        have H' := Aside0.mk H
                        clear H
                        obtain ⟨hcz42_0, hcz42_1, hcz42_2, hcz42_3, hcz42_4, hcz42_5, hcz42_6, hfz42_0, hfz42_1, hfz42_2, hfz42_3, hfz42_4, hfz42_5, hfz42_6⟩ := cells7 BK134.out
                        go_wp2_with (first | ((with_reducible refine gate_dst (N := 100) rfl ?_); (try (refine gate_guard (by rfl) ?_; dsimp only)); refine Kd.R_lit (Kd.int .i64) _ 3 ?hg (N := 100) ?hd (xs := ([(-1)] : List Int)) (inner := [.int .i64 (-1)]) (ok := fun _ => True) (okp := fun _ => True) ?hr ?hp (fun _ hk => hk) trivial (Below.refl _ _) (Nat.le_refl _) (by simp) ?_; (case hd => rfl); (case hg => rfl); (case hr => first | (go_simp; done) | (go_simp; rfl)); (case hp => exact (Reps.one (show Kd.M (Kd.int .i64) _ _ _ (-1) [.int .i64 (-1)] from rfl) (Reps.none _ _))); intro v136 w43 ho44 hb hg_ hnew_; clear hg_ hnew_; (first | rw [← Ny135.out] at ho44 | (simp only [Int.reduceToNat] at ho44; rw [← Ny135.out] at ho44)); have n0_ := Aside0.mk (Kd.V_elder' (by (with_reducible repeat (first | apply Kd.V_alloc | apply Kd.V_drewN | apply Kd.V_drew)); exact HO_0.out) (Kd.R_base ho44) hb); have n1_ := Aside0.mk (Kd.R_elder' (by (with_reducible repeat (first | apply Kd.R_alloc | apply Kd.R_drewN | apply Kd.R_drew)); exact HO_135003.out) (Kd.R_base ho44) hb); have n2_ := Aside0.mk (Kd.R_elder' (by (with_reducible repeat (first | apply Kd.R_alloc | apply Kd.R_drewN | apply Kd.R_drew)); exact HO_135004.out) (Kd.R_base ho44) hb); have n3_ := Aside0.mk (Kd.R_lower (Kd.R_new' (Kd.R_new' (Kd.R_newM (M := fun k_ => (w.heap.size ≤ k_)) ho44 (below_size (by repeat (first | (with_reducible first | exact HB.out | apply below_alloc | apply pw_below_drewN | apply below_drew1 | refine below_set ?_ GE134.out) | exact HB.out))) (fun k_ h_ => h_)) (Kd.R_lt (by (with_reducible repeat (first | apply Kd.R_alloc | apply Kd.R_drewN | apply Kd.R_drew)); exact HO_135003.out))) (Kd.R_lt (by (with_reducible repeat (first | apply Kd.R_alloc | apply Kd.R_drewN | apply Kd.R_drew)); exact HO_135004.out))) (below_size (by repeat (first | (with_reducible first | exact HB.out | apply below_alloc | apply pw_below_drewN | apply below_drew1 | refine below_set ?_ GE134.out) | exact HB.out)))); have n4_ := Aside0.mk (blk_below (g := gb134) (o := .cells #[.int .i64 x15_4, .int .i64 a1, .int .i64 1, .slice Ao37 y131.length co37, u135004, .string a3, .bool true] 35 (0, 0)) (by (with_reducible repeat (first | refine blk_drewN ?_ _ | refine blk_drew ?_ | refine blk_alloc ?_ _)); exact BK134.out) hb); have n5_ := Aside0.mk (below_step (by repeat (first | (with_reducible first | exact HB.out | apply below_alloc | apply pw_below_drewN | apply below_drew1 | refine below_set ?_ GE134.out) | exact HB.out)) hb); clear HO_0; clear HO_135003; clear HO_135004; clear BK134; clear HB; have HO_0 := n0_; have HO_135003 := n1_; have HO_135004 := n2_; have HO137 := n3_; have BK134 := n4_; have HB := n5_; clear n0_ n1_ n2_ n3_ n4_ n5_; clear hb ho44; obtain ⟨Ao46, co46, eo46⟩ := Kd.R_slice HO137.out; subst eo46) | ((with_reducible refine gate_builtin (b := .append) (xs := #[.tmp 99, .tmp 100]) rfl ?_); (try (refine gate_guard (by rfl) ?_; dsimp only)); at_builtin; refine Kd.R_append_rows (Kd.int .i64) (w0 := w) w.heap.size rfl (.tmp 99) (.tmp 100) 23 3 (.int .i64 0) 8 rfl Tryd.underlying23 info3 rfl (by decide) (by omega) u135004 x135004_5 y135 _ _ _ (fun k_ => (w.heap.size ≤ k_) ∧ some k_ ≠ (.slice Ao37 y131.length co37 : Value).ownBlock ∧ some k_ ≠ (.slice Ao46 y135.length co46 : Value).ownBlock) (fun _ => False) rfl rfl ?aO ?aR (fun _ _ h => h) (fun _ h => h.elim) ?aF ?aB ?aS ?aL ?_; (case aR => repeat (first | exact (Kd.R_reads' HO137.out).2.2 | (with_reducible refine Kd.C_alloc ?_ _) | (with_reducible refine Kd.C_drewN ?_ _) | (with_reducible refine Kd.C_drew ?_))); (case aB => exact (by repeat (first | (with_reducible first | exact HB.out | apply below_alloc | apply pw_below_drewN | apply below_drew1 | refine below_set ?_ GE134.out) | exact HB.out))); (case aF => exact (fun k_ hk => ⟨(Nat.le_trans (below_size (by repeat (first | (with_reducible first | exact HB.out | apply below_alloc | apply pw_below_drewN | apply below_drew1 | refine below_set ?_ GE134.out) | exact HB.out))) hk), Kd.fresh' (Kd.R_lt (by (with_reducible repeat (first | apply Kd.R_alloc | apply Kd.R_drewN | apply Kd.R_drew)); exact HO_135003.out)) k_ hk, Kd.fresh' (Kd.R_lt (by (with_reducible repeat (first | apply Kd.R_alloc | apply Kd.R_drewN | apply Kd.R_drew)); exact HO137.out)) k_ hk⟩)); (case aO => exact (by (with_reducible repeat (first | apply Kd.R_alloc | apply Kd.R_drewN | apply Kd.R_drew)); exact Kd.R_mono HO_135004.out (fun _ hk => ⟨hk.1.1, ⟨hk.1.2, hk.2⟩⟩))); (case aS => exact (below_size (by repeat (first | (with_reducible first | exact HB.out | apply below_alloc | apply pw_below_drewN | apply below_drew1 | refine below_set ?_ GE134.out) | exact HB.out)))); (case aL => have := LMc41.out; omega); intro v139 w45 ho hb hg hat; rw [← Ny138.out] at ho; have n0_ := Aside0.mk (Kd.V_afterv (ok := (fun k_ => (P0_ k_ ∨ w.heap.size ≤ k_) ∧ some k_ ≠ (.slice Ao37 y131.length co37 : Value).ownBlock ∧ some k_ ≠ (.slice Ao46 y135.length co46 : Value).ownBlock ∧ k_ ≠ gb134)) (by (with_reducible repeat (first | apply Kd.V_alloc | apply Kd.V_drewN | apply Kd.V_drew)); exact Kd.V_mono HO_0.out (fun _ hk => ⟨⟨hk.1.1, ⟨hk.1.2.1, ⟨hk.2, hk.1.2.2.2⟩⟩⟩, hk.1.2.2.1⟩)) hg hat); have n1_ := Aside0.mk (Kd.R_after (ok := (fun k_ => (w.heap.size ≤ k_) ∧ some k_ ≠ (.slice Ao46 y135.length co46 : Value).ownBlock)) (by (with_reducible repeat (first | apply Kd.R_alloc | apply Kd.R_drewN | apply Kd.R_drew)); exact Kd.R_mono HO_135003.out (fun _ hk => ⟨⟨hk.1.1, hk.2⟩, hk.1.2⟩)) hg hat); have n2_ := Aside0.mk (blk_grown (g := gb134) (o := .cells #[.int .i64 x15_4, .int .i64 a1, .int .i64 1, .slice Ao37 y131.length co37, u135004, .string a3, .bool true] 35 (0, 0)) (by (with_reducible repeat (first | refine blk_drewN ?_ _ | refine blk_drew ?_ | refine blk_alloc ?_ _)); exact BK134.out) hg (Kd.R_ne HO_135004.out BK134.out (by decide))); have n3_ := Aside0.mk (Kd.R_after (ok := (fun k_ => (w.heap.size ≤ k_) ∧ some k_ ≠ (.slice Ao37 y131.length co37 : Value).ownBlock)) (by (with_reducible repeat (first | apply Kd.R_alloc | apply Kd.R_drewN | apply Kd.R_drew)); exact Kd.R_mono HO137.out (fun _ hk => ⟨⟨hk.1.1.1, hk.1.2⟩, hk.2⟩)) hg hat); have n4_ := Aside0.mk (hb); have n5_ := Aside0.mk (ho); clear HO_0; clear HO_135003; clear BK134; clear HO137; clear HB; clear HO_135004; have HO_0 := n0_; have HO_135003 := n1_; have BK134 := n2_; have HO137 := n3_; have HB := n4_; have HO140 := n5_; clear n0_ n1_ n2_ n3_ n4_ n5_; clear ho hb hg hat; obtain ⟨Ao47, co47, eo47⟩ := Kd.R_slice HO140.out; subst eo47; obtain ⟨hcz48_0, hcz48_1, hcz48_2, hcz48_3, hcz48_4, hcz48_5, hcz48_6, hfz48_0, hfz48_1, hfz48_2, hfz48_3, hfz48_4, hfz48_5, hfz48_6⟩ := cells7 BK134.out))
                        go_roundg k5
                        case measure => have := HJ5.out; have := HK2.out; have := HK3.out; have := HK4.out; have := HK5.out; omega
                        case rel => exact ⟨(wrap64 (x96_5 + 1)), (y138), (.slice Ao47 y138.length co47), (by first | rfl | (simp; done) | (simp [*]; done)), H', ⟨by have := HJ5.out; have := HK2.out; have := HK3.out; have := HK4.out; have := HK5.out; omega⟩, ⟨by (with_reducible repeat (first | apply Kd.V_alloc | apply Kd.V_drewN | apply Kd.V_drew)); exact Kd.V_mono (Kd.V_far (p := ⟨gb134, 4, none⟩) (Kd.V_mono HO_0.out (fun k_ hk => (⟨hk, hk.1.2.2.2⟩ : _ ∧ k_ ≠ gb134))) (fun _ hk => hk.2) (.slice Ao47 y138.length co47)) (fun _ hk => ⟨hk.1.1.1, ⟨hk.1.1.2.1, ⟨hk.1.2, hk.1.1.2.2.2⟩⟩⟩)⟩, ⟨by (with_reducible repeat (first | apply Kd.R_alloc | apply Kd.R_drewN | apply Kd.R_drew)); exact Kd.R_mono (Kd.R_far (p := ⟨gb134, 4, none⟩) (Kd.R_types HO_135003.out BK134.out (by decide)) (fun _ hk => hk.2) (.slice Ao47 y138.length co47)) (fun _ hk => ⟨hk.1.1.1, hk.1.2⟩)⟩, ⟨by (with_reducible repeat (first | apply Kd.R_alloc | apply Kd.R_drewN | apply Kd.R_drew)); exact Kd.R_mono (Kd.R_far (p := ⟨gb134, 4, none⟩) (Kd.R_types HO140.out BK134.out (by decide)) (fun _ hk => hk.2) (.slice Ao47 y138.length co47)) (fun _ hk => ⟨hk.1.1, hk.1.2.1⟩)⟩, ⟨by (with_reducible repeat (first | refine blk_drewN ?_ _ | refine blk_drew ?_ | refine blk_alloc ?_ _)); refine blk_put (cs := #[.int .i64 x15_4, .int .i64 a1, .int .i64 1, .slice Ao37 y131.length co37, u135004, .string a3, .bool true]) ?_ 4 _ rfl; (with_reducible repeat (first | refine blk_drewN ?_ _ | refine blk_drew ?_ | refine blk_alloc ?_ _)); exact BK134.out⟩, ⟨by repeat (first | (with_reducible first | exact HB.out | apply below_alloc | apply pw_below_drewN | apply below_drew1 | refine below_set ?_ GE134.out) | exact HB.out)⟩⟩
                      rw [if_neg c40] at H
                      have c40b0 : decide (x96_5 < (l2.length : Int)) = false := decide_eq_false c40
                      clear c40
                      replace H := Option.bind_eq_some_iff.mp H
                      obtain ⟨t141, A490, H⟩ := H
                      replace H : ((some (([(⟨x15_4, a1, 1, y131, x135004_5, a3, true⟩ : S35)] : List (S35)) : List (S35))).bind fun y144 => (if t141.length + y144.length < 1466015503701 then (some ((t141 ++ y144), x15_4, 0)) else (none))) = some (r1, r2, r3) := H
                      have A49 := Aside0.mk A490
                      clear A490
                      obtain ⟨y144, hy144⟩ : ∃ y_ : List (S35), y_ = (([(⟨x15_4, a1, 1, y131, x135004_5, a3, true⟩ : S35)] : List (S35))) := ⟨_, rfl⟩
                      replace H : (if t141.length + y144.length < 1466015503701 then (some ((t141 ++ y144), x15_4, 0)) else (none)) = some (r1, r2, r3) := by first | (rw [hy144]; exact H) | exact H | (rw [hy144]; exact H) | exact H
                      have Ny144 := Aside0.mk hy144
                      clear hy144
                      by_cases c50 : t141.length + y144.length < 1466015503701
                      rotate_left
                      · rw [if_neg c50] at H
                        exact absurd H (by simp)
                      rw [if_pos c50] at H
                      have LMc50 := Aside0.mk c50
                      clear c50
                      obtain ⟨y147, hy147⟩ : ∃ y_ : List (S35), y_ = (t141 ++ y144) := ⟨_, rfl⟩
                      replace H : (some (y147, x15_4, 0)) = some (r1, r2, r3) := by first | (rw [hy147]; exact H) | exact H | (rw [hy147]; exact H) | exact H
                      have Ny147 := Aside0.mk hy147
                      clear hy147
                      simp only [Option.some.injEq, Prod.mk.injEq] at H
                      obtain ⟨rfl, rfl, rfl⟩ := H
                      try go_wp2
                      have n0_ := Aside0.mk (Kd.V_drew HO_0.out)
                      have n1_ := Aside0.mk (Kd.R_drew HO_135003.out)
                      have n2_ := Aside0.mk (Kd.R_drew HO_135004.out)
                      have n3_ := Aside0.mk (blk_drew BK134.out)
                      have n4_ := Aside0.mk (below_drew1 HB.out)
                      clear HO_0
                      clear HO_135003
                      clear HO_135004
                      clear BK134
                      clear HB
                      have HO_0 := n0_
                      have HO_135003 := n1_
                      have HO_135004 := n2_
                      have BK134 := n3_
                      have HB := n4_
                      clear n0_ n1_ n2_ n3_ n4_
                      refine start_ (n := 9) (S := fun w' => w'.cell? ⟨gb134, 0, none⟩ = some (.int .i64 x15_4) ∧ w'.cell? ⟨gb134, 1, none⟩ = some (.int .i64 a1) ∧ w'.cell? ⟨gb134, 2, none⟩ = some (.int .i64 1) ∧ w'.cell? ⟨gb134, 3, none⟩ = some (.slice Ao37 y131.length co37) ∧ w'.cell? ⟨gb134, 4, none⟩ = some (u135004) ∧ w'.cell? ⟨gb134, 5, none⟩ = some (.string a3) ∧ w'.cell? ⟨gb134, 6, none⟩ = some (.bool true)) (ds := []) #[false, false, false, false, false, false, false, false, false] (by kernel_rfl) rfl rfl (held7 BK134.out) (fun hHeld => ?_); refine with_tabW jobs_Add.tab31 jobs_Add.bits31 (fun HT_ HW_ => ?_)
                      generalize wr.drew = w51 at HO_0 HO_135003 HO_135004 BK134 HB hHeld ⊢
                      refine pure_ (i := 0) (N := some 104) (v := ?_) (a' := ?_) #[true, false, false, false, false, false, false, false, false] rfl rfl (any_of HT_.out (by kernel_rfl)) (fun _ _ _ h => h) (Or.inl ⟨by rfl, ?_⟩) ?_ ?_
                      rotate_left
                      · intro w'
                        go_simp
                        with_reducible rfl
                      rotate_left
                      · simp only [Act.put, List.setIfInBounds_toArray, List.set_cons_zero, List.set_cons_succ, i64_w, i32_w]
                        rfl
                      refine pure_ (i := 5) (N := some 109) (v := ?_) (a' := ?_) #[true, false, false, false, false, true, false, false, false] rfl rfl (any_of HT_.out (by kernel_rfl)) (fun _ _ _ h => h) (Or.inl ⟨by rfl, ?_⟩) ?_ ?_
                      rotate_left
                      · intro w'
                        go_simp
                        with_reducible rfl
                      rotate_left
                      · simp only [Act.put, List.setIfInBounds_toArray, List.set_cons_zero, List.set_cons_succ, i64_w, i32_w]
                        rfl
                      refine take_ (i := 2) (N := some 106) (v := ?_) (a' := ?_) #[true, false, true, false, false, true, false, false, false] rfl rfl (take_ofW HT_.out HW_.out (by kernel_rfl)) (fun _ _ _ h => h) (Or.inl ⟨by rfl, ?_⟩) hHeld ?_ ?_
                      rotate_left
                      · rintro w' ⟨s0, s1, s2, s3, s4, s5, s6⟩
                        go_simp
                        with_reducible rfl
                      rotate_left
                      · simp only [Act.put, List.setIfInBounds_toArray, List.set_cons_zero, List.set_cons_succ, i64_w, i32_w]
                        rfl
                      obtain ⟨Ao53, co53, eo_⟩ := Kd.R_slice HO_135004.out
                      subst eo_
                      refine join_ (σ := Value × Value) 4 #[true, true, true, true, false, true, false, false, false] (fun s_ => [(105, s_.1), (107, s_.2)]) (fun s_ w' => (w'.cell? ⟨gb134, 0, none⟩ = some (.int .i64 x15_4) ∧ w'.cell? ⟨gb134, 1, none⟩ = some (.int .i64 a1) ∧ w'.cell? ⟨gb134, 2, none⟩ = some (.int .i64 1) ∧ w'.cell? ⟨gb134, 3, none⟩ = some (.slice Ao37 y131.length co37) ∧ w'.cell? ⟨gb134, 4, none⟩ = some ((Value.slice Ao53 x135004_5.length co53)) ∧ w'.cell? ⟨gb134, 5, none⟩ = some (.string a3) ∧ w'.cell? ⟨gb134, 6, none⟩ = some (.bool true)) ∧ (Kd.N k35 35 w' w.heap.size (fun k_ => (P0_ k_ ∨ w.heap.size ≤ k_) ∧ some k_ ≠ (s_.2 : Value).ownBlock ∧ k_ ≠ gb134) s_.1 t141) ∧ (Kd.N k35 35 w' w.heap.size (fun k_ => (P0_ k_ ∨ w.heap.size ≤ k_) ∧ some k_ ≠ (s_.1 : Value).ownBlock ∧ k_ ≠ gb134) s_.2 y144) ∧ (Kd.V k35 35 w' w.heap.size (fun k_ => (P0_ k_ ∨ w.heap.size ≤ k_) ∧ some k_ ≠ (s_.1 : Value).ownBlock ∧ some k_ ≠ (s_.2 : Value).ownBlock ∧ k_ ≠ gb134) (.slice A0 l0.length c0) l0) ∧ (w'.heap[gb134]? = some (.cells #[.int .i64 x15_4, .int .i64 a1, .int .i64 1, .slice Ao37 y131.length co37, .slice Ao53 x135004_5.length co53, .string a3, .bool true] 35 (0, 0))) ∧ (Below w.heap.size w w')) ?_ ?_
                      rotate_left
                      · intro hCont
                        refine two_ (i := 1) (j := 3) (Ni := some 105) (Nj := some 107) #[true, true, true, false, false, true, false, false, false] #[true, false, true, true, false, true, false, false, false] rfl rfl rfl rfl (two_of HT_.out (by kernel_rfl)) (by decide) (by decide) (fun K hK => ?_) (fun K hK => ?_)
                        · skip
                          refine goes_ Tryd.func27 (by kernel_rfl) rfl #[.slice A0 l0.length c0] (by rfl) rfl rfl (by (try simp only [List.map_toArray, List.map_cons, List.map_nil]); first | done | rfl | (simp only [List.length_drop, List.length_take]; rfl)) ?_
                          with_reducible refine (jobs_own.calls k5 _ _ l0 t141 _ ?side1 ?side2 A49.out ?sideG).mono ?_
                          (case sideG => first | (with_reducible exact HG.out) | (with_reducible exact HG.out.drewN _) | exact HG.out.below (by repeat (first | (with_reducible first | exact HB.out | apply below_alloc | apply pw_below_drewN | apply below_drew1 | refine below_set ?_ GE134.out) | exact HB.out)))
                          (case side1 => repeat (first | exact (Kd.V_reads' HO_0.out).2.2 | (with_reducible refine Kd.C_alloc ?_ _) | (with_reducible refine Kd.C_drewN ?_ _) | (with_reducible refine Kd.C_drew ?_)))
                          (case side2 => exact (Kd.V_reads' HO_0.out).2.1)
                          rintro e w52 ⟨v142, rfl, ho0, hb⟩
                          refine ⟨_, rfl, ?_⟩
                          have n0_ := Aside0.mk (Kd.V_elder' (by (with_reducible repeat (first | apply Kd.V_alloc | apply Kd.V_drewN | apply Kd.V_drew)); exact HO_0.out) (Kd.N_base (Kd.S_N ho0)) hb)
                          have n1_ := Aside0.mk (Kd.R_below (by (with_reducible repeat (first | apply Kd.R_alloc | apply Kd.R_drewN | apply Kd.R_drew)); exact HO_135003.out) hb)
                          have n2_ := Aside0.mk (Kd.R_below (by (with_reducible repeat (first | apply Kd.R_alloc | apply Kd.R_drewN | apply Kd.R_drew)); exact HO_135004.out) hb)
                          have n3_ := Aside0.mk (Kd.N_lower (Kd.N_mono (ok' := fun k_ => (P0_ k_ ∨ w.heap.size ≤ k_) ∧ some k_ ≠ (.slice Ao37 y131.length co37 : Value).ownBlock ∧ some k_ ≠ ((Value.slice Ao53 x135004_5.length co53) : Value).ownBlock ∧ k_ ≠ gb134) (Kd.S_N (Kd.S_bound ho0)) (fun k_ hk_ => ⟨(.inr (Nat.le_trans (below_size (by repeat (first | (with_reducible first | exact HB.out | apply below_alloc | apply pw_below_drewN | apply below_drew1 | refine below_set ?_ GE134.out) | exact HB.out))) hk_.2.1)), (Kd.fresh' (Kd.R_lt (by (with_reducible repeat (first | apply Kd.R_alloc | apply Kd.R_drewN | apply Kd.R_drew)); exact HO_135003.out)) k_ hk_.2.1), (Kd.fresh' (Kd.R_lt (by (with_reducible repeat (first | apply Kd.R_alloc | apply Kd.R_drewN | apply Kd.R_drew)); exact HO_135004.out)) k_ hk_.2.1), (Kd.freshB (g := gb134) (o := .cells #[.int .i64 x15_4, .int .i64 a1, .int .i64 1, .slice Ao37 y131.length co37, (Value.slice Ao53 x135004_5.length co53), .string a3, .bool true] 35 (0, 0)) (by (with_reducible repeat (first | refine blk_drewN ?_ _ | refine blk_drew ?_ | refine blk_alloc ?_ _)); exact BK134.out) k_ hk_.2.1)⟩)) (below_size (by repeat (first | (with_reducible first | exact HB.out | apply below_alloc | apply pw_below_drewN | apply below_drew1 | refine below_set ?_ GE134.out) | exact HB.out))))
                          have n4_ := Aside0.mk (blk_below (g := gb134) (o := .cells #[.int .i64 x15_4, .int .i64 a1, .int .i64 1, .slice Ao37 y131.length co37, (Value.slice Ao53 x135004_5.length co53), .string a3, .bool true] 35 (0, 0)) (by (with_reducible repeat (first | refine blk_drewN ?_ _ | refine blk_drew ?_ | refine blk_alloc ?_ _)); exact BK134.out) hb)
                          have n5_ := Aside0.mk (below_step (by repeat (first | (with_reducible first | exact HB.out | apply below_alloc | apply pw_below_drewN | apply below_drew1 | refine below_set ?_ GE134.out) | exact HB.out)) hb)
                          clear HO_0
                          clear HO_135003
                          clear HO_135004
                          clear BK134
                          clear HB
                          have HO_0 := n0_
                          have HO_135003 := n1_
                          have HO_135004 := n2_
                          have HO143 := n3_
                          have BK134 := n4_
                          have HB := n5_
                          clear n0_ n1_ n2_ n3_ n4_ n5_
                          (try clear hb)
                          (try clear hb2)
                          (try clear hk)
                          (try clear hi)
                          (try clear ho0)
                          refine hK.out _ _ (held7 BK134.out) (fun hHeld => ?_)
                          clear hK K
                          refine norm_ (a' := ?_) ?_ ?_
                          rotate_left
                          · show Act.put _ (some 105) _ = _
                            simp only [Act.put, List.setIfInBounds_toArray, List.set_cons_zero, List.set_cons_succ, i64_w, i32_w]
                            rfl
                          refine one_ (i := 3) (N := some 107) #[true, true, true, true, false, true, false, false, false] rfl rfl (one_of HT_.out (by kernel_rfl)) (by decide) (fun K hK => ?_)
                          refine Kd.N_lit_step k35 _ 35 ?hg (N' := 107) ?hd (xs := ([(⟨x15_4, a1, 1, y131, x135004_5, a3, true⟩ : S35)] : List (S35))) (inner := [.int .i64 x15_4, .int .i64 a1, .int .i64 1, .slice Ao37 y131.length co37, .slice Ao53 x135004_5.length co53, .string a3, .bool true]) (ok := (fun k_ => (P0_ k_ ∨ w.heap.size ≤ k_) ∧ some k_ ≠ (v142 : Value).ownBlock ∧ k_ ≠ gb134)) (okp := (fun k_ => (P0_ k_ ∨ w.heap.size ≤ k_) ∧ some k_ ≠ (v142 : Value).ownBlock ∧ k_ ≠ gb134)) ?hr ?hp (fun _ hk => hk) ((show ∀ k_, w52.heap.size ≤ k_ → (fun k_ => (P0_ k_ ∨ w.heap.size ≤ k_) ∧ some k_ ≠ (v142 : Value).ownBlock ∧ k_ ≠ gb134) k_ from fun k_ hk => ⟨(.inr (Nat.le_trans (below_size (by repeat (first | (with_reducible first | exact HB.out | apply below_alloc | apply pw_below_drewN | apply below_drew1 | refine below_set ?_ GE134.out) | exact HB.out))) hk)), Kd.fresh' (Kd.N_lt (by (with_reducible repeat (first | apply Kd.N_alloc | apply Kd.N_drewN | apply Kd.N_drew)); exact HO143.out)) k_ hk, Kd.freshB (g := gb134) (o := .cells #[.int .i64 x15_4, .int .i64 a1, .int .i64 1, .slice Ao37 y131.length co37, .slice Ao53 x135004_5.length co53, .string a3, .bool true] 35 (0, 0)) (by (with_reducible repeat (first | refine blk_drewN ?_ _ | refine blk_drew ?_ | refine blk_alloc ?_ _)); exact BK134.out) k_ hk⟩) _ (Nat.le_refl _)) (Below.refl _ _) (Nat.le_refl _) (by simp) ?_; (case hd => rfl); (case hg => rfl); (case hr => first | (go_simp; done) | (go_simp; rfl)); (case hp => exact (Reps.c7 (show Kd.FK k35 _ _ (⟨x15_4, a1, 1, y131, x135004_5, a3, true⟩ : S35) [.int .i64 x15_4, .int .i64 a1, .int .i64 1, .slice Ao37 y131.length co37, .slice Ao53 x135004_5.length co53, .string a3, .bool true] from (k35_mkF _ _ (⟨x15_4, a1, 1, y131, x135004_5, a3, true⟩ : S35) (Kd.R_reads' (Kd.R_mono (ok' := (fun k_ => (P0_ k_ ∨ w.heap.size ≤ k_) ∧ some k_ ≠ (v142 : Value).ownBlock ∧ k_ ≠ gb134)) (Kd.R_types (Kd.R_apart' (HO_135003.out) (Kd.N_typed HO143.out) (by decide)) BK134.out (by decide)) (fun k_ hk => ⟨(.inr (hk.1.1.1)), ⟨hk.1.2, hk.2⟩⟩))).2.1 (Kd.R_F (Kd.R_mono (ok' := (fun k_ => (P0_ k_ ∨ w.heap.size ≤ k_) ∧ some k_ ≠ (v142 : Value).ownBlock ∧ k_ ≠ gb134)) (Kd.R_types (Kd.R_apart' (HO_135003.out) (Kd.N_typed HO143.out) (by decide)) BK134.out (by decide)) (fun k_ hk => ⟨(.inr (hk.1.1.1)), ⟨hk.1.2, hk.2⟩⟩))) (Kd.R_reads' (Kd.R_mono (ok' := (fun k_ => (P0_ k_ ∨ w.heap.size ≤ k_) ∧ some k_ ≠ (v142 : Value).ownBlock ∧ k_ ≠ gb134)) (Kd.R_types (Kd.R_apart' (HO_135004.out) (Kd.N_typed HO143.out) (by decide)) BK134.out (by decide)) (fun k_ hk => ⟨(.inr (hk.1.1.1)), ⟨hk.1.2, hk.2⟩⟩))).2.1 (Kd.R_F (Kd.R_mono (ok' := (fun k_ => (P0_ k_ ∨ w.heap.size ≤ k_) ∧ some k_ ≠ (v142 : Value).ownBlock ∧ k_ ≠ gb134)) (Kd.R_types (Kd.R_apart' (HO_135004.out) (Kd.N_typed HO143.out) (by decide)) BK134.out (by decide)) (fun k_ hk => ⟨(.inr (hk.1.1.1)), ⟨hk.1.2, hk.2⟩⟩))))) (Reps.none _ _)))
                          intro v145 w54 ho55 hb hg_ hnew_
                          clear hg_ hnew_
                          (first | rw [← Ny144.out] at ho55 | (simp only [Int.reduceToNat] at ho55; rw [← Ny144.out] at ho55))
                          have n0_ := Aside0.mk (Kd.V_elder' (by (with_reducible repeat (first | apply Kd.V_alloc | apply Kd.V_drewN | apply Kd.V_drew)); exact HO_0.out) (Kd.N_base ho55) hb)
                          have n1_ := Aside0.mk (Kd.N_elder' (by (with_reducible repeat (first | apply Kd.N_alloc | apply Kd.N_drewN | apply Kd.N_drew)); exact HO143.out) (Kd.N_base ho55) hb)
                          have n2_ := Aside0.mk (Kd.N_lower ho55 (below_size (by repeat (first | (with_reducible first | exact HB.out | apply below_alloc | apply pw_below_drewN | apply below_drew1 | refine below_set ?_ GE134.out) | exact HB.out))))
                          have n3_ := Aside0.mk (blk_below (g := gb134) (o := .cells #[.int .i64 x15_4, .int .i64 a1, .int .i64 1, .slice Ao37 y131.length co37, .slice Ao53 x135004_5.length co53, .string a3, .bool true] 35 (0, 0)) (by (with_reducible repeat (first | refine blk_drewN ?_ _ | refine blk_drew ?_ | refine blk_alloc ?_ _)); exact BK134.out) hb)
                          have n4_ := Aside0.mk (below_step (by repeat (first | (with_reducible first | exact HB.out | apply below_alloc | apply pw_below_drewN | apply below_drew1 | refine below_set ?_ GE134.out) | exact HB.out)) hb)
                          clear HO_0
                          clear HO143
                          clear BK134
                          clear HB
                          clear HO_135003
                          clear HO_135004
                          have HO_0 := n0_
                          have HO143 := n1_
                          have HO146 := n2_
                          have BK134 := n3_
                          have HB := n4_
                          clear n0_ n1_ n2_ n3_ n4_
                          clear hb ho55
                          refine hK.out _ _ (held7 BK134.out) (fun hHeld => ?_)
                          clear hK K
                          refine norm_ (a' := ?_) ?_ ?_
                          rotate_left
                          · show Act.put _ (some 107) _ = _
                            simp only [Act.put, List.setIfInBounds_toArray, List.set_cons_zero, List.set_cons_succ, i64_w, i32_w]
                            rfl
                          exact norm_ (by simp only [putAll, Act.put, List.setIfInBounds_toArray, List.set_cons_zero, List.set_cons_succ]) (hCont (v142, v145) _ ⟨hHeld, (by (with_reducible repeat (first | apply Kd.N_alloc | apply Kd.N_drewN | apply Kd.N_drew)); exact Kd.N_mono HO143.out (fun _ hk => ⟨hk.1.1, ⟨hk.2, hk.1.2.2.2⟩⟩)), (by (with_reducible repeat (first | apply Kd.N_alloc | apply Kd.N_drewN | apply Kd.N_drew)); exact HO146.out), (by (with_reducible repeat (first | apply Kd.V_alloc | apply Kd.V_drewN | apply Kd.V_drew)); exact Kd.V_mono HO_0.out (fun _ hk => ⟨hk.1.1.1, ⟨hk.1.2, ⟨hk.2, hk.1.1.2.2.2⟩⟩⟩)), (by (with_reducible repeat (first | refine blk_drewN ?_ _ | refine blk_drew ?_ | refine blk_alloc ?_ _)); exact BK134.out), (by repeat (first | (with_reducible first | exact HB.out | apply below_alloc | apply pw_below_drewN | apply below_drew1 | refine below_set ?_ GE134.out) | exact HB.out))⟩)
                        · skip
                          refine Kd.N_lit_step k35 _ 35 ?hg (N' := 107) ?hd (xs := ([(⟨x15_4, a1, 1, y131, x135004_5, a3, true⟩ : S35)] : List (S35))) (inner := [.int .i64 x15_4, .int .i64 a1, .int .i64 1, .slice Ao37 y131.length co37, .slice Ao53 x135004_5.length co53, .string a3, .bool true]) (ok := (fun k_ => (P0_ k_ ∨ w.heap.size ≤ k_) ∧ k_ ≠ gb134)) (okp := (fun k_ => (P0_ k_ ∨ w.heap.size ≤ k_) ∧ k_ ≠ gb134)) ?hr ?hp (fun _ hk => hk) ((show ∀ k_, w51.heap.size ≤ k_ → (fun k_ => (P0_ k_ ∨ w.heap.size ≤ k_) ∧ k_ ≠ gb134) k_ from fun k_ hk => ⟨(.inr (Nat.le_trans (below_size (by repeat (first | (with_reducible first | exact HB.out | apply below_alloc | apply pw_below_drewN | apply below_drew1 | refine below_set ?_ GE134.out) | exact HB.out))) hk)), Kd.freshB (g := gb134) (o := .cells #[.int .i64 x15_4, .int .i64 a1, .int .i64 1, .slice Ao37 y131.length co37, .slice Ao53 x135004_5.length co53, .string a3, .bool true] 35 (0, 0)) (by (with_reducible repeat (first | refine blk_drewN ?_ _ | refine blk_drew ?_ | refine blk_alloc ?_ _)); exact BK134.out) k_ hk⟩) _ (Nat.le_refl _)) (Below.refl _ _) (Nat.le_refl _) (by simp) ?_; (case hd => rfl); (case hg => rfl); (case hr => first | (go_simp; done) | (go_simp; rfl)); (case hp => exact (Reps.c7 (show Kd.FK k35 _ _ (⟨x15_4, a1, 1, y131, x135004_5, a3, true⟩ : S35) [.int .i64 x15_4, .int .i64 a1, .int .i64 1, .slice Ao37 y131.length co37, .slice Ao53 x135004_5.length co53, .string a3, .bool true] from (k35_mkF _ _ (⟨x15_4, a1, 1, y131, x135004_5, a3, true⟩ : S35) (Kd.R_reads' (Kd.R_mono (ok' := (fun k_ => (P0_ k_ ∨ w.heap.size ≤ k_) ∧ k_ ≠ gb134)) (Kd.R_types (HO_135003.out) BK134.out (by decide)) (fun k_ hk => ⟨(.inr (hk.1.1)), hk.2⟩))).2.1 (Kd.R_F (Kd.R_mono (ok' := (fun k_ => (P0_ k_ ∨ w.heap.size ≤ k_) ∧ k_ ≠ gb134)) (Kd.R_types (HO_135003.out) BK134.out (by decide)) (fun k_ hk => ⟨(.inr (hk.1.1)), hk.2⟩))) (Kd.R_reads' (Kd.R_mono (ok' := (fun k_ => (P0_ k_ ∨ w.heap.size ≤ k_) ∧ k_ ≠ gb134)) (Kd.R_types (HO_135004.out) BK134.out (by decide)) (fun k_ hk => ⟨(.inr (hk.1.1)), hk.2⟩))).2.1 (Kd.R_F (Kd.R_mono (ok' := (fun k_ => (P0_ k_ ∨ w.heap.size ≤ k_) ∧ k_ ≠ gb134)) (Kd.R_types (HO_135004.out) BK134.out (by decide)) (fun k_ hk => ⟨(.inr (hk.1.1)), hk.2⟩))))) (Reps.none _ _)))
                          intro v145 w53 ho54 hb hg_ hnew_
                          clear hg_ hnew_
                          (first | rw [← Ny144.out] at ho54 | (simp only [Int.reduceToNat] at ho54; rw [← Ny144.out] at ho54))
                          have n0_ := Aside0.mk (Kd.V_elder' (by (with_reducible repeat (first | apply Kd.V_alloc | apply Kd.V_drewN | apply Kd.V_drew)); exact HO_0.out) (Kd.N_base ho54) hb)
                          have n1_ := Aside0.mk (Kd.N_lower ho54 (below_size (by repeat (first | (with_reducible first | exact HB.out | apply below_alloc | apply pw_below_drewN | apply below_drew1 | refine below_set ?_ GE134.out) | exact HB.out))))
                          have n2_ := Aside0.mk (blk_below (g := gb134) (o := .cells #[.int .i64 x15_4, .int .i64 a1, .int .i64 1, .slice Ao37 y131.length co37, .slice Ao53 x135004_5.length co53, .string a3, .bool true] 35 (0, 0)) (by (with_reducible repeat (first | refine blk_drewN ?_ _ | refine blk_drew ?_ | refine blk_alloc ?_ _)); exact BK134.out) hb)
                          have n3_ := Aside0.mk (below_step (by repeat (first | (with_reducible first | exact HB.out | apply below_alloc | apply pw_below_drewN | apply below_drew1 | refine below_set ?_ GE134.out) | exact HB.out)) hb)
                          clear HO_0
                          clear BK134
                          clear HB
                          clear HO_135003
                          clear HO_135004
                          have HO_0 := n0_
                          have HO146 := n1_
                          have BK134 := n2_
                          have HB := n3_
                          clear n0_ n1_ n2_ n3_
                          clear hb ho54
                          refine hK.out _ _ (held7 BK134.out) (fun hHeld => ?_)
                          clear hK K
                          refine norm_ (a' := ?_) ?_ ?_
                          rotate_left
                          · show Act.put _ (some 107) _ = _
                            simp only [Act.put, List.setIfInBounds_toArray, List.set_cons_zero, List.set_cons_succ, i64_w, i32_w]
                            rfl
                          refine one_ (i := 1) (N := some 105) #[true, true, true, true, false, true, false, false, false] rfl rfl (one_of HT_.out (by kernel_rfl)) (by decide) (fun K hK => ?_)
                          refine goes_ Tryd.func27 (by kernel_rfl) rfl #[.slice A0 l0.length c0] (by rfl) rfl rfl (by (try simp only [List.map_toArray, List.map_cons, List.map_nil]); first | done | rfl | (simp only [List.length_drop, List.length_take]; rfl)) ?_
                          with_reducible refine (jobs_own.calls k5 _ _ l0 t141 _ ?side1 ?side2 A49.out ?sideG).mono ?_
                          (case sideG => first | (with_reducible exact HG.out) | (with_reducible exact HG.out.drewN _) | exact HG.out.below (by repeat (first | (with_reducible first | exact HB.out | apply below_alloc | apply pw_below_drewN | apply below_drew1 | refine below_set ?_ GE134.out) | exact HB.out)))
                          (case side1 => repeat (first | exact (Kd.V_reads' HO_0.out).2.2 | (with_reducible refine Kd.C_alloc ?_ _) | (with_reducible refine Kd.C_drewN ?_ _) | (with_reducible refine Kd.C_drew ?_)))
                          (case side2 => exact (Kd.V_reads' HO_0.out).2.1)
                          rintro e w55 ⟨v142, rfl, ho0, hb⟩
                          refine ⟨_, rfl, ?_⟩
                          have n0_ := Aside0.mk (Kd.V_elder' (by (with_reducible repeat (first | apply Kd.V_alloc | apply Kd.V_drewN | apply Kd.V_drew)); exact HO_0.out) (Kd.N_base (Kd.S_N ho0)) hb)
                          have n1_ := Aside0.mk (Kd.N_elder' (by (with_reducible repeat (first | apply Kd.N_alloc | apply Kd.N_drewN | apply Kd.N_drew)); exact HO146.out) (Kd.N_base (Kd.S_N ho0)) hb)
                          have n2_ := Aside0.mk (Kd.N_lower (Kd.N_mono (ok' := fun k_ => (P0_ k_ ∨ w.heap.size ≤ k_) ∧ some k_ ≠ (v145 : Value).ownBlock ∧ k_ ≠ gb134) (Kd.S_N (Kd.S_bound ho0)) (fun k_ hk_ => ⟨(.inr (Nat.le_trans (below_size (by repeat (first | (with_reducible first | exact HB.out | apply below_alloc | apply pw_below_drewN | apply below_drew1 | refine below_set ?_ GE134.out) | exact HB.out))) hk_.2.1)), (Kd.fresh' (Kd.N_lt (by (with_reducible repeat (first | apply Kd.N_alloc | apply Kd.N_drewN | apply Kd.N_drew)); exact HO146.out)) k_ hk_.2.1), (Kd.freshB (g := gb134) (o := .cells #[.int .i64 x15_4, .int .i64 a1, .int .i64 1, .slice Ao37 y131.length co37, .slice Ao53 x135004_5.length co53, .string a3, .bool true] 35 (0, 0)) (by (with_reducible repeat (first | refine blk_drewN ?_ _ | refine blk_drew ?_ | refine blk_alloc ?_ _)); exact BK134.out) k_ hk_.2.1)⟩)) (below_size (by repeat (first | (with_reducible first | exact HB.out | apply below_alloc | apply pw_below_drewN | apply below_drew1 | refine below_set ?_ GE134.out) | exact HB.out))))
                          have n3_ := Aside0.mk (blk_below (g := gb134) (o := .cells #[.int .i64 x15_4, .int .i64 a1, .int .i64 1, .slice Ao37 y131.length co37, .slice Ao53 x135004_5.length co53, .string a3, .bool true] 35 (0, 0)) (by (with_reducible repeat (first | refine blk_drewN ?_ _ | refine blk_drew ?_ | refine blk_alloc ?_ _)); exact BK134.out) hb)
                          have n4_ := Aside0.mk (below_step (by repeat (first | (with_reducible first | exact HB.out | apply below_alloc | apply pw_below_drewN | apply below_drew1 | refine below_set ?_ GE134.out) | exact HB.out)) hb)
                          clear HO_0
                          clear HO146
                          clear BK134
                          clear HB
                          have HO_0 := n0_
                          have HO146 := n1_
                          have HO143 := n2_
                          have BK134 := n3_
                          have HB := n4_
                          clear n0_ n1_ n2_ n3_ n4_
                          (try clear hb)
                          (try clear hb2)
                          (try clear hk)
                          (try clear hi)
                          (try clear ho0)
                          refine hK.out _ _ (held7 BK134.out) (fun hHeld => ?_)
                          clear hK K
                          refine norm_ (a' := ?_) ?_ ?_
                          rotate_left
                          · show Act.put _ (some 105) _ = _
                            simp only [Act.put, List.setIfInBounds_toArray, List.set_cons_zero, List.set_cons_succ, i64_w, i32_w]
                            rfl
                          exact norm_ (by simp only [putAll, Act.put, List.setIfInBounds_toArray, List.set_cons_zero, List.set_cons_succ]) (hCont (v142, v145) _ ⟨hHeld, (by (with_reducible repeat (first | apply Kd.N_alloc | apply Kd.N_drewN | apply Kd.N_drew)); exact HO143.out), (by (with_reducible repeat (first | apply Kd.N_alloc | apply Kd.N_drewN | apply Kd.N_drew)); exact Kd.N_mono HO146.out (fun _ hk => ⟨hk.1.1, ⟨hk.2, hk.1.2⟩⟩)), (by (with_reducible repeat (first | apply Kd.V_alloc | apply Kd.V_drewN | apply Kd.V_drew)); exact Kd.V_mono HO_0.out (fun _ hk => ⟨hk.1.1.1, ⟨hk.2, ⟨hk.1.2, hk.1.1.2.2.2⟩⟩⟩)), (by (with_reducible repeat (first | refine blk_drewN ?_ _ | refine blk_drew ?_ | refine blk_alloc ?_ _)); exact BK134.out), (by repeat (first | (with_reducible first | exact HB.out | apply below_alloc | apply pw_below_drewN | apply below_drew1 | refine below_set ?_ GE134.out) | exact HB.out))⟩)
                      rintro ⟨v142, v145⟩ w56 ⟨hS_, h0_, h1_, h2_, h3_, h4_⟩
                      have n0_ : Aside0 (Kd.N k35 35 w56 w.heap.size (fun k_ => (P0_ k_ ∨ w.heap.size ≤ k_) ∧ some k_ ≠ (v145 : Value).ownBlock ∧ k_ ≠ gb134) v142 t141) := ⟨h0_⟩
                      have n1_ : Aside0 (Kd.N k35 35 w56 w.heap.size (fun k_ => (P0_ k_ ∨ w.heap.size ≤ k_) ∧ some k_ ≠ (v142 : Value).ownBlock ∧ k_ ≠ gb134) v145 y144) := ⟨h1_⟩
                      have n2_ : Aside0 (Kd.V k35 35 w56 w.heap.size (fun k_ => (P0_ k_ ∨ w.heap.size ≤ k_) ∧ some k_ ≠ (v142 : Value).ownBlock ∧ some k_ ≠ (v145 : Value).ownBlock ∧ k_ ≠ gb134) (.slice A0 l0.length c0) l0) := ⟨h2_⟩
                      have n3_ : Aside0 (w56.heap[gb134]? = some (.cells #[.int .i64 x15_4, .int .i64 a1, .int .i64 1, .slice Ao37 y131.length co37, .slice Ao53 x135004_5.length co53, .string a3, .bool true] 35 (0, 0))) := ⟨h3_⟩
                      have n4_ : Aside0 (Below w.heap.size w w56) := ⟨h4_⟩
                      clear HO_0
                      clear HO_135003
                      clear HO_135004
                      clear BK134
                      clear HB
                      clear h0_ h1_ h2_ h3_ h4_
                      have HO143 := n0_
                      have HO146 := n1_
                      have HO_0 := n2_
                      have BK134 := n3_
                      have HB := n4_
                      clear n0_ n1_ n2_ n3_ n4_
                      have hHeld : w56.cell? ⟨gb134, 0, none⟩ = some (.int .i64 x15_4) ∧ w56.cell? ⟨gb134, 1, none⟩ = some (.int .i64 a1) ∧ w56.cell? ⟨gb134, 2, none⟩ = some (.int .i64 1) ∧ w56.cell? ⟨gb134, 3, none⟩ = some (.slice Ao37 y131.length co37) ∧ w56.cell? ⟨gb134, 4, none⟩ = some ((Value.slice Ao53 x135004_5.length co53)) ∧ w56.cell? ⟨gb134, 5, none⟩ = some (.string a3) ∧ w56.cell? ⟨gb134, 6, none⟩ = some (.bool true) := hS_
                      obtain ⟨Ao58, co58, eo58⟩ := Kd.N_slice HO146.out
                      (first | subst eo58 | (injection eo58 with f1_ f2_ f3_; have f4_ := f1_.symm; have f5_ := f3_.symm; clear f1_ f2_ f3_; subst f4_; subst f5_))
                      refine norm_ (a' := ?_) ?_ ?_
                      rotate_left
                      · simp only [putAll, Act.put, List.setIfInBounds_toArray, List.set_cons_zero, List.set_cons_succ]
                        rfl
                      refine one_ (i := 4) (N := some 108) #[true, true, true, true, true, true, false, false, false] rfl rfl (one_of HT_.out (by kernel_rfl)) (by decide) (fun K hK => ?_)
                      refine Kd.N_append_rows_step k35 (w0 := w) w.heap.size (by rfl) (.tmp 105) (.tmp 107) 22 35 (.agg #[(.int .i64 0), (.int .i64 0), (.int .i64 0), (.slice none 0 0), (.slice none 0 0), (.string ⟨#[]⟩), (.bool false)]) 96 rfl Tryd.underlying22 info35 rfl (by decide) (by omega) v142 t141 y144 _ _ _ (fun k_ => (P0_ k_ ∨ w.heap.size ≤ k_) ∧ k_ ≠ gb134) (fun k_ => ((fun k_ => (P0_ k_ ∨ w.heap.size ≤ k_) ∧ k_ ≠ gb134)) k_ ∧ some k_ ≠ (v142 : Value).ownBlock) rfl rfl ?aO ?aR (fun _ hk => hk) ?aF ?aB ?aS ?aL ?_
                      (case aR => exact (by skip; exact Kd.N_F (Kd.N_mono (ok' := (fun k_ => ((fun k_ => (P0_ k_ ∨ w.heap.size ≤ k_) ∧ k_ ≠ gb134)) k_ ∧ some k_ ≠ (v142 : Value).ownBlock)) (HO146.out) (fun k_ hk => ⟨⟨hk.1, hk.2.2⟩, hk.2.1⟩))))
                      (case aB => exact (by repeat (first | (with_reducible first | exact HB.out | apply below_alloc | apply pw_below_drewN | apply below_drew1 | refine below_set ?_ GE134.out) | exact HB.out)))
                      (case aF => exact (fun k_ hk => ⟨(.inr (Nat.le_trans (below_size (by repeat (first | (with_reducible first | exact HB.out | apply below_alloc | apply pw_below_drewN | apply below_drew1 | refine below_set ?_ GE134.out) | exact HB.out))) hk)), Kd.freshB (g := gb134) (o := .cells #[.int .i64 x15_4, .int .i64 a1, .int .i64 1, .slice Ao37 y131.length co37, .slice Ao53 x135004_5.length co53, .string a3, .bool true] 35 (0, 0)) (by (with_reducible repeat (first | refine blk_drewN ?_ _ | refine blk_drew ?_ | refine blk_alloc ?_ _)); exact BK134.out) k_ hk⟩))
                      (case aO => exact (by (with_reducible repeat (first | apply Kd.N_alloc | apply Kd.N_drewN | apply Kd.N_drew)); exact Kd.N_mono HO143.out (fun _ hk => ⟨hk.1, hk.2.2⟩)))
                      (case aS => exact (below_size (by repeat (first | (with_reducible first | exact HB.out | apply below_alloc | apply pw_below_drewN | apply below_drew1 | refine below_set ?_ GE134.out) | exact HB.out))))
                      (case aL => have := LMc50.out; omega)
                      intro v148 w57 ho hb hg hat
                      rw [← Ny147.out] at ho
                      have n0_ := Aside0.mk (Kd.V_afterv (ok := (fun k_ => (P0_ k_ ∨ w.heap.size ≤ k_) ∧ some k_ ≠ (.slice Ao58 y144.length co58 : Value).ownBlock ∧ k_ ≠ gb134)) (by (with_reducible repeat (first | apply Kd.V_alloc | apply Kd.V_drewN | apply Kd.V_drew)); exact Kd.V_mono HO_0.out (fun _ hk => ⟨⟨hk.1, ⟨hk.2.2.1, hk.2.2.2⟩⟩, hk.2.1⟩)) hg hat)
                      have n1_ := Aside0.mk (blk_grown (g := gb134) (o := .cells #[.int .i64 x15_4, .int .i64 a1, .int .i64 1, .slice Ao37 y131.length co37, .slice Ao53 x135004_5.length co53, .string a3, .bool true] 35 (0, 0)) (by (with_reducible repeat (first | refine blk_drewN ?_ _ | refine blk_drew ?_ | refine blk_alloc ?_ _)); exact BK134.out) hg (Kd.N_away HO143.out (fun _ hk => hk.2.2)))
                      have n2_ := Aside0.mk (Kd.N_afterv (ok := (fun k_ => (P0_ k_ ∨ w.heap.size ≤ k_) ∧ k_ ≠ gb134)) (by (with_reducible repeat (first | apply Kd.N_alloc | apply Kd.N_drewN | apply Kd.N_drew)); exact Kd.N_mono HO146.out (fun _ hk => ⟨⟨hk.1, hk.2.2⟩, hk.2.1⟩)) hg hat)
                      have n3_ := Aside0.mk (hb)
                      have n4_ := Aside0.mk (ho)
                      clear HO_0
                      clear BK134
                      clear HO146
                      clear HB
                      clear HO143
                      have HO_0 := n0_
                      have BK134 := n1_
                      have HO146 := n2_
                      have HB := n3_
                      have HO149 := n4_
                      clear n0_ n1_ n2_ n3_ n4_
                      clear ho hb hg hat
                      refine hK.out _ _ (held7 BK134.out) (fun hHeld => ?_)
                      clear hK K
                      refine norm_ (a' := ?_) ?_ ?_
                      rotate_left
                      · show Act.put _ (some 108) _ = _
                        simp only [Act.put, List.setIfInBounds_toArray, List.set_cons_zero, List.set_cons_succ, i64_w, i32_w]
                        rfl
                      refine pure_ (i := 6) (N := some 8) (v := ?_) (a' := ?_) #[true, true, true, true, true, true, true, false, false] rfl rfl (any_of HT_.out (by kernel_rfl)) (fun _ _ _ h => h) (Or.inl ⟨by rfl, ?_⟩) ?_ ?_
                      rotate_left
                      · intro w'
                        go_simp
                        with_reducible rfl
                      rotate_left
                      · simp only [Act.put, List.setIfInBounds_toArray, List.set_cons_zero, List.set_cons_succ, i64_w, i32_w]
                        rfl
                      refine pure_ (i := 7) (N := some 9) (v := ?_) (a' := ?_) #[true, true, true, true, true, true, true, true, false] rfl rfl (any_of HT_.out (by kernel_rfl)) (fun _ _ _ h => h) (Or.inl ⟨by rfl, ?_⟩) ?_ ?_
                      rotate_left
                      · intro w'
                        go_simp
                        with_reducible rfl
                      rotate_left
                      · simp only [Act.put, List.setIfInBounds_toArray, List.set_cons_zero, List.set_cons_succ, i64_w, i32_w]
                        rfl
                      refine pure_ (i := 8) (N := some 10) (v := ?_) (a' := ?_) #[true, true, true, true, true, true, true, true, true] rfl rfl (any_of HT_.out (by kernel_rfl)) (fun _ _ _ h => h) (Or.inl ⟨by rfl, ?_⟩) ?_ ?_
                      rotate_left
                      · intro w'
                        go_simp
                        with_reducible rfl
                      rotate_left
                      · simp only [Act.put, List.setIfInBounds_toArray, List.set_cons_zero, List.set_cons_succ, i64_w, i32_w]
                        rfl
                      refine done_ (done_of HT_.out (by kernel_rfl)) ?_
                      try go_wp2
                      go_ret3
                      exact ⟨_, by first | rfl | (simp [*]; done), Kd.N_V (by (with_reducible repeat (first | apply Kd.N_alloc | apply Kd.N_drewN | apply Kd.N_drew)); exact Kd.N_mono HO149.out (fun _ hk => hk.1)), by repeat (first | (with_reducible first | exact HB.out | apply below_alloc | apply pw_below_drewN | apply below_drew1 | refine below_set ?_ GE134.out) | exact HB.out)⟩
end Go.Proofs.YthafbimhmfjcoaaDoor.PV

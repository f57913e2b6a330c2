-- Written by a program of this session's (wip/mkprint.py) out of the translation; the texts of functions that the program does not take are mine.
import Derived.Test.YthafbimhmfjcoaaDoorPVx0
import Derived.Test.YthafbimhmfjcoaaDoorPVx10
import Derived.Test.YthafbimhmfjcoaaDoorPVx11
namespace Go.Proofs.YthafbimhmfjcoaaDoor.PV
open Go.RowKit Go.Proofs.YthafbimhmfjcoaaDoorW.PrintWords Go.Proofs.YthafbimhmfjcoaaDoorW.PrintLast Go.Proofs.YthafbimhmfjcoaaDoorW.PrintMore
attribute [local go_sem] max2_int min2_int max_two min_two max_three min_three max_four min_four   -- for this text's walks alone
set_option linter.unusedVariables false
set_option linter.unusedSimpArgs false

mutual
def jobshellref36_one.j0 : Nat → List (S35) → Bool → Int → Int → Int → List Int → List Int → ByteArray → Bool → Option (Int)
  | 0, _, _, _, _, _, _, _, _, _ => none
  | k + 1, x0, x35, x258000, x258001, x258002, x258003, x258004, x258005, x258006 => if x35 = true then (some 1) else (if (x258005.size : Int) > 4096 then (some 3) else (jobshellref36_one.l0 k x0 0 x258000 x258001 x258002 x258003 x258004 x258005 x258006))
def jobshellref36_one.l0 : Nat → List (S35) → Int → Int → Int → Int → List Int → List Int → ByteArray → Bool → Option (Int)
  | 0, _, _, _, _, _, _, _, _, _ => none
  | k + 1, x0, x5, x258000, x258001, x258002, x258003, x258004, x258005, x258006 => if x5 < (x258003.length : Int) then (if 0 ≤ x5 then ((jobshellref36_number.f (rd x258003 x5)).bind fun t260 => (if t260 = true then (if x5 < (x258004.length : Int) then (if (rd x258004 x5) = (-1) then (jobshellref36_one.l0 k x0 (wrap64 (x5 + 1)) x258000 x258001 x258002 x258003 x258004 x258005 x258006) else ((jobshellref36_ended.f k (rd x258004 x5)).bind fun t263 => (if t263 = true then (jobshellref36_one.l0 k x0 (wrap64 (x5 + 1)) x258000 x258001 x258002 x258003 x258004 x258005 x258006) else ((jobshellref36_stopped.f k (rd x258004 x5)).bind fun t265 => (if t265 = true then (jobshellref36_one.l0 k x0 (wrap64 (x5 + 1)) x258000 x258001 x258002 x258003 x258004 x258005 x258006) else (some 1)))))) else (none)) else (some 1))) else (none)) else ((jobshellref36_named.f k x0 x258000).bind fun t266 => (if t266 ≥ 0 then (some 9) else (jobshellref36_one.l1 k x0 0 x258000 x258001 x258002 x258003 x258004 x258005 x258006)))
def jobshellref36_one.l1 : Nat → List (S35) → Int → Int → Int → Int → List Int → List Int → ByteArray → Bool → Option (Int)
  | 0, _, _, _, _, _, _, _, _, _ => none
  | k + 1, x0, x6, x258000, x258001, x258002, x258003, x258004, x258005, x258006 => if x6 < (x258003.length : Int) then (if 0 ≤ x6 then ((jobshellref36_member.f k x0 (rd x258003 x6)).bind fun t269 => (if t269 = true then (some 9) else (if x6 ≤ (x258003.length : Int) then ((jobshellref36_has.f k (x258003.take (x6 : Int).toNat) (rd x258003 x6)).bind fun t272 => (if t272 = true then (some 9) else (jobshellref36_one.l1 k x0 (wrap64 (x6 + 1)) x258000 x258001 x258002 x258003 x258004 x258005 x258006))) else (none)))) else (none)) else ((jobshellref36_state.f k x258004).bind fun t267 => (if x258002 = t267 then (some 0) else (some 25)))
end
def jobshellref36_one.f (k : Nat) (l0 : List (S35)) (a1_0 : Int) (a1_1 : Int) (a1_2 : Int) (l1_3 : List Int) (l1_4 : List Int) (a1_5 : ByteArray) (a1_6 : Bool) : Option (Int) := if a1_0 < 1 then (jobshellref36_one.j0 k l0 true a1_0 a1_1 a1_2 l1_3 l1_4 a1_5 a1_6) else (if a1_0 > 32 then (jobshellref36_one.j0 k l0 true a1_0 a1_1 a1_2 l1_3 l1_4 a1_5 a1_6) else ((jobshellref36_number.f a1_1).bind fun t258 => (if t258 = true then (if (l1_3.length : Int) = 0 then (jobshellref36_one.j0 k l0 true a1_0 a1_1 a1_2 l1_3 l1_4 a1_5 a1_6) else (jobshellref36_one.j0 k l0 ((l1_4.length : Int) != (l1_3.length : Int)) a1_0 a1_1 a1_2 l1_3 l1_4 a1_5 a1_6)) else (jobshellref36_one.j0 k l0 true a1_0 a1_1 a1_2 l1_3 l1_4 a1_5 a1_6))))
theorem jobshellref36_one.mono_l : ∀ k, (∀ y0 y1 y2 y3 y4 y5 y6 y7 y8, LeO (jobshellref36_one.j0 k y0 y1 y2 y3 y4 y5 y6 y7 y8) (jobshellref36_one.j0 (k + 1) y0 y1 y2 y3 y4 y5 y6 y7 y8)) ∧ (∀ y0 y1 y2 y3 y4 y5 y6 y7 y8, LeO (jobshellref36_one.l0 k y0 y1 y2 y3 y4 y5 y6 y7 y8) (jobshellref36_one.l0 (k + 1) y0 y1 y2 y3 y4 y5 y6 y7 y8)) ∧ (∀ y0 y1 y2 y3 y4 y5 y6 y7 y8, LeO (jobshellref36_one.l1 k y0 y1 y2 y3 y4 y5 y6 y7 y8) (jobshellref36_one.l1 (k + 1) y0 y1 y2 y3 y4 y5 y6 y7 y8))
  | 0 => ⟨fun _ _ _ _ _ _ _ _ _ r h => by simp [jobshellref36_one.j0] at h, fun _ _ _ _ _ _ _ _ _ r h => by simp [jobshellref36_one.l0] at h, fun _ _ _ _ _ _ _ _ _ r h => by simp [jobshellref36_one.l1] at h⟩
  | k + 1 => by
    obtain ⟨ih0, ih1, ih2⟩ := jobshellref36_one.mono_l k
    refine ⟨?_, ?_, ?_⟩
    · intro y0 y1 y2 y3 y4 y5 y6 y7 y8
      unfold jobshellref36_one.j0
      repeat' first
      | (with_reducible exact ih0 _ _ _ _ _ _ _ _ _)
      | (with_reducible exact ih1 _ _ _ _ _ _ _ _ _)
      | (with_reducible exact ih2 _ _ _ _ _ _ _ _ _)
      | (with_reducible exact jobshellref36_ended.mono _ _)
      | (with_reducible exact jobshellref36_has.mono _ _ _)
      | (with_reducible exact jobshellref36_member.mono _ _ _)
      | (with_reducible exact jobshellref36_named.mono _ _ _)
      | (with_reducible exact jobshellref36_state.mono _ _)
      | (with_reducible exact jobshellref36_stopped.mono _ _)
      | (with_reducible exact LeO.refl _)
      | (with_reducible exact LeO.none _)
      | (with_reducible refine LeO.ite ?_ ?_)
      | (with_reducible refine LeO.bind ?_ (fun _ => ?_))
      | exact ih0 _ _ _ _ _ _ _ _ _
      | exact ih1 _ _ _ _ _ _ _ _ _
      | exact ih2 _ _ _ _ _ _ _ _ _
      | exact jobshellref36_ended.mono _ _
      | exact jobshellref36_has.mono _ _ _
      | exact jobshellref36_member.mono _ _ _
      | exact jobshellref36_named.mono _ _ _
      | exact jobshellref36_state.mono _ _
      | exact jobshellref36_stopped.mono _ _
      | exact LeO.none _
      | refine LeO.ite ?_ ?_
      | refine LeO.bind ?_ (fun _ => ?_)
    · intro y0 y1 y2 y3 y4 y5 y6 y7 y8
      unfold jobshellref36_one.l0
      repeat' first
      | (with_reducible exact ih0 _ _ _ _ _ _ _ _ _)
      | (with_reducible exact ih1 _ _ _ _ _ _ _ _ _)
      | (with_reducible exact ih2 _ _ _ _ _ _ _ _ _)
      | (with_reducible exact jobshellref36_ended.mono _ _)
      | (with_reducible exact jobshellref36_has.mono _ _ _)
      | (with_reducible exact jobshellref36_member.mono _ _ _)
      | (with_reducible exact jobshellref36_named.mono _ _ _)
      | (with_reducible exact jobshellref36_state.mono _ _)
      | (with_reducible exact jobshellref36_stopped.mono _ _)
      | (with_reducible exact LeO.refl _)
      | (with_reducible exact LeO.none _)
      | (with_reducible refine LeO.ite ?_ ?_)
      | (with_reducible refine LeO.bind ?_ (fun _ => ?_))
      | exact ih0 _ _ _ _ _ _ _ _ _
      | exact ih1 _ _ _ _ _ _ _ _ _
      | exact ih2 _ _ _ _ _ _ _ _ _
      | exact jobshellref36_ended.mono _ _
      | exact jobshellref36_has.mono _ _ _
      | exact jobshellref36_member.mono _ _ _
      | exact jobshellref36_named.mono _ _ _
      | exact jobshellref36_state.mono _ _
      | exact jobshellref36_stopped.mono _ _
      | exact LeO.none _
      | refine LeO.ite ?_ ?_
      | refine LeO.bind ?_ (fun _ => ?_)
    · intro y0 y1 y2 y3 y4 y5 y6 y7 y8
      unfold jobshellref36_one.l1
      repeat' first
      | (with_reducible exact ih0 _ _ _ _ _ _ _ _ _)
      | (with_reducible exact ih1 _ _ _ _ _ _ _ _ _)
      | (with_reducible exact ih2 _ _ _ _ _ _ _ _ _)
      | (with_reducible exact jobshellref36_ended.mono _ _)
      | (with_reducible exact jobshellref36_has.mono _ _ _)
      | (with_reducible exact jobshellref36_member.mono _ _ _)
      | (with_reducible exact jobshellref36_named.mono _ _ _)
      | (with_reducible exact jobshellref36_state.mono _ _)
      | (with_reducible exact jobshellref36_stopped.mono _ _)
      | (with_reducible exact LeO.refl _)
      | (with_reducible exact LeO.none _)
      | (with_reducible refine LeO.ite ?_ ?_)
      | (with_reducible refine LeO.bind ?_ (fun _ => ?_))
      | exact ih0 _ _ _ _ _ _ _ _ _
      | exact ih1 _ _ _ _ _ _ _ _ _
      | exact ih2 _ _ _ _ _ _ _ _ _
      | exact jobshellref36_ended.mono _ _
      | exact jobshellref36_has.mono _ _ _
      | exact jobshellref36_member.mono _ _ _
      | exact jobshellref36_named.mono _ _ _
      | exact jobshellref36_state.mono _ _
      | exact jobshellref36_stopped.mono _ _
      | exact LeO.none _
      | refine LeO.ite ?_ ?_
      | refine LeO.bind ?_ (fun _ => ?_)
theorem jobshellref36_one.mono : ∀ a0 a1 a2 a3 a4 a5 a6 a7 k, LeO (jobshellref36_one.f k a0 a1 a2 a3 a4 a5 a6 a7) (jobshellref36_one.f (k + 1) a0 a1 a2 a3 a4 a5 a6 a7) := by
  intro a0 a1 a2 a3 a4 a5 a6 a7 k
  obtain ⟨ih0, ih1, ih2⟩ := jobshellref36_one.mono_l k
  unfold jobshellref36_one.f
  repeat' first
      | (with_reducible exact ih0 _ _ _ _ _ _ _ _ _)
      | (with_reducible exact ih1 _ _ _ _ _ _ _ _ _)
      | (with_reducible exact ih2 _ _ _ _ _ _ _ _ _)
      | (with_reducible exact jobshellref36_ended.mono _ _)
      | (with_reducible exact jobshellref36_has.mono _ _ _)
      | (with_reducible exact jobshellref36_member.mono _ _ _)
      | (with_reducible exact jobshellref36_named.mono _ _ _)
      | (with_reducible exact jobshellref36_state.mono _ _)
      | (with_reducible exact jobshellref36_stopped.mono _ _)
      | (with_reducible exact LeO.refl _)
      | (with_reducible exact LeO.none _)
      | (with_reducible refine LeO.ite ?_ ?_)
      | (with_reducible refine LeO.bind ?_ (fun _ => ?_))
      | exact ih0 _ _ _ _ _ _ _ _ _
      | exact ih1 _ _ _ _ _ _ _ _ _
      | exact ih2 _ _ _ _ _ _ _ _ _
      | exact jobshellref36_ended.mono _ _
      | exact jobshellref36_has.mono _ _ _
      | exact jobshellref36_member.mono _ _ _
      | exact jobshellref36_named.mono _ _ _
      | exact jobshellref36_state.mono _ _
      | exact jobshellref36_stopped.mono _ _
      | exact LeO.none _
      | refine LeO.ite ?_ ?_
      | refine LeO.bind ?_ (fun _ => ?_)
set_option maxHeartbeats 8000000 in
set_option maxRecDepth 100000 in
theorem jobshellref36_one.calls (k : Nat) (A0 : Option Addr) (c0 : Nat) (l0 : List (S35)) (a1_0 : Int) (a1_1 : Int) (a1_2 : Int) (A1_3 : Option Addr) (c1_3 : Nat) (l1_3 : List Int) (A1_4 : Option Addr) (c1_4 : Nat) (l1_4 : List Int) (a1_5 : ByteArray) (a1_6 : Bool) (r : Int) (w : World) (hr0 : Kd.C k35 w A0 l0.length l0) (hc0 : l0.length ≤ c0) (hr1_3 : Kd.C (Kd.int .i64) w A1_3 l1_3.length l1_3) (hc1_3 : l1_3.length ≤ c1_3) (hr1_4 : Kd.C (Kd.int .i64) w A1_4 l1_4.length l1_4) (hc1_4 : l1_4.length ≤ c1_4) (h : jobshellref36_one.f k l0 a1_0 a1_1 a1_2 l1_3 l1_4 a1_5 a1_6 = some r) (hG : Gl w) :
    Calls Tryd.prog 48 #[.slice A0 l0.length c0, .agg #[.int .i64 a1_0, .int .i64 a1_1, .int .i64 a1_2, .slice A1_3 l1_3.length c1_3, .slice A1_4 l1_4.length c1_4, .string a1_5, .bool a1_6]] w fun e w' => e = .returned (.int .i64 r) ∧ Below w.heap.size w w' := by
  have HG := Aside0.mk hG
  clear hG
  have hu35 := Tryd.underlying35
  have HR0 := Aside0.mk hr0
  have HC0 := Aside0.mk hc0
  clear hr0 hc0
  have HR1_3 := Aside0.mk hr1_3
  have HC1_3 := Aside0.mk hc1_3
  clear hr1_3 hc1_3
  have HR1_4 := Aside0.mk hr1_4
  have HC1_4 := Aside0.mk hc1_4
  clear hr1_4 hc1_4
  have HB := Aside0.mk (Below.refl w.heap.size w)
  have H : (if a1_0 < 1 then (jobshellref36_one.j0 k l0 true a1_0 a1_1 a1_2 l1_3 l1_4 a1_5 a1_6) else (if a1_0 > 32 then (jobshellref36_one.j0 k l0 true a1_0 a1_1 a1_2 l1_3 l1_4 a1_5 a1_6) else ((jobshellref36_number.f a1_1).bind fun t258 => (if t258 = true then (if (l1_3.length : Int) = 0 then (jobshellref36_one.j0 k l0 true a1_0 a1_1 a1_2 l1_3 l1_4 a1_5 a1_6) else (jobshellref36_one.j0 k l0 ((l1_4.length : Int) != (l1_3.length : Int)) a1_0 a1_1 a1_2 l1_3 l1_4 a1_5 a1_6)) else (jobshellref36_one.j0 k l0 true a1_0 a1_1 a1_2 l1_3 l1_4 a1_5 a1_6))))) = some r := h
  clear h
  have HC3 := Aside0.mk H
  clear H
  go_enter Tryd.func48, Tryd.ntmps48
  go_upto_region 1 with (first | ((with_reducible refine gate_dst (N := 3) rfl ?_); (try (refine gate_guard (by rfl) ?_; dsimp only)); refine box_event ?hg (N := 3) ?hd (cs := #[.int .i64 a1_0, .int .i64 a1_1, .int .i64 a1_2, .slice A1_3 l1_3.length c1_3, .slice A1_4 l1_4.length c1_4, .string a1_5, .bool a1_6]) (t := 35) ?hr ?_; (case hd => rfl); (case hg => rfl); (case hr => first | (go_simp; done) | (go_simp; rfl)); intro gb257 hg w4 hbox hb; have n0_ := Aside0.mk (below_step (by repeat (first | (with_reducible first | exact HB.out | apply below_alloc | apply pw_below_drewN | apply below_drew1) | exact HB.out)) hb); have n1_ := Aside0.mk (hbox); have n2_ := Aside0.mk ((by rw [hg]; exact (below_size (by repeat (first | (with_reducible first | exact HB.out | apply below_alloc | apply pw_below_drewN | apply below_drew1) | exact HB.out))) : w.heap.size ≤ gb257)); have n3_ := n2_; clear HB; have HB := n0_; have BK257 := n1_; have GW257 := n2_; have GE257 := n3_; clear n0_ n1_ n2_ n3_; clear hb hbox hg))
  repeat (go_quiet (first | ((with_reducible refine gate_dst (N := 3) rfl ?_); (try (refine gate_guard (by rfl) ?_; dsimp only)); refine box_event ?hg (N := 3) ?hd (cs := #[.int .i64 a1_0, .int .i64 a1_1, .int .i64 a1_2, .slice A1_3 l1_3.length c1_3, .slice A1_4 l1_4.length c1_4, .string a1_5, .bool a1_6]) (t := 35) ?hr ?_; (case hd => rfl); (case hg => rfl); (case hr => first | (go_simp; done) | (go_simp; rfl)); intro gb257 hg w4 hbox hb; have n0_ := Aside0.mk (below_step (by repeat (first | (with_reducible first | exact HB.out | apply below_alloc | apply pw_below_drewN | apply below_drew1) | exact HB.out)) hb); have n1_ := Aside0.mk (hbox); have n2_ := Aside0.mk ((by rw [hg]; exact (below_size (by repeat (first | (with_reducible first | exact HB.out | apply below_alloc | apply pw_below_drewN | apply below_drew1) | exact HB.out))) : w.heap.size ≤ gb257)); have n3_ := n2_; clear HB; have HB := n0_; have BK257 := n1_; have GW257 := n2_; have GE257 := n3_; clear n0_ n1_ n2_ n3_; clear hb hbox hg)); go_upto_region 1 with (first | ((with_reducible refine gate_dst (N := 3) rfl ?_); (try (refine gate_guard (by rfl) ?_; dsimp only)); refine box_event ?hg (N := 3) ?hd (cs := #[.int .i64 a1_0, .int .i64 a1_1, .int .i64 a1_2, .slice A1_3 l1_3.length c1_3, .slice A1_4 l1_4.length c1_4, .string a1_5, .bool a1_6]) (t := 35) ?hr ?_; (case hd => rfl); (case hg => rfl); (case hr => first | (go_simp; done) | (go_simp; rfl)); intro gb257 hg w4 hbox hb; have n0_ := Aside0.mk (below_step (by repeat (first | (with_reducible first | exact HB.out | apply below_alloc | apply pw_below_drewN | apply below_drew1) | exact HB.out)) hb); have n1_ := Aside0.mk (hbox); have n2_ := Aside0.mk ((by rw [hg]; exact (below_size (by repeat (first | (with_reducible first | exact HB.out | apply below_alloc | apply pw_below_drewN | apply below_drew1) | exact HB.out))) : w.heap.size ≤ gb257)); have n3_ := n2_; clear HB; have HB := n0_; have BK257 := n1_; have GW257 := n2_; have GE257 := n3_; clear n0_ n1_ n2_ n3_; clear hb hbox hg)))
  (try simp only [Act.put, List.setIfInBounds_toArray, List.set_cons_zero, List.set_cons_succ])
  go_cut [35] (fun v35 wc => ∃ (kq : Nat) (x35_2 : Bool), v35 = .bool x35_2 ∧ Aside0 (jobshellref36_one.j0 kq l0 x35_2 a1_0 a1_1 a1_2 l1_3 l1_4 a1_5 a1_6 = some r) ∧ Aside0 (kq ≤ k) ∧ Aside0 (wc.heap[gb257]? = some (.cells #[.int .i64 a1_0, .int .i64 a1_1, .int .i64 a1_2, (.slice A1_3 l1_3.length c1_3), (.slice A1_4 l1_4.length c1_4), .string a1_5, .bool a1_6] 35 (0, 0))) ∧ Aside0 (Below w.heap.size w wc))
  case first =>
    have H := HC3.out
    clear HC3
    by_cases c5 : a1_0 < 1
    · rw [if_pos c5] at H
      have c5b0 : decide (a1_0 < 1) = true := decide_eq_true c5
      clear c5
      (first | rw [c5b0] | (simp only [i64_w, i32_w]; rw [c5b0]) | skip)
      have H' := Aside0.mk H
      clear H
      obtain ⟨hcz6_0, hcz6_1, hcz6_2, hcz6_3, hcz6_4, hcz6_5, hcz6_6, hfz6_0, hfz6_1, hfz6_2, hfz6_3, hfz6_4, hfz6_5, hfz6_6⟩ := cells7 BK257.out
      go_wp2
      repeat (go_quiet (fail); try go_wp2)
      go_meet
      case rel => exact ⟨_, (true), (by first | rfl | (simp; done) | (simp [*]; done)), H', ⟨by first | omega | exact Nat.le_refl _⟩, ⟨by (with_reducible repeat (first | refine blk_drewN ?_ _ | refine blk_drew ?_ | refine blk_alloc ?_ _)); exact BK257.out⟩, ⟨by repeat (first | (with_reducible first | exact HB.out | apply below_alloc | apply pw_below_drewN | apply below_drew1 | refine below_set ?_ GE257.out) | exact HB.out)⟩⟩
    rw [if_neg c5] at H
    have c5b0 : decide (a1_0 < 1) = false := decide_eq_false c5
    clear c5
    (first | rw [c5b0] | (simp only [i64_w, i32_w]; rw [c5b0]) | skip)
    by_cases c7 : a1_0 > 32
    · rw [if_pos c7] at H
      have c7b0 : decide (32 < a1_0) = true := decide_eq_true c7
      clear c7
      have H' := Aside0.mk H
      clear H
      obtain ⟨hcz8_0, hcz8_1, hcz8_2, hcz8_3, hcz8_4, hcz8_5, hcz8_6, hfz8_0, hfz8_1, hfz8_2, hfz8_3, hfz8_4, hfz8_5, hfz8_6⟩ := cells7 BK257.out
      go_wp2
      repeat (go_quiet (fail); try go_wp2)
      go_meet
      case rel => exact ⟨_, (true), (by first | rfl | (simp; done) | (simp [*]; done)), H', ⟨by first | omega | exact Nat.le_refl _⟩, ⟨by (with_reducible repeat (first | refine blk_drewN ?_ _ | refine blk_drew ?_ | refine blk_alloc ?_ _)); exact BK257.out⟩, ⟨by repeat (first | (with_reducible first | exact HB.out | apply below_alloc | apply pw_below_drewN | apply below_drew1 | refine below_set ?_ GE257.out) | exact HB.out)⟩⟩
    rw [if_neg c7] at H
    have c7b0 : decide (32 < a1_0) = false := decide_eq_false c7
    clear c7
    replace H := Option.bind_eq_some_iff.mp H
    obtain ⟨t258, A90, H⟩ := H
    replace H : (if t258 = true then (if (l1_3.length : Int) = 0 then (jobshellref36_one.j0 k l0 true a1_0 a1_1 a1_2 l1_3 l1_4 a1_5 a1_6) else (jobshellref36_one.j0 k l0 ((l1_4.length : Int) != (l1_3.length : Int)) a1_0 a1_1 a1_2 l1_3 l1_4 a1_5 a1_6)) else (jobshellref36_one.j0 k l0 true a1_0 a1_1 a1_2 l1_3 l1_4 a1_5 a1_6)) = some r := H
    have A9 := Aside0.mk A90
    clear A90
    by_cases c10 : t258 = true
    rotate_left
    · replace c10 := Bool.eq_false_iff.mpr c10
      subst c10
      have H1 : (jobshellref36_one.j0 k l0 true a1_0 a1_1 a1_2 l1_3 l1_4 a1_5 a1_6) = some r := by rw [if_neg (show ¬ (false = true) by decide)] at H; exact H
      clear H
      have H := H1
      clear H1
      have H' := Aside0.mk H
      clear H
      obtain ⟨hcz14_0, hcz14_1, hcz14_2, hcz14_3, hcz14_4, hcz14_5, hcz14_6, hfz14_0, hfz14_1, hfz14_2, hfz14_3, hfz14_4, hfz14_5, hfz14_6⟩ := cells7 BK257.out
      go_wp2_with (first | (go_at_call 28; (with_reducible refine (jobshellref36_number.calls a1_1 false _ A9.out ?sideG).mono ?_); (case sideG => first | (with_reducible exact HG.out) | (with_reducible exact HG.out.drewN _) | exact HG.out.below (by repeat (first | (with_reducible first | exact HB.out | apply below_alloc | apply pw_below_drewN | apply below_drew1) | exact HB.out))); rintro e w' ⟨rfl, ⟨nd, rfl⟩⟩; (try exact ⟨rfl, _, World.drewN_drewN _ _ _⟩)))
      repeat (go_quiet (first | (go_at_call 28; (with_reducible refine (jobshellref36_number.calls a1_1 false _ A9.out ?sideG).mono ?_); (case sideG => first | (with_reducible exact HG.out) | (with_reducible exact HG.out.drewN _) | exact HG.out.below (by repeat (first | (with_reducible first | exact HB.out | apply below_alloc | apply pw_below_drewN | apply below_drew1) | exact HB.out))); rintro e w' ⟨rfl, ⟨nd, rfl⟩⟩; (try exact ⟨rfl, _, World.drewN_drewN _ _ _⟩))); try go_wp2_with (first | (go_at_call 28; (with_reducible refine (jobshellref36_number.calls a1_1 false _ A9.out ?sideG).mono ?_); (case sideG => first | (with_reducible exact HG.out) | (with_reducible exact HG.out.drewN _) | exact HG.out.below (by repeat (first | (with_reducible first | exact HB.out | apply below_alloc | apply pw_below_drewN | apply below_drew1) | exact HB.out))); rintro e w' ⟨rfl, ⟨nd, rfl⟩⟩; (try exact ⟨rfl, _, World.drewN_drewN _ _ _⟩))))
      go_meet
      case rel => exact ⟨_, (true), (by first | rfl | (simp; done) | (simp [*]; done)), H', ⟨by first | omega | exact Nat.le_refl _⟩, ⟨by (with_reducible repeat (first | refine blk_drewN ?_ _ | refine blk_drew ?_ | refine blk_alloc ?_ _)); exact BK257.out⟩, ⟨by repeat (first | (with_reducible first | exact HB.out | apply below_alloc | apply pw_below_drewN | apply below_drew1 | refine below_set ?_ GE257.out) | exact HB.out)⟩⟩
    subst c10
    have H1 : (if (l1_3.length : Int) = 0 then (jobshellref36_one.j0 k l0 true a1_0 a1_1 a1_2 l1_3 l1_4 a1_5 a1_6) else (jobshellref36_one.j0 k l0 ((l1_4.length : Int) != (l1_3.length : Int)) a1_0 a1_1 a1_2 l1_3 l1_4 a1_5 a1_6)) = some r := by rw [if_pos rfl] at H; exact H
    clear H
    have H := H1
    clear H1
    by_cases c11 : (l1_3.length : Int) = 0
    rotate_left
    · rw [if_neg c11] at H
      have c11b0 : ((l1_3.length : Int) == 0) = false := beq_eq_false_iff_ne.mpr c11
      have c11b1 : ((l1_3.length : Int) != 0) = true := bne_iff_ne.mpr c11
      have c11b2 : ¬ (l1_3 = []) := fun h_ => c11 (by rw [h_]; rfl)
      have H' := Aside0.mk H
      clear H
      obtain ⟨hcz13_0, hcz13_1, hcz13_2, hcz13_3, hcz13_4, hcz13_5, hcz13_6, hfz13_0, hfz13_1, hfz13_2, hfz13_3, hfz13_4, hfz13_5, hfz13_6⟩ := cells7 BK257.out
      go_wp2_with (first | (go_at_call 28; (with_reducible refine (jobshellref36_number.calls a1_1 true _ A9.out ?sideG).mono ?_); (case sideG => first | (with_reducible exact HG.out) | (with_reducible exact HG.out.drewN _) | exact HG.out.below (by repeat (first | (with_reducible first | exact HB.out | apply below_alloc | apply pw_below_drewN | apply below_drew1) | exact HB.out))); rintro e w' ⟨rfl, ⟨nd, rfl⟩⟩; (try exact ⟨rfl, _, World.drewN_drewN _ _ _⟩)))
      repeat (go_quiet (first | (go_at_call 28; (with_reducible refine (jobshellref36_number.calls a1_1 true _ A9.out ?sideG).mono ?_); (case sideG => first | (with_reducible exact HG.out) | (with_reducible exact HG.out.drewN _) | exact HG.out.below (by repeat (first | (with_reducible first | exact HB.out | apply below_alloc | apply pw_below_drewN | apply below_drew1) | exact HB.out))); rintro e w' ⟨rfl, ⟨nd, rfl⟩⟩; (try exact ⟨rfl, _, World.drewN_drewN _ _ _⟩))); try go_wp2_with (first | (go_at_call 28; (with_reducible refine (jobshellref36_number.calls a1_1 true _ A9.out ?sideG).mono ?_); (case sideG => first | (with_reducible exact HG.out) | (with_reducible exact HG.out.drewN _) | exact HG.out.below (by repeat (first | (with_reducible first | exact HB.out | apply below_alloc | apply pw_below_drewN | apply below_drew1) | exact HB.out))); rintro e w' ⟨rfl, ⟨nd, rfl⟩⟩; (try exact ⟨rfl, _, World.drewN_drewN _ _ _⟩))))
      go_meet
      case rel => exact ⟨_, (((l1_4.length : Int) != (l1_3.length : Int))), (by first | rfl | (simp; done) | (simp [*]; done)), H', ⟨by first | omega | exact Nat.le_refl _⟩, ⟨by (with_reducible repeat (first | refine blk_drewN ?_ _ | refine blk_drew ?_ | refine blk_alloc ?_ _)); exact BK257.out⟩, ⟨by repeat (first | (with_reducible first | exact HB.out | apply below_alloc | apply pw_below_drewN | apply below_drew1 | refine below_set ?_ GE257.out) | exact HB.out)⟩⟩
    rw [if_pos c11] at H
    have c11b0 : ((l1_3.length : Int) == 0) = true := beq_iff_eq.mpr c11
    have c11b1 : ((l1_3.length : Int) != 0) = false := bne_eq_false_iff_eq.mpr c11
    clear c11
    have H' := Aside0.mk H
    clear H
    obtain ⟨hcz12_0, hcz12_1, hcz12_2, hcz12_3, hcz12_4, hcz12_5, hcz12_6, hfz12_0, hfz12_1, hfz12_2, hfz12_3, hfz12_4, hfz12_5, hfz12_6⟩ := cells7 BK257.out
    go_wp2_with (first | (go_at_call 28; (with_reducible refine (jobshellref36_number.calls a1_1 true _ A9.out ?sideG).mono ?_); (case sideG => first | (with_reducible exact HG.out) | (with_reducible exact HG.out.drewN _) | exact HG.out.below (by repeat (first | (with_reducible first | exact HB.out | apply below_alloc | apply pw_below_drewN | apply below_drew1) | exact HB.out))); rintro e w' ⟨rfl, ⟨nd, rfl⟩⟩; (try exact ⟨rfl, _, World.drewN_drewN _ _ _⟩)))
    repeat (go_quiet (first | (go_at_call 28; (with_reducible refine (jobshellref36_number.calls a1_1 true _ A9.out ?sideG).mono ?_); (case sideG => first | (with_reducible exact HG.out) | (with_reducible exact HG.out.drewN _) | exact HG.out.below (by repeat (first | (with_reducible first | exact HB.out | apply below_alloc | apply pw_below_drewN | apply below_drew1) | exact HB.out))); rintro e w' ⟨rfl, ⟨nd, rfl⟩⟩; (try exact ⟨rfl, _, World.drewN_drewN _ _ _⟩))); try go_wp2_with (first | (go_at_call 28; (with_reducible refine (jobshellref36_number.calls a1_1 true _ A9.out ?sideG).mono ?_); (case sideG => first | (with_reducible exact HG.out) | (with_reducible exact HG.out.drewN _) | exact HG.out.below (by repeat (first | (with_reducible first | exact HB.out | apply below_alloc | apply pw_below_drewN | apply below_drew1) | exact HB.out))); rintro e w' ⟨rfl, ⟨nd, rfl⟩⟩; (try exact ⟨rfl, _, World.drewN_drewN _ _ _⟩))))
    go_meet
    case rel => exact ⟨_, (true), (by first | rfl | (simp; done) | (simp [*]; done)), H', ⟨by first | omega | exact Nat.le_refl _⟩, ⟨by (with_reducible repeat (first | refine blk_drewN ?_ _ | refine blk_drew ?_ | refine blk_alloc ?_ _)); exact BK257.out⟩, ⟨by repeat (first | (with_reducible first | exact HB.out | apply below_alloc | apply pw_below_drewN | apply below_drew1 | refine below_set ?_ GE257.out) | exact HB.out)⟩⟩
  case rest =>
    clear HC3
    obtain ⟨kq, x35_2, rfl, HA, HJ2, BK257, HB⟩ := hcut
    cases kq with
    | zero => exact absurd HA.out (by simp [jobshellref36_one.j0])
    | succ kj2 =>
      have H := HA.out
      clear HA
      simp only [jobshellref36_one.j0] at H
      by_cases c15 : x35_2 = true
      · subst c15
        have H1 : (some 1) = some r := by rw [if_pos rfl] at H; exact H
        clear H
        have H := H1
        clear H1
        obtain rfl := Option.some.inj H
        go_wp2
        repeat (go_quiet (fail); try go_wp2)
        go_ret
        exact ⟨by first | rfl | (simp [*]; done), by repeat (first | (with_reducible first | exact HB.out | apply below_alloc | apply pw_below_drewN | apply below_drew1 | refine below_set ?_ GE257.out) | exact HB.out)⟩
      replace c15 := Bool.eq_false_iff.mpr c15
      subst c15
      have H1 : (if (a1_5.size : Int) > 4096 then (some 3) else (jobshellref36_one.l0 kj2 l0 0 a1_0 a1_1 a1_2 l1_3 l1_4 a1_5 a1_6)) = some r := by rw [if_neg (show ¬ (false = true) by decide)] at H; exact H
      clear H
      have H := H1
      clear H1
      by_cases c16 : (a1_5.size : Int) > 4096
      · rw [if_pos c16] at H
        have c16b0 : decide (4096 < (a1_5.size : Int)) = true := decide_eq_true c16
        have c16b1 : decide (4096 < a1_5.size) = true := decide_eq_true (by omega)
        clear c16
        obtain rfl := Option.some.inj H
        obtain ⟨hcz17_0, hcz17_1, hcz17_2, hcz17_3, hcz17_4, hcz17_5, hcz17_6, hfz17_0, hfz17_1, hfz17_2, hfz17_3, hfz17_4, hfz17_5, hfz17_6⟩ := cells7 BK257.out
        go_wp2
        repeat (go_quiet (fail); try go_wp2)
        go_ret
        exact ⟨by first | rfl | (simp [*]; done), by repeat (first | (with_reducible first | exact HB.out | apply below_alloc | apply pw_below_drewN | apply below_drew1 | refine below_set ?_ GE257.out) | exact HB.out)⟩
      rw [if_neg c16] at H
      have c16b0 : decide (4096 < (a1_5.size : Int)) = false := decide_eq_false c16
      have c16b1 : decide (4096 < a1_5.size) = false := decide_eq_false (by omega)
      clear c16
      have H' := Aside0.mk H
      clear H
      obtain ⟨hcz18_0, hcz18_1, hcz18_2, hcz18_3, hcz18_4, hcz18_5, hcz18_6, hfz18_0, hfz18_1, hfz18_2, hfz18_3, hfz18_4, hfz18_5, hfz18_6⟩ := cells7 BK257.out
      go_wp2
      repeat (go_quiet (fail); try go_wp2)
      go_loopg [5] kj2 (fun kq v5 w' => ∃ (x5_2 : Int), v5 = .int .i64 x5_2 ∧ Aside0 (jobshellref36_one.l0 kq l0 x5_2 a1_0 a1_1 a1_2 l1_3 l1_4 a1_5 a1_6 = some r) ∧ Aside0 (kq ≤ kj2) ∧ Aside0 (w'.heap[gb257]? = some (.cells #[.int .i64 a1_0, .int .i64 a1_1, .int .i64 a1_2, (.slice A1_3 l1_3.length c1_3), (.slice A1_4 l1_4.length c1_4), .string a1_5, .bool a1_6] 35 (0, 0))) ∧ Aside0 (Below w.heap.size w w'))
      case atStart => exact ⟨(0), (by first | rfl | (simp; done) | (simp [*]; done)), H', ⟨Nat.le_refl _⟩, ⟨by (with_reducible repeat (first | refine blk_drewN ?_ _ | refine blk_drew ?_ | refine blk_alloc ?_ _)); exact BK257.out⟩, ⟨by repeat (first | (with_reducible first | exact HB.out | apply below_alloc | apply pw_below_drewN | apply below_drew1 | refine below_set ?_ GE257.out) | exact HB.out)⟩⟩
      case round =>
        clear H'
        obtain ⟨x5_2, rfl, HA, HK2, BK257, HB⟩ := hrel
        cases gk with
        | zero => exact absurd HA.out (by simp [jobshellref36_one.l0])
        | succ k2 =>
          have H := HA.out
          clear HA
          simp only [jobshellref36_one.l0] at H
          by_cases c19 : x5_2 < (l1_3.length : Int)
          · rw [if_pos c19] at H
            have c19b0 : decide (x5_2 < (l1_3.length : Int)) = true := decide_eq_true c19
            clear c19
            by_cases c20 : 0 ≤ x5_2
            rotate_left
            · rw [if_neg c20] at H
              exact absurd H (by simp)
            rw [if_pos c20] at H
            have c20b0 : decide (0 ≤ x5_2) = true := decide_eq_true c20
            clear c20
            replace H := Option.bind_eq_some_iff.mp H
            obtain ⟨t260, A210, H⟩ := H
            replace H : (if t260 = true then (if x5_2 < (l1_4.length : Int) then (if (rd l1_4 x5_2) = (-1) then (jobshellref36_one.l0 k2 l0 (wrap64 (x5_2 + 1)) a1_0 a1_1 a1_2 l1_3 l1_4 a1_5 a1_6) else ((jobshellref36_ended.f k2 (rd l1_4 x5_2)).bind fun t263 => (if t263 = true then (jobshellref36_one.l0 k2 l0 (wrap64 (x5_2 + 1)) a1_0 a1_1 a1_2 l1_3 l1_4 a1_5 a1_6) else ((jobshellref36_stopped.f k2 (rd l1_4 x5_2)).bind fun t265 => (if t265 = true then (jobshellref36_one.l0 k2 l0 (wrap64 (x5_2 + 1)) a1_0 a1_1 a1_2 l1_3 l1_4 a1_5 a1_6) else (some 1)))))) else (none)) else (some 1)) = some r := H
            have A21 := Aside0.mk A210
            clear A210
            by_cases c22 : t260 = true
            rotate_left
            · replace c22 := Bool.eq_false_iff.mpr c22
              subst c22
              have H1 : (some 1) = some r := by rw [if_neg (show ¬ (false = true) by decide)] at H; exact H
              clear H
              have H := H1
              clear H1
              obtain rfl := Option.some.inj H
              obtain ⟨hcz33_0, hcz33_1, hcz33_2, hcz33_3, hcz33_4, hcz33_5, hcz33_6, hfz33_0, hfz33_1, hfz33_2, hfz33_3, hfz33_4, hfz33_5, hfz33_6⟩ := cells7 BK257.out
              have p259 : 0 ≤ (x5_2 : Int) := of_decide_eq_true (by with_reducible assumption)
              have q259 : x5_2 < (l1_3.length : Int) := of_decide_eq_true (by with_reducible assumption)
              obtain ⟨ad259, e259, hx259_0⟩ := Kd.at_int HR1_3.out x5_2 p259 q259
              cases e259
              replace hx259_0 := (HB.out.cell (World.block_lt_of_cell? w _ hx259_0)).trans hx259_0
              replace p259 := eq_true p259
              replace q259 := eq_true q259
              go_wp2_with (first | (go_at_call 28; (with_reducible refine (jobshellref36_number.calls (rd l1_3 x5_2) false _ A21.out ?sideG).mono ?_); (case sideG => first | (with_reducible exact HG.out) | (with_reducible exact HG.out.drewN _) | exact HG.out.below (by repeat (first | (with_reducible first | exact HB.out | apply below_alloc | apply pw_below_drewN | apply below_drew1) | exact HB.out))); rintro e w' ⟨rfl, ⟨nd, rfl⟩⟩; (try exact ⟨rfl, _, World.drewN_drewN _ _ _⟩)))
              repeat (go_quiet (first | (go_at_call 28; (with_reducible refine (jobshellref36_number.calls (rd l1_3 x5_2) false _ A21.out ?sideG).mono ?_); (case sideG => first | (with_reducible exact HG.out) | (with_reducible exact HG.out.drewN _) | exact HG.out.below (by repeat (first | (with_reducible first | exact HB.out | apply below_alloc | apply pw_below_drewN | apply below_drew1) | exact HB.out))); rintro e w' ⟨rfl, ⟨nd, rfl⟩⟩; (try exact ⟨rfl, _, World.drewN_drewN _ _ _⟩))); try go_wp2_with (first | (go_at_call 28; (with_reducible refine (jobshellref36_number.calls (rd l1_3 x5_2) false _ A21.out ?sideG).mono ?_); (case sideG => first | (with_reducible exact HG.out) | (with_reducible exact HG.out.drewN _) | exact HG.out.below (by repeat (first | (with_reducible first | exact HB.out | apply below_alloc | apply pw_below_drewN | apply below_drew1) | exact HB.out))); rintro e w' ⟨rfl, ⟨nd, rfl⟩⟩; (try exact ⟨rfl, _, World.drewN_drewN _ _ _⟩))))
              go_ret
              exact ⟨by first | rfl | (simp [*]; done), by repeat (first | (with_reducible first | exact HB.out | apply below_alloc | apply pw_below_drewN | apply below_drew1 | refine below_set ?_ GE257.out) | exact HB.out)⟩
            subst c22
            have H1 : (if x5_2 < (l1_4.length : Int) then (if (rd l1_4 x5_2) = (-1) then (jobshellref36_one.l0 k2 l0 (wrap64 (x5_2 + 1)) a1_0 a1_1 a1_2 l1_3 l1_4 a1_5 a1_6) else ((jobshellref36_ended.f k2 (rd l1_4 x5_2)).bind fun t263 => (if t263 = true then (jobshellref36_one.l0 k2 l0 (wrap64 (x5_2 + 1)) a1_0 a1_1 a1_2 l1_3 l1_4 a1_5 a1_6) else ((jobshellref36_stopped.f k2 (rd l1_4 x5_2)).bind fun t265 => (if t265 = true then (jobshellref36_one.l0 k2 l0 (wrap64 (x5_2 + 1)) a1_0 a1_1 a1_2 l1_3 l1_4 a1_5 a1_6) else (some 1)))))) else (none)) = some r := by rw [if_pos rfl] at H; exact H
            clear H
            have H := H1
            clear H1
            by_cases c23 : x5_2 < (l1_4.length : Int)
            rotate_left
            · rw [if_neg c23] at H
              exact absurd H (by simp)
            rw [if_pos c23] at H
            have c23b0 : decide (x5_2 < (l1_4.length : Int)) = true := decide_eq_true c23
            clear c23
            by_cases c24 : (rd l1_4 x5_2) = (-1)
            · rw [if_pos c24] at H
              have c24b0 : ((rd l1_4 x5_2) == (-1)) = true := beq_iff_eq.mpr c24
              have c24b1 : ((rd l1_4 x5_2) != (-1)) = false := bne_eq_false_iff_eq.mpr c24
              clear c24
              have H' := Aside0.mk H
              clear H
              obtain ⟨hcz25_0, hcz25_1, hcz25_2, hcz25_3, hcz25_4, hcz25_5, hcz25_6, hfz25_0, hfz25_1, hfz25_2, hfz25_3, hfz25_4, hfz25_5, hfz25_6⟩ := cells7 BK257.out
              have p259 : 0 ≤ (x5_2 : Int) := of_decide_eq_true (by with_reducible assumption)
              have q259 : x5_2 < (l1_3.length : Int) := of_decide_eq_true (by with_reducible assumption)
              obtain ⟨ad259, e259, hx259_0⟩ := Kd.at_int HR1_3.out x5_2 p259 q259
              cases e259
              replace hx259_0 := (HB.out.cell (World.block_lt_of_cell? w _ hx259_0)).trans hx259_0
              replace p259 := eq_true p259
              replace q259 := eq_true q259
              go_wp2_with (first | (go_at_call 28; (with_reducible refine (jobshellref36_number.calls (rd l1_3 x5_2) true _ A21.out ?sideG).mono ?_); (case sideG => first | (with_reducible exact HG.out) | (with_reducible exact HG.out.drewN _) | exact HG.out.below (by repeat (first | (with_reducible first | exact HB.out | apply below_alloc | apply pw_below_drewN | apply below_drew1) | exact HB.out))); rintro e w' ⟨rfl, ⟨nd, rfl⟩⟩; (try exact ⟨rfl, _, World.drewN_drewN _ _ _⟩); have p261 : 0 ≤ (x5_2 : Int) := of_decide_eq_true (by with_reducible assumption); have q261 : x5_2 < (l1_4.length : Int) := of_decide_eq_true (by with_reducible assumption); obtain ⟨ad261, e261, hx261_0⟩ := Kd.at_int HR1_4.out x5_2 p261 q261; cases e261; replace hx261_0 := (HB.out.cell (World.block_lt_of_cell? w _ hx261_0)).trans hx261_0; replace p261 := eq_true p261; replace q261 := eq_true q261))
              (have p261 : 0 ≤ (x5_2 : Int) := of_decide_eq_true (by with_reducible assumption); have q261 : x5_2 < (l1_4.length : Int) := of_decide_eq_true (by with_reducible assumption); obtain ⟨ad261, e261, hx261_0⟩ := Kd.at_int HR1_4.out x5_2 p261 q261; cases e261; replace hx261_0 := (HB.out.cell (World.block_lt_of_cell? w _ hx261_0)).trans hx261_0; replace p261 := eq_true p261; replace q261 := eq_true q261)
              repeat (go_quiet (first | (go_at_call 28; (with_reducible refine (jobshellref36_number.calls (rd l1_3 x5_2) true _ A21.out ?sideG).mono ?_); (case sideG => first | (with_reducible exact HG.out) | (with_reducible exact HG.out.drewN _) | exact HG.out.below (by repeat (first | (with_reducible first | exact HB.out | apply below_alloc | apply pw_below_drewN | apply below_drew1) | exact HB.out))); rintro e w' ⟨rfl, ⟨nd, rfl⟩⟩; (try exact ⟨rfl, _, World.drewN_drewN _ _ _⟩))); try go_wp2_with (first | (go_at_call 28; (with_reducible refine (jobshellref36_number.calls (rd l1_3 x5_2) true _ A21.out ?sideG).mono ?_); (case sideG => first | (with_reducible exact HG.out) | (with_reducible exact HG.out.drewN _) | exact HG.out.below (by repeat (first | (with_reducible first | exact HB.out | apply below_alloc | apply pw_below_drewN | apply below_drew1) | exact HB.out))); rintro e w' ⟨rfl, ⟨nd, rfl⟩⟩; (try exact ⟨rfl, _, World.drewN_drewN _ _ _⟩))))
              go_roundg k2
              case measure => have := HJ2.out; have := HK2.out; omega
              case rel => exact ⟨(wrap64 (x5_2 + 1)), (by first | rfl | (simp; done) | (simp [*]; done)), H', ⟨by have := HJ2.out; have := HK2.out; omega⟩, ⟨by (with_reducible repeat (first | refine blk_drewN ?_ _ | refine blk_drew ?_ | refine blk_alloc ?_ _)); exact BK257.out⟩, ⟨by repeat (first | (with_reducible first | exact HB.out | apply below_alloc | apply pw_below_drewN | apply below_drew1 | refine below_set ?_ GE257.out) | exact HB.out)⟩⟩
            rw [if_neg c24] at H
            have c24b0 : ((rd l1_4 x5_2) == (-1)) = false := beq_eq_false_iff_ne.mpr c24
            have c24b1 : ((rd l1_4 x5_2) != (-1)) = true := bne_iff_ne.mpr c24
            replace H := Option.bind_eq_some_iff.mp H
            obtain ⟨t263, A260, H⟩ := H
            replace H : (if t263 = true then (jobshellref36_one.l0 k2 l0 (wrap64 (x5_2 + 1)) a1_0 a1_1 a1_2 l1_3 l1_4 a1_5 a1_6) else ((jobshellref36_stopped.f k2 (rd l1_4 x5_2)).bind fun t265 => (if t265 = true then (jobshellref36_one.l0 k2 l0 (wrap64 (x5_2 + 1)) a1_0 a1_1 a1_2 l1_3 l1_4 a1_5 a1_6) else (some 1)))) = some r := H
            have A26 := Aside0.mk A260
            clear A260
            by_cases c27 : t263 = true
            · subst c27
              have H1 : (jobshellref36_one.l0 k2 l0 (wrap64 (x5_2 + 1)) a1_0 a1_1 a1_2 l1_3 l1_4 a1_5 a1_6) = some r := by rw [if_pos rfl] at H; exact H
              clear H
              have H := H1
              clear H1
              have H' := Aside0.mk H
              clear H
              obtain ⟨hcz28_0, hcz28_1, hcz28_2, hcz28_3, hcz28_4, hcz28_5, hcz28_6, hfz28_0, hfz28_1, hfz28_2, hfz28_3, hfz28_4, hfz28_5, hfz28_6⟩ := cells7 BK257.out
              have p259 : 0 ≤ (x5_2 : Int) := of_decide_eq_true (by with_reducible assumption)
              have q259 : x5_2 < (l1_3.length : Int) := of_decide_eq_true (by with_reducible assumption)
              obtain ⟨ad259, e259, hx259_0⟩ := Kd.at_int HR1_3.out x5_2 p259 q259
              cases e259
              replace hx259_0 := (HB.out.cell (World.block_lt_of_cell? w _ hx259_0)).trans hx259_0
              replace p259 := eq_true p259
              replace q259 := eq_true q259
              go_wp2_with (first | (go_at_call 28; (with_reducible refine (jobshellref36_number.calls (rd l1_3 x5_2) true _ A21.out ?sideG).mono ?_); (case sideG => first | (with_reducible exact HG.out) | (with_reducible exact HG.out.drewN _) | exact HG.out.below (by repeat (first | (with_reducible first | exact HB.out | apply below_alloc | apply pw_below_drewN | apply below_drew1) | exact HB.out))); rintro e w' ⟨rfl, ⟨nd, rfl⟩⟩; (try exact ⟨rfl, _, World.drewN_drewN _ _ _⟩); have p261 : 0 ≤ (x5_2 : Int) := of_decide_eq_true (by with_reducible assumption); have q261 : x5_2 < (l1_4.length : Int) := of_decide_eq_true (by with_reducible assumption); obtain ⟨ad261, e261, hx261_0⟩ := Kd.at_int HR1_4.out x5_2 p261 q261; cases e261; replace hx261_0 := (HB.out.cell (World.block_lt_of_cell? w _ hx261_0)).trans hx261_0; replace p261 := eq_true p261; replace q261 := eq_true q261; have p262 : 0 ≤ (x5_2 : Int) := of_decide_eq_true (by with_reducible assumption); have q262 : x5_2 < (l1_4.length : Int) := of_decide_eq_true (by with_reducible assumption); obtain ⟨ad262, e262, hx262_0⟩ := Kd.at_int HR1_4.out x5_2 p262 q262; obtain rfl : ad261 = ad262 := (by injection e262); replace hx262_0 := (HB.out.cell (World.block_lt_of_cell? w _ hx262_0)).trans hx262_0; replace p262 := eq_true p262; replace q262 := eq_true q262) | (go_at_call 62; (with_reducible refine (jobshellref36_ended.calls k2 (rd l1_4 x5_2) true _ A26.out ?sideG).mono ?_); (case sideG => first | (with_reducible exact HG.out) | (with_reducible exact HG.out.drewN _) | exact HG.out.below (by repeat (first | (with_reducible first | exact HB.out | apply below_alloc | apply pw_below_drewN | apply below_drew1) | exact HB.out))); rintro e w' ⟨rfl, ⟨nd, rfl⟩⟩; (try exact ⟨rfl, _, World.drewN_drewN _ _ _⟩)))
              (have p261 : 0 ≤ (x5_2 : Int) := of_decide_eq_true (by with_reducible assumption); have q261 : x5_2 < (l1_4.length : Int) := of_decide_eq_true (by with_reducible assumption); obtain ⟨ad261, e261, hx261_0⟩ := Kd.at_int HR1_4.out x5_2 p261 q261; cases e261; replace hx261_0 := (HB.out.cell (World.block_lt_of_cell? w _ hx261_0)).trans hx261_0; replace p261 := eq_true p261; replace q261 := eq_true q261; have p262 : 0 ≤ (x5_2 : Int) := of_decide_eq_true (by with_reducible assumption); have q262 : x5_2 < (l1_4.length : Int) := of_decide_eq_true (by with_reducible assumption); obtain ⟨ad262, e262, hx262_0⟩ := Kd.at_int HR1_4.out x5_2 p262 q262; obtain rfl : ad261 = ad262 := (by injection e262); replace hx262_0 := (HB.out.cell (World.block_lt_of_cell? w _ hx262_0)).trans hx262_0; replace p262 := eq_true p262; replace q262 := eq_true q262)
              repeat (go_quiet (first | (go_at_call 28; (with_reducible refine (jobshellref36_number.calls (rd l1_3 x5_2) true _ A21.out ?sideG).mono ?_); (case sideG => first | (with_reducible exact HG.out) | (with_reducible exact HG.out.drewN _) | exact HG.out.below (by repeat (first | (with_reducible first | exact HB.out | apply below_alloc | apply pw_below_drewN | apply below_drew1) | exact HB.out))); rintro e w' ⟨rfl, ⟨nd, rfl⟩⟩; (try exact ⟨rfl, _, World.drewN_drewN _ _ _⟩)) | (go_at_call 62; (with_reducible refine (jobshellref36_ended.calls k2 (rd l1_4 x5_2) true _ A26.out ?sideG).mono ?_); (case sideG => first | (with_reducible exact HG.out) | (with_reducible exact HG.out.drewN _) | exact HG.out.below (by repeat (first | (with_reducible first | exact HB.out | apply below_alloc | apply pw_below_drewN | apply below_drew1) | exact HB.out))); rintro e w' ⟨rfl, ⟨nd, rfl⟩⟩; (try exact ⟨rfl, _, World.drewN_drewN _ _ _⟩))); try go_wp2_with (first | (go_at_call 28; (with_reducible refine (jobshellref36_number.calls (rd l1_3 x5_2) true _ A21.out ?sideG).mono ?_); (case sideG => first | (with_reducible exact HG.out) | (with_reducible exact HG.out.drewN _) | exact HG.out.below (by repeat (first | (with_reducible first | exact HB.out | apply below_alloc | apply pw_below_drewN | apply below_drew1) | exact HB.out))); rintro e w' ⟨rfl, ⟨nd, rfl⟩⟩; (try exact ⟨rfl, _, World.drewN_drewN _ _ _⟩)) | (go_at_call 62; (with_reducible refine (jobshellref36_ended.calls k2 (rd l1_4 x5_2) true _ A26.out ?sideG).mono ?_); (case sideG => first | (with_reducible exact HG.out) | (with_reducible exact HG.out.drewN _) | exact HG.out.below (by repeat (first | (with_reducible first | exact HB.out | apply below_alloc | apply pw_below_drewN | apply below_drew1) | exact HB.out))); rintro e w' ⟨rfl, ⟨nd, rfl⟩⟩; (try exact ⟨rfl, _, World.drewN_drewN _ _ _⟩))))
              go_roundg k2
              case measure => have := HJ2.out; have := HK2.out; omega
              case rel => exact ⟨(wrap64 (x5_2 + 1)), (by first | rfl | (simp; done) | (simp [*]; done)), H', ⟨by have := HJ2.out; have := HK2.out; omega⟩, ⟨by (with_reducible repeat (first | refine blk_drewN ?_ _ | refine blk_drew ?_ | refine blk_alloc ?_ _)); exact BK257.out⟩, ⟨by repeat (first | (with_reducible first | exact HB.out | apply below_alloc | apply pw_below_drewN | apply below_drew1 | refine below_set ?_ GE257.out) | exact HB.out)⟩⟩
            replace c27 := Bool.eq_false_iff.mpr c27
            subst c27
            have H1 : ((jobshellref36_stopped.f k2 (rd l1_4 x5_2)).bind fun t265 => (if t265 = true then (jobshellref36_one.l0 k2 l0 (wrap64 (x5_2 + 1)) a1_0 a1_1 a1_2 l1_3 l1_4 a1_5 a1_6) else (some 1))) = some r := by rw [if_neg (show ¬ (false = true) by decide)] at H; exact H
            clear H
            have H := H1
            clear H1
            replace H := Option.bind_eq_some_iff.mp H
            obtain ⟨t265, A290, H⟩ := H
            replace H : (if t265 = true then (jobshellref36_one.l0 k2 l0 (wrap64 (x5_2 + 1)) a1_0 a1_1 a1_2 l1_3 l1_4 a1_5 a1_6) else (some 1)) = some r := H
            have A29 := Aside0.mk A290
            clear A290
            by_cases c30 : t265 = true
            rotate_left
            · replace c30 := Bool.eq_false_iff.mpr c30
              subst c30
              have H1 : (some 1) = some r := by rw [if_neg (show ¬ (false = true) by decide)] at H; exact H
              clear H
              have H := H1
              clear H1
              obtain rfl := Option.some.inj H
              obtain ⟨hcz32_0, hcz32_1, hcz32_2, hcz32_3, hcz32_4, hcz32_5, hcz32_6, hfz32_0, hfz32_1, hfz32_2, hfz32_3, hfz32_4, hfz32_5, hfz32_6⟩ := cells7 BK257.out
              have p259 : 0 ≤ (x5_2 : Int) := of_decide_eq_true (by with_reducible assumption)
              have q259 : x5_2 < (l1_3.length : Int) := of_decide_eq_true (by with_reducible assumption)
              obtain ⟨ad259, e259, hx259_0⟩ := Kd.at_int HR1_3.out x5_2 p259 q259
              cases e259
              replace hx259_0 := (HB.out.cell (World.block_lt_of_cell? w _ hx259_0)).trans hx259_0
              replace p259 := eq_true p259
              replace q259 := eq_true q259
              go_wp2_with (first | (go_at_call 28; (with_reducible refine (jobshellref36_number.calls (rd l1_3 x5_2) true _ A21.out ?sideG).mono ?_); (case sideG => first | (with_reducible exact HG.out) | (with_reducible exact HG.out.drewN _) | exact HG.out.below (by repeat (first | (with_reducible first | exact HB.out | apply below_alloc | apply pw_below_drewN | apply below_drew1) | exact HB.out))); rintro e w' ⟨rfl, ⟨nd, rfl⟩⟩; (try exact ⟨rfl, _, World.drewN_drewN _ _ _⟩); have p261 : 0 ≤ (x5_2 : Int) := of_decide_eq_true (by with_reducible assumption); have q261 : x5_2 < (l1_4.length : Int) := of_decide_eq_true (by with_reducible assumption); obtain ⟨ad261, e261, hx261_0⟩ := Kd.at_int HR1_4.out x5_2 p261 q261; cases e261; replace hx261_0 := (HB.out.cell (World.block_lt_of_cell? w _ hx261_0)).trans hx261_0; replace p261 := eq_true p261; replace q261 := eq_true q261; have p262 : 0 ≤ (x5_2 : Int) := of_decide_eq_true (by with_reducible assumption); have q262 : x5_2 < (l1_4.length : Int) := of_decide_eq_true (by with_reducible assumption); obtain ⟨ad262, e262, hx262_0⟩ := Kd.at_int HR1_4.out x5_2 p262 q262; obtain rfl : ad261 = ad262 := (by injection e262); replace hx262_0 := (HB.out.cell (World.block_lt_of_cell? w _ hx262_0)).trans hx262_0; replace p262 := eq_true p262; replace q262 := eq_true q262) | (go_at_call 62; (with_reducible refine (jobshellref36_ended.calls k2 (rd l1_4 x5_2) false _ A26.out ?sideG).mono ?_); (case sideG => first | (with_reducible exact HG.out) | (with_reducible exact HG.out.drewN _) | exact HG.out.below (by repeat (first | (with_reducible first | exact HB.out | apply below_alloc | apply pw_below_drewN | apply below_drew1) | exact HB.out))); rintro e w' ⟨rfl, ⟨nd, rfl⟩⟩; (try exact ⟨rfl, _, World.drewN_drewN _ _ _⟩); have p264 : 0 ≤ (x5_2 : Int) := of_decide_eq_true (by with_reducible assumption); have q264 : x5_2 < (l1_4.length : Int) := of_decide_eq_true (by with_reducible assumption); obtain ⟨ad264, e264, hx264_0⟩ := Kd.at_int HR1_4.out x5_2 p264 q264; obtain rfl : ad261 = ad264 := (by injection e264); replace hx264_0 := (HB.out.cell (World.block_lt_of_cell? w _ hx264_0)).trans hx264_0; replace p264 := eq_true p264; replace q264 := eq_true q264) | (go_at_call 63; (with_reducible refine (jobshellref36_stopped.calls k2 (rd l1_4 x5_2) false _ A29.out ?sideG).mono ?_); (case sideG => first | (with_reducible exact HG.out) | (with_reducible exact HG.out.drewN _) | exact HG.out.below (by repeat (first | (with_reducible first | exact HB.out | apply below_alloc | apply pw_below_drewN | apply below_drew1) | exact HB.out))); rintro e w' ⟨rfl, ⟨nd, rfl⟩⟩; (try exact ⟨rfl, _, World.drewN_drewN _ _ _⟩)))
              (have p261 : 0 ≤ (x5_2 : Int) := of_decide_eq_true (by with_reducible assumption); have q261 : x5_2 < (l1_4.length : Int) := of_decide_eq_true (by with_reducible assumption); obtain ⟨ad261, e261, hx261_0⟩ := Kd.at_int HR1_4.out x5_2 p261 q261; cases e261; replace hx261_0 := (HB.out.cell (World.block_lt_of_cell? w _ hx261_0)).trans hx261_0; replace p261 := eq_true p261; replace q261 := eq_true q261; have p262 : 0 ≤ (x5_2 : Int) := of_decide_eq_true (by with_reducible assumption); have q262 : x5_2 < (l1_4.length : Int) := of_decide_eq_true (by with_reducible assumption); obtain ⟨ad262, e262, hx262_0⟩ := Kd.at_int HR1_4.out x5_2 p262 q262; obtain rfl : ad261 = ad262 := (by injection e262); replace hx262_0 := (HB.out.cell (World.block_lt_of_cell? w _ hx262_0)).trans hx262_0; replace p262 := eq_true p262; replace q262 := eq_true q262)
              (have p264 : 0 ≤ (x5_2 : Int) := of_decide_eq_true (by with_reducible assumption); have q264 : x5_2 < (l1_4.length : Int) := of_decide_eq_true (by with_reducible assumption); obtain ⟨ad264, e264, hx264_0⟩ := Kd.at_int HR1_4.out x5_2 p264 q264; obtain rfl : ad261 = ad264 := (by injection e264); replace hx264_0 := (HB.out.cell (World.block_lt_of_cell? w _ hx264_0)).trans hx264_0; replace p264 := eq_true p264; replace q264 := eq_true q264)
              repeat (go_quiet (first | (go_at_call 28; (with_reducible refine (jobshellref36_number.calls (rd l1_3 x5_2) true _ A21.out ?sideG).mono ?_); (case sideG => first | (with_reducible exact HG.out) | (with_reducible exact HG.out.drewN _) | exact HG.out.below (by repeat (first | (with_reducible first | exact HB.out | apply below_alloc | apply pw_below_drewN | apply below_drew1) | exact HB.out))); rintro e w' ⟨rfl, ⟨nd, rfl⟩⟩; (try exact ⟨rfl, _, World.drewN_drewN _ _ _⟩)) | (go_at_call 62; (with_reducible refine (jobshellref36_ended.calls k2 (rd l1_4 x5_2) false _ A26.out ?sideG).mono ?_); (case sideG => first | (with_reducible exact HG.out) | (with_reducible exact HG.out.drewN _) | exact HG.out.below (by repeat (first | (with_reducible first | exact HB.out | apply below_alloc | apply pw_below_drewN | apply below_drew1) | exact HB.out))); rintro e w' ⟨rfl, ⟨nd, rfl⟩⟩; (try exact ⟨rfl, _, World.drewN_drewN _ _ _⟩)) | (go_at_call 63; (with_reducible refine (jobshellref36_stopped.calls k2 (rd l1_4 x5_2) false _ A29.out ?sideG).mono ?_); (case sideG => first | (with_reducible exact HG.out) | (with_reducible exact HG.out.drewN _) | exact HG.out.below (by repeat (first | (with_reducible first | exact HB.out | apply below_alloc | apply pw_below_drewN | apply below_drew1) | exact HB.out))); rintro e w' ⟨rfl, ⟨nd, rfl⟩⟩; (try exact ⟨rfl, _, World.drewN_drewN _ _ _⟩))); try go_wp2_with (first | (go_at_call 28; (with_reducible refine (jobshellref36_number.calls (rd l1_3 x5_2) true _ A21.out ?sideG).mono ?_); (case sideG => first | (with_reducible exact HG.out) | (with_reducible exact HG.out.drewN _) | exact HG.out.below (by repeat (first | (with_reducible first | exact HB.out | apply below_alloc | apply pw_below_drewN | apply below_drew1) | exact HB.out))); rintro e w' ⟨rfl, ⟨nd, rfl⟩⟩; (try exact ⟨rfl, _, World.drewN_drewN _ _ _⟩)) | (go_at_call 62; (with_reducible refine (jobshellref36_ended.calls k2 (rd l1_4 x5_2) false _ A26.out ?sideG).mono ?_); (case sideG => first | (with_reducible exact HG.out) | (with_reducible exact HG.out.drewN _) | exact HG.out.below (by repeat (first | (with_reducible first | exact HB.out | apply below_alloc | apply pw_below_drewN | apply below_drew1) | exact HB.out))); rintro e w' ⟨rfl, ⟨nd, rfl⟩⟩; (try exact ⟨rfl, _, World.drewN_drewN _ _ _⟩)) | (go_at_call 63; (with_reducible refine (jobshellref36_stopped.calls k2 (rd l1_4 x5_2) false _ A29.out ?sideG).mono ?_); (case sideG => first | (with_reducible exact HG.out) | (with_reducible exact HG.out.drewN _) | exact HG.out.below (by repeat (first | (with_reducible first | exact HB.out | apply below_alloc | apply pw_below_drewN | apply below_drew1) | exact HB.out))); rintro e w' ⟨rfl, ⟨nd, rfl⟩⟩; (try exact ⟨rfl, _, World.drewN_drewN _ _ _⟩))))
              go_ret
              exact ⟨by first | rfl | (simp [*]; done), by repeat (first | (with_reducible first | exact HB.out | apply below_alloc | apply pw_below_drewN | apply below_drew1 | refine below_set ?_ GE257.out) | exact HB.out)⟩
            subst c30
            have H1 : (jobshellref36_one.l0 k2 l0 (wrap64 (x5_2 + 1)) a1_0 a1_1 a1_2 l1_3 l1_4 a1_5 a1_6) = some r := by rw [if_pos rfl] at H; exact H
            clear H
            have H := H1
            clear H1
            have H' := Aside0.mk H
            clear H
            obtain ⟨hcz31_0, hcz31_1, hcz31_2, hcz31_3, hcz31_4, hcz31_5, hcz31_6, hfz31_0, hfz31_1, hfz31_2, hfz31_3, hfz31_4, hfz31_5, hfz31_6⟩ := cells7 BK257.out
            have p259 : 0 ≤ (x5_2 : Int) := of_decide_eq_true (by with_reducible assumption)
            have q259 : x5_2 < (l1_3.length : Int) := of_decide_eq_true (by with_reducible assumption)
            obtain ⟨ad259, e259, hx259_0⟩ := Kd.at_int HR1_3.out x5_2 p259 q259
            cases e259
            replace hx259_0 := (HB.out.cell (World.block_lt_of_cell? w _ hx259_0)).trans hx259_0
            replace p259 := eq_true p259
            replace q259 := eq_true q259
            go_wp2_with (first | (go_at_call 28; (with_reducible refine (jobshellref36_number.calls (rd l1_3 x5_2) true _ A21.out ?sideG).mono ?_); (case sideG => first | (with_reducible exact HG.out) | (with_reducible exact HG.out.drewN _) | exact HG.out.below (by repeat (first | (with_reducible first | exact HB.out | apply below_alloc | apply pw_below_drewN | apply below_drew1) | exact HB.out))); rintro e w' ⟨rfl, ⟨nd, rfl⟩⟩; (try exact ⟨rfl, _, World.drewN_drewN _ _ _⟩); have p261 : 0 ≤ (x5_2 : Int) := of_decide_eq_true (by with_reducible assumption); have q261 : x5_2 < (l1_4.length : Int) := of_decide_eq_true (by with_reducible assumption); obtain ⟨ad261, e261, hx261_0⟩ := Kd.at_int HR1_4.out x5_2 p261 q261; cases e261; replace hx261_0 := (HB.out.cell (World.block_lt_of_cell? w _ hx261_0)).trans hx261_0; replace p261 := eq_true p261; replace q261 := eq_true q261; have p262 : 0 ≤ (x5_2 : Int) := of_decide_eq_true (by with_reducible assumption); have q262 : x5_2 < (l1_4.length : Int) := of_decide_eq_true (by with_reducible assumption); obtain ⟨ad262, e262, hx262_0⟩ := Kd.at_int HR1_4.out x5_2 p262 q262; obtain rfl : ad261 = ad262 := (by injection e262); replace hx262_0 := (HB.out.cell (World.block_lt_of_cell? w _ hx262_0)).trans hx262_0; replace p262 := eq_true p262; replace q262 := eq_true q262) | (go_at_call 62; (with_reducible refine (jobshellref36_ended.calls k2 (rd l1_4 x5_2) false _ A26.out ?sideG).mono ?_); (case sideG => first | (with_reducible exact HG.out) | (with_reducible exact HG.out.drewN _) | exact HG.out.below (by repeat (first | (with_reducible first | exact HB.out | apply below_alloc | apply pw_below_drewN | apply below_drew1) | exact HB.out))); rintro e w' ⟨rfl, ⟨nd, rfl⟩⟩; (try exact ⟨rfl, _, World.drewN_drewN _ _ _⟩); have p264 : 0 ≤ (x5_2 : Int) := of_decide_eq_true (by with_reducible assumption); have q264 : x5_2 < (l1_4.length : Int) := of_decide_eq_true (by with_reducible assumption); obtain ⟨ad264, e264, hx264_0⟩ := Kd.at_int HR1_4.out x5_2 p264 q264; obtain rfl : ad261 = ad264 := (by injection e264); replace hx264_0 := (HB.out.cell (World.block_lt_of_cell? w _ hx264_0)).trans hx264_0; replace p264 := eq_true p264; replace q264 := eq_true q264) | (go_at_call 63; (with_reducible refine (jobshellref36_stopped.calls k2 (rd l1_4 x5_2) true _ A29.out ?sideG).mono ?_); (case sideG => first | (with_reducible exact HG.out) | (with_reducible exact HG.out.drewN _) | exact HG.out.below (by repeat (first | (with_reducible first | exact HB.out | apply below_alloc | apply pw_below_drewN | apply below_drew1) | exact HB.out))); rintro e w' ⟨rfl, ⟨nd, rfl⟩⟩; (try exact ⟨rfl, _, World.drewN_drewN _ _ _⟩)))
            (have p261 : 0 ≤ (x5_2 : Int) := of_decide_eq_true (by with_reducible assumption); have q261 : x5_2 < (l1_4.length : Int) := of_decide_eq_true (by with_reducible assumption); obtain ⟨ad261, e261, hx261_0⟩ := Kd.at_int HR1_4.out x5_2 p261 q261; cases e261; replace hx261_0 := (HB.out.cell (World.block_lt_of_cell? w _ hx261_0)).trans hx261_0; replace p261 := eq_true p261; replace q261 := eq_true q261; have p262 : 0 ≤ (x5_2 : Int) := of_decide_eq_true (by with_reducible assumption); have q262 : x5_2 < (l1_4.length : Int) := of_decide_eq_true (by with_reducible assumption); obtain ⟨ad262, e262, hx262_0⟩ := Kd.at_int HR1_4.out x5_2 p262 q262; obtain rfl : ad261 = ad262 := (by injection e262); replace hx262_0 := (HB.out.cell (World.block_lt_of_cell? w _ hx262_0)).trans hx262_0; replace p262 := eq_true p262; replace q262 := eq_true q262)
            (have p264 : 0 ≤ (x5_2 : Int) := of_decide_eq_true (by with_reducible assumption); have q264 : x5_2 < (l1_4.length : Int) := of_decide_eq_true (by with_reducible assumption); obtain ⟨ad264, e264, hx264_0⟩ := Kd.at_int HR1_4.out x5_2 p264 q264; obtain rfl : ad261 = ad264 := (by injection e264); replace hx264_0 := (HB.out.cell (World.block_lt_of_cell? w _ hx264_0)).trans hx264_0; replace p264 := eq_true p264; replace q264 := eq_true q264)
            repeat (go_quiet (first | (go_at_call 28; (with_reducible refine (jobshellref36_number.calls (rd l1_3 x5_2) true _ A21.out ?sideG).mono ?_); (case sideG => first | (with_reducible exact HG.out) | (with_reducible exact HG.out.drewN _) | exact HG.out.below (by repeat (first | (with_reducible first | exact HB.out | apply below_alloc | apply pw_below_drewN | apply below_drew1) | exact HB.out))); rintro e w' ⟨rfl, ⟨nd, rfl⟩⟩; (try exact ⟨rfl, _, World.drewN_drewN _ _ _⟩)) | (go_at_call 62; (with_reducible refine (jobshellref36_ended.calls k2 (rd l1_4 x5_2) false _ A26.out ?sideG).mono ?_); (case sideG => first | (with_reducible exact HG.out) | (with_reducible exact HG.out.drewN _) | exact HG.out.below (by repeat (first | (with_reducible first | exact HB.out | apply below_alloc | apply pw_below_drewN | apply below_drew1) | exact HB.out))); rintro e w' ⟨rfl, ⟨nd, rfl⟩⟩; (try exact ⟨rfl, _, World.drewN_drewN _ _ _⟩)) | (go_at_call 63; (with_reducible refine (jobshellref36_stopped.calls k2 (rd l1_4 x5_2) true _ A29.out ?sideG).mono ?_); (case sideG => first | (with_reducible exact HG.out) | (with_reducible exact HG.out.drewN _) | exact HG.out.below (by repeat (first | (with_reducible first | exact HB.out | apply below_alloc | apply pw_below_drewN | apply below_drew1) | exact HB.out))); rintro e w' ⟨rfl, ⟨nd, rfl⟩⟩; (try exact ⟨rfl, _, World.drewN_drewN _ _ _⟩))); try go_wp2_with (first | (go_at_call 28; (with_reducible refine (jobshellref36_number.calls (rd l1_3 x5_2) true _ A21.out ?sideG).mono ?_); (case sideG => first | (with_reducible exact HG.out) | (with_reducible exact HG.out.drewN _) | exact HG.out.below (by repeat (first | (with_reducible first | exact HB.out | apply below_alloc | apply pw_below_drewN | apply below_drew1) | exact HB.out))); rintro e w' ⟨rfl, ⟨nd, rfl⟩⟩; (try exact ⟨rfl, _, World.drewN_drewN _ _ _⟩)) | (go_at_call 62; (with_reducible refine (jobshellref36_ended.calls k2 (rd l1_4 x5_2) false _ A26.out ?sideG).mono ?_); (case sideG => first | (with_reducible exact HG.out) | (with_reducible exact HG.out.drewN _) | exact HG.out.below (by repeat (first | (with_reducible first | exact HB.out | apply below_alloc | apply pw_below_drewN | apply below_drew1) | exact HB.out))); rintro e w' ⟨rfl, ⟨nd, rfl⟩⟩; (try exact ⟨rfl, _, World.drewN_drewN _ _ _⟩)) | (go_at_call 63; (with_reducible refine (jobshellref36_stopped.calls k2 (rd l1_4 x5_2) true _ A29.out ?sideG).mono ?_); (case sideG => first | (with_reducible exact HG.out) | (with_reducible exact HG.out.drewN _) | exact HG.out.below (by repeat (first | (with_reducible first | exact HB.out | apply below_alloc | apply pw_below_drewN | apply below_drew1) | exact HB.out))); rintro e w' ⟨rfl, ⟨nd, rfl⟩⟩; (try exact ⟨rfl, _, World.drewN_drewN _ _ _⟩))))
            go_roundg k2
            case measure => have := HJ2.out; have := HK2.out; omega
            case rel => exact ⟨(wrap64 (x5_2 + 1)), (by first | rfl | (simp; done) | (simp [*]; done)), H', ⟨by have := HJ2.out; have := HK2.out; omega⟩, ⟨by (with_reducible repeat (first | refine blk_drewN ?_ _ | refine blk_drew ?_ | refine blk_alloc ?_ _)); exact BK257.out⟩, ⟨by repeat (first | (with_reducible first | exact HB.out | apply below_alloc | apply pw_below_drewN | apply below_drew1 | refine below_set ?_ GE257.out) | exact HB.out)⟩⟩
          rw [if_neg c19] at H
          have c19b0 : decide (x5_2 < (l1_3.length : Int)) = false := decide_eq_false c19
          clear c19
          replace H := Option.bind_eq_some_iff.mp H
          obtain ⟨t266, A340, H⟩ := H
          replace H : (if t266 ≥ 0 then (some 9) else (jobshellref36_one.l1 k2 l0 0 a1_0 a1_1 a1_2 l1_3 l1_4 a1_5 a1_6)) = some r := H
          have A34 := Aside0.mk A340
          clear A340
          by_cases c35 : t266 ≥ 0
          · rw [if_pos c35] at H
            have c35b0 : decide (0 ≤ t266) = true := decide_eq_true c35
            clear c35
            obtain rfl := Option.some.inj H
            obtain ⟨hcz36_0, hcz36_1, hcz36_2, hcz36_3, hcz36_4, hcz36_5, hcz36_6, hfz36_0, hfz36_1, hfz36_2, hfz36_3, hfz36_4, hfz36_5, hfz36_6⟩ := cells7 BK257.out
            go_wp2_with (first | (go_at_call 31; (with_reducible refine (jobshellref36_named.calls k2 _ _ l0 a1_0 t266 _ ?side1 ?side2 A34.out ?sideG).mono ?_); (case sideG => first | (with_reducible exact HG.out) | (with_reducible exact HG.out.drewN _) | exact HG.out.below (by repeat (first | (with_reducible first | exact HB.out | apply below_alloc | apply pw_below_drewN | apply below_drew1) | exact HB.out))); (case side1 => repeat (first | exact (Kd.C_below HR0.out HB.out) | (with_reducible refine Kd.C_alloc ?_ _) | (with_reducible refine Kd.C_drewN ?_ _) | (with_reducible refine Kd.C_drew ?_))); (case side2 => exact HC0.out); rintro e w' ⟨rfl, ⟨nd, rfl⟩⟩; (try exact ⟨rfl, _, World.drewN_drewN _ _ _⟩)))
            repeat (go_quiet (first | (go_at_call 31; (with_reducible refine (jobshellref36_named.calls k2 _ _ l0 a1_0 t266 _ ?side1 ?side2 A34.out ?sideG).mono ?_); (case sideG => first | (with_reducible exact HG.out) | (with_reducible exact HG.out.drewN _) | exact HG.out.below (by repeat (first | (with_reducible first | exact HB.out | apply below_alloc | apply pw_below_drewN | apply below_drew1) | exact HB.out))); (case side1 => repeat (first | exact (Kd.C_below HR0.out HB.out) | (with_reducible refine Kd.C_alloc ?_ _) | (with_reducible refine Kd.C_drewN ?_ _) | (with_reducible refine Kd.C_drew ?_))); (case side2 => exact HC0.out); rintro e w' ⟨rfl, ⟨nd, rfl⟩⟩; (try exact ⟨rfl, _, World.drewN_drewN _ _ _⟩))); try go_wp2_with (first | (go_at_call 31; (with_reducible refine (jobshellref36_named.calls k2 _ _ l0 a1_0 t266 _ ?side1 ?side2 A34.out ?sideG).mono ?_); (case sideG => first | (with_reducible exact HG.out) | (with_reducible exact HG.out.drewN _) | exact HG.out.below (by repeat (first | (with_reducible first | exact HB.out | apply below_alloc | apply pw_below_drewN | apply below_drew1) | exact HB.out))); (case side1 => repeat (first | exact (Kd.C_below HR0.out HB.out) | (with_reducible refine Kd.C_alloc ?_ _) | (with_reducible refine Kd.C_drewN ?_ _) | (with_reducible refine Kd.C_drew ?_))); (case side2 => exact HC0.out); rintro e w' ⟨rfl, ⟨nd, rfl⟩⟩; (try exact ⟨rfl, _, World.drewN_drewN _ _ _⟩))))
            go_ret
            exact ⟨by first | rfl | (simp [*]; done), by repeat (first | (with_reducible first | exact HB.out | apply below_alloc | apply pw_below_drewN | apply below_drew1 | refine below_set ?_ GE257.out) | exact HB.out)⟩
          rw [if_neg c35] at H
          have c35b0 : decide (0 ≤ t266) = false := decide_eq_false c35
          clear c35
          have H' := Aside0.mk H
          clear H
          obtain ⟨hcz37_0, hcz37_1, hcz37_2, hcz37_3, hcz37_4, hcz37_5, hcz37_6, hfz37_0, hfz37_1, hfz37_2, hfz37_3, hfz37_4, hfz37_5, hfz37_6⟩ := cells7 BK257.out
          go_wp2_with (first | (go_at_call 31; (with_reducible refine (jobshellref36_named.calls k2 _ _ l0 a1_0 t266 _ ?side1 ?side2 A34.out ?sideG).mono ?_); (case sideG => first | (with_reducible exact HG.out) | (with_reducible exact HG.out.drewN _) | exact HG.out.below (by repeat (first | (with_reducible first | exact HB.out | apply below_alloc | apply pw_below_drewN | apply below_drew1) | exact HB.out))); (case side1 => repeat (first | exact (Kd.C_below HR0.out HB.out) | (with_reducible refine Kd.C_alloc ?_ _) | (with_reducible refine Kd.C_drewN ?_ _) | (with_reducible refine Kd.C_drew ?_))); (case side2 => exact HC0.out); rintro e w' ⟨rfl, ⟨nd, rfl⟩⟩; (try exact ⟨rfl, _, World.drewN_drewN _ _ _⟩)))
          repeat (go_quiet (first | (go_at_call 31; (with_reducible refine (jobshellref36_named.calls k2 _ _ l0 a1_0 t266 _ ?side1 ?side2 A34.out ?sideG).mono ?_); (case sideG => first | (with_reducible exact HG.out) | (with_reducible exact HG.out.drewN _) | exact HG.out.below (by repeat (first | (with_reducible first | exact HB.out | apply below_alloc | apply pw_below_drewN | apply below_drew1) | exact HB.out))); (case side1 => repeat (first | exact (Kd.C_below HR0.out HB.out) | (with_reducible refine Kd.C_alloc ?_ _) | (with_reducible refine Kd.C_drewN ?_ _) | (with_reducible refine Kd.C_drew ?_))); (case side2 => exact HC0.out); rintro e w' ⟨rfl, ⟨nd, rfl⟩⟩; (try exact ⟨rfl, _, World.drewN_drewN _ _ _⟩))); try go_wp2_with (first | (go_at_call 31; (with_reducible refine (jobshellref36_named.calls k2 _ _ l0 a1_0 t266 _ ?side1 ?side2 A34.out ?sideG).mono ?_); (case sideG => first | (with_reducible exact HG.out) | (with_reducible exact HG.out.drewN _) | exact HG.out.below (by repeat (first | (with_reducible first | exact HB.out | apply below_alloc | apply pw_below_drewN | apply below_drew1) | exact HB.out))); (case side1 => repeat (first | exact (Kd.C_below HR0.out HB.out) | (with_reducible refine Kd.C_alloc ?_ _) | (with_reducible refine Kd.C_drewN ?_ _) | (with_reducible refine Kd.C_drew ?_))); (case side2 => exact HC0.out); rintro e w' ⟨rfl, ⟨nd, rfl⟩⟩; (try exact ⟨rfl, _, World.drewN_drewN _ _ _⟩))))
          go_loopg [6] k2 (fun kq v6 w' => ∃ (x6_3 : Int), v6 = .int .i64 x6_3 ∧ Aside0 (jobshellref36_one.l1 kq l0 x6_3 a1_0 a1_1 a1_2 l1_3 l1_4 a1_5 a1_6 = some r) ∧ Aside0 (kq ≤ k2) ∧ Aside0 (w'.heap[gb257]? = some (.cells #[.int .i64 a1_0, .int .i64 a1_1, .int .i64 a1_2, (.slice A1_3 l1_3.length c1_3), (.slice A1_4 l1_4.length c1_4), .string a1_5, .bool a1_6] 35 (0, 0))) ∧ Aside0 (Below w.heap.size w w'))
          case atStart => exact ⟨(0), (by first | rfl | (simp; done) | (simp [*]; done)), H', ⟨Nat.le_refl _⟩, ⟨by (with_reducible repeat (first | refine blk_drewN ?_ _ | refine blk_drew ?_ | refine blk_alloc ?_ _)); exact BK257.out⟩, ⟨by repeat (first | (with_reducible first | exact HB.out | apply below_alloc | apply pw_below_drewN | apply below_drew1 | refine below_set ?_ GE257.out) | exact HB.out)⟩⟩
          case round =>
            clear H'
            obtain ⟨x6_3, rfl, HA, HK3, BK257, HB⟩ := hrel
            cases gk with
            | zero => exact absurd HA.out (by simp [jobshellref36_one.l1])
            | succ k3 =>
              have H := HA.out
              clear HA
              simp only [jobshellref36_one.l1] at H
              by_cases c38 : x6_3 < (l1_3.length : Int)
              rotate_left
              · rw [if_neg c38] at H
                have c38b0 : decide (x6_3 < (l1_3.length : Int)) = false := decide_eq_false c38
                clear c38
                replace H := Option.bind_eq_some_iff.mp H
                obtain ⟨t267, A510, H⟩ := H
                replace H : (if a1_2 = t267 then (some 0) else (some 25)) = some r := H
                have A51 := Aside0.mk A510
                clear A510
                by_cases c52 : a1_2 = t267
                rotate_left
                · rw [if_neg c52] at H
                  have c52b0 : (a1_2 == t267) = false := beq_eq_false_iff_ne.mpr c52
                  have c52b1 : (a1_2 != t267) = true := bne_iff_ne.mpr c52
                  obtain rfl := Option.some.inj H
                  obtain ⟨hcz54_0, hcz54_1, hcz54_2, hcz54_3, hcz54_4, hcz54_5, hcz54_6, hfz54_0, hfz54_1, hfz54_2, hfz54_3, hfz54_4, hfz54_5, hfz54_6⟩ := cells7 BK257.out
                  go_wp2_with (first | (go_at_call 64; (with_reducible refine (jobshellref36_state.calls k3 _ _ l1_4 t267 _ ?side1 ?side2 A51.out ?sideG).mono ?_); (case sideG => first | (with_reducible exact HG.out) | (with_reducible exact HG.out.drewN _) | exact HG.out.below (by repeat (first | (with_reducible first | exact HB.out | apply below_alloc | apply pw_below_drewN | apply below_drew1) | exact HB.out))); (case side1 => repeat (first | exact (Kd.C_below HR1_4.out HB.out) | (with_reducible refine Kd.C_alloc ?_ _) | (with_reducible refine Kd.C_drewN ?_ _) | (with_reducible refine Kd.C_drew ?_))); (case side2 => exact HC1_4.out); rintro e w' ⟨rfl, ⟨nd, rfl⟩⟩; (try exact ⟨rfl, _, World.drewN_drewN _ _ _⟩)))
                  repeat (go_quiet (first | (go_at_call 64; (with_reducible refine (jobshellref36_state.calls k3 _ _ l1_4 t267 _ ?side1 ?side2 A51.out ?sideG).mono ?_); (case sideG => first | (with_reducible exact HG.out) | (with_reducible exact HG.out.drewN _) | exact HG.out.below (by repeat (first | (with_reducible first | exact HB.out | apply below_alloc | apply pw_below_drewN | apply below_drew1) | exact HB.out))); (case side1 => repeat (first | exact (Kd.C_below HR1_4.out HB.out) | (with_reducible refine Kd.C_alloc ?_ _) | (with_reducible refine Kd.C_drewN ?_ _) | (with_reducible refine Kd.C_drew ?_))); (case side2 => exact HC1_4.out); rintro e w' ⟨rfl, ⟨nd, rfl⟩⟩; (try exact ⟨rfl, _, World.drewN_drewN _ _ _⟩))); try go_wp2_with (first | (go_at_call 64; (with_reducible refine (jobshellref36_state.calls k3 _ _ l1_4 t267 _ ?side1 ?side2 A51.out ?sideG).mono ?_); (case sideG => first | (with_reducible exact HG.out) | (with_reducible exact HG.out.drewN _) | exact HG.out.below (by repeat (first | (with_reducible first | exact HB.out | apply below_alloc | apply pw_below_drewN | apply below_drew1) | exact HB.out))); (case side1 => repeat (first | exact (Kd.C_below HR1_4.out HB.out) | (with_reducible refine Kd.C_alloc ?_ _) | (with_reducible refine Kd.C_drewN ?_ _) | (with_reducible refine Kd.C_drew ?_))); (case side2 => exact HC1_4.out); rintro e w' ⟨rfl, ⟨nd, rfl⟩⟩; (try exact ⟨rfl, _, World.drewN_drewN _ _ _⟩))))
                  go_ret
                  exact ⟨by first | rfl | (simp [*]; done), by repeat (first | (with_reducible first | exact HB.out | apply below_alloc | apply pw_below_drewN | apply below_drew1 | refine below_set ?_ GE257.out) | exact HB.out)⟩

                rw [if_pos c52] at H
                have c52b0 : (a1_2 == t267) = true := beq_iff_eq.mpr c52
                have c52b1 : (a1_2 != t267) = false := bne_eq_false_iff_eq.mpr c52
                clear c52
                obtain rfl := Option.some.inj H
                obtain ⟨hcz53_0, hcz53_1, hcz53_2, hcz53_3, hcz53_4, hcz53_5, hcz53_6, hfz53_0, hfz53_1, hfz53_2, hfz53_3, hfz53_4, hfz53_5, hfz53_6⟩ := cells7 BK257.out
                go_wp2_with (first | (go_at_call 64; (with_reducible refine (jobshellref36_state.calls k3 _ _ l1_4 t267 _ ?side1 ?side2 A51.out ?sideG).mono ?_); (case sideG => first | (with_reducible exact HG.out) | (with_reducible exact HG.out.drewN _) | exact HG.out.below (by repeat (first | (with_reducible first | exact HB.out | apply below_alloc | apply pw_below_drewN | apply below_drew1) | exact HB.out))); (case side1 => repeat (first | exact (Kd.C_below HR1_4.out HB.out) | (with_reducible refine Kd.C_alloc ?_ _) | (with_reducible refine Kd.C_drewN ?_ _) | (with_reducible refine Kd.C_drew ?_))); (case side2 => exact HC1_4.out); rintro e w' ⟨rfl, ⟨nd, rfl⟩⟩; (try exact ⟨rfl, _, World.drewN_drewN _ _ _⟩)))
                repeat (go_quiet (first | (go_at_call 64; (with_reducible refine (jobshellref36_state.calls k3 _ _ l1_4 t267 _ ?side1 ?side2 A51.out ?sideG).mono ?_); (case sideG => first | (with_reducible exact HG.out) | (with_reducible exact HG.out.drewN _) | exact HG.out.below (by repeat (first | (with_reducible first | exact HB.out | apply below_alloc | apply pw_below_drewN | apply below_drew1) | exact HB.out))); (case side1 => repeat (first | exact (Kd.C_below HR1_4.out HB.out) | (with_reducible refine Kd.C_alloc ?_ _) | (with_reducible refine Kd.C_drewN ?_ _) | (with_reducible refine Kd.C_drew ?_))); (case side2 => exact HC1_4.out); rintro e w' ⟨rfl, ⟨nd, rfl⟩⟩; (try exact ⟨rfl, _, World.drewN_drewN _ _ _⟩))); try go_wp2_with (first | (go_at_call 64; (with_reducible refine (jobshellref36_state.calls k3 _ _ l1_4 t267 _ ?side1 ?side2 A51.out ?sideG).mono ?_); (case sideG => first | (with_reducible exact HG.out) | (with_reducible exact HG.out.drewN _) | exact HG.out.below (by repeat (first | (with_reducible first | exact HB.out | apply below_alloc | apply pw_below_drewN | apply below_drew1) | exact HB.out))); (case side1 => repeat (first | exact (Kd.C_below HR1_4.out HB.out) | (with_reducible refine Kd.C_alloc ?_ _) | (with_reducible refine Kd.C_drewN ?_ _) | (with_reducible refine Kd.C_drew ?_))); (case side2 => exact HC1_4.out); rintro e w' ⟨rfl, ⟨nd, rfl⟩⟩; (try exact ⟨rfl, _, World.drewN_drewN _ _ _⟩))))
                go_ret
                exact ⟨by first | rfl | (simp [*]; done), by repeat (first | (with_reducible first | exact HB.out | apply below_alloc | apply pw_below_drewN | apply below_drew1 | refine below_set ?_ GE257.out) | exact HB.out)⟩
              rw [if_pos c38] at H
              have c38b0 : decide (x6_3 < (l1_3.length : Int)) = true := decide_eq_true c38
              clear c38
              by_cases c39 : 0 ≤ x6_3
              rotate_left
              · rw [if_neg c39] at H
                exact absurd H (by simp)
              rw [if_pos c39] at H
              have c39b0 : decide (0 ≤ x6_3) = true := decide_eq_true c39
              clear c39
              replace H := Option.bind_eq_some_iff.mp H
              obtain ⟨t269, A400, H⟩ := H
              replace H : (if t269 = true then (some 9) else (if x6_3 ≤ (l1_3.length : Int) then ((jobshellref36_has.f k3 (l1_3.take (x6_3 : Int).toNat) (rd l1_3 x6_3)).bind fun t272 => (if t272 = true then (some 9) else (jobshellref36_one.l1 k3 l0 (wrap64 (x6_3 + 1)) a1_0 a1_1 a1_2 l1_3 l1_4 a1_5 a1_6))) else (none))) = some r := H
              have A40 := Aside0.mk A400
              clear A400
              by_cases c41 : t269 = true
              · subst c41
                have H1 : (some 9) = some r := by rw [if_pos rfl] at H; exact H
                clear H
                have H := H1
                clear H1
                obtain rfl := Option.some.inj H
                obtain ⟨hcz42_0, hcz42_1, hcz42_2, hcz42_3, hcz42_4, hcz42_5, hcz42_6, hfz42_0, hfz42_1, hfz42_2, hfz42_3, hfz42_4, hfz42_5, hfz42_6⟩ := cells7 BK257.out
                have p268 : 0 ≤ (x6_3 : Int) := of_decide_eq_true (by with_reducible assumption)
                have q268 : x6_3 < (l1_3.length : Int) := of_decide_eq_true (by with_reducible assumption)
                obtain ⟨ad268, e268, hx268_0⟩ := Kd.at_int HR1_3.out x6_3 p268 q268
                cases e268
                replace hx268_0 := (HB.out.cell (World.block_lt_of_cell? w _ hx268_0)).trans hx268_0
                replace p268 := eq_true p268
                replace q268 := eq_true q268
                go_wp2_with (first | (go_at_call 30; (with_reducible refine (jobshellref36_member.calls k3 _ _ l0 (rd l1_3 x6_3) true _ ?side1 ?side2 A40.out ?sideG).mono ?_); (case sideG => first | (with_reducible exact HG.out) | (with_reducible exact HG.out.drewN _) | exact HG.out.below (by repeat (first | (with_reducible first | exact HB.out | apply below_alloc | apply pw_below_drewN | apply below_drew1) | exact HB.out))); (case side1 => repeat (first | exact (Kd.C_below HR0.out HB.out) | (with_reducible refine Kd.C_alloc ?_ _) | (with_reducible refine Kd.C_drewN ?_ _) | (with_reducible refine Kd.C_drew ?_))); (case side2 => exact HC0.out); rintro e w' ⟨rfl, ⟨nd, rfl⟩⟩; (try exact ⟨rfl, _, World.drewN_drewN _ _ _⟩)))
                repeat (go_quiet (first | (go_at_call 30; (with_reducible refine (jobshellref36_member.calls k3 _ _ l0 (rd l1_3 x6_3) true _ ?side1 ?side2 A40.out ?sideG).mono ?_); (case sideG => first | (with_reducible exact HG.out) | (with_reducible exact HG.out.drewN _) | exact HG.out.below (by repeat (first | (with_reducible first | exact HB.out | apply below_alloc | apply pw_below_drewN | apply below_drew1) | exact HB.out))); (case side1 => repeat (first | exact (Kd.C_below HR0.out HB.out) | (with_reducible refine Kd.C_alloc ?_ _) | (with_reducible refine Kd.C_drewN ?_ _) | (with_reducible refine Kd.C_drew ?_))); (case side2 => exact HC0.out); rintro e w' ⟨rfl, ⟨nd, rfl⟩⟩; (try exact ⟨rfl, _, World.drewN_drewN _ _ _⟩))); try go_wp2_with (first | (go_at_call 30; (with_reducible refine (jobshellref36_member.calls k3 _ _ l0 (rd l1_3 x6_3) true _ ?side1 ?side2 A40.out ?sideG).mono ?_); (case sideG => first | (with_reducible exact HG.out) | (with_reducible exact HG.out.drewN _) | exact HG.out.below (by repeat (first | (with_reducible first | exact HB.out | apply below_alloc | apply pw_below_drewN | apply below_drew1) | exact HB.out))); (case side1 => repeat (first | exact (Kd.C_below HR0.out HB.out) | (with_reducible refine Kd.C_alloc ?_ _) | (with_reducible refine Kd.C_drewN ?_ _) | (with_reducible refine Kd.C_drew ?_))); (case side2 => exact HC0.out); rintro e w' ⟨rfl, ⟨nd, rfl⟩⟩; (try exact ⟨rfl, _, World.drewN_drewN _ _ _⟩))))
                go_ret
                exact ⟨by first | rfl | (simp [*]; done), by repeat (first | (with_reducible first | exact HB.out | apply below_alloc | apply pw_below_drewN | apply below_drew1 | refine below_set ?_ GE257.out) | exact HB.out)⟩
              replace c41 := Bool.eq_false_iff.mpr c41
              subst c41
              have H1 : (if x6_3 ≤ (l1_3.length : Int) then ((jobshellref36_has.f k3 (l1_3.take (x6_3 : Int).toNat) (rd l1_3 x6_3)).bind fun t272 => (if t272 = true then (some 9) else (jobshellref36_one.l1 k3 l0 (wrap64 (x6_3 + 1)) a1_0 a1_1 a1_2 l1_3 l1_4 a1_5 a1_6))) else (none)) = some r := by rw [if_neg (show ¬ (false = true) by decide)] at H; exact H
              clear H
              have H := H1
              clear H1
              have c43b0 := eq_true (of_decide_eq_true (by with_reducible assumption) : 0 ≤ x6_3)
              by_cases c44 : x6_3 ≤ (l1_3.length : Int)
              rotate_left
              · rw [if_neg c44] at H
                exact absurd H (by simp)
              rw [if_pos c44] at H
              have c44b0 := eq_true c44
              have c44b1 : decide (x6_3 ≤ (l1_3.length : Int)) = true := decide_eq_true c44
              clear c44
              replace H := Option.bind_eq_some_iff.mp H
              obtain ⟨t272, A450, H⟩ := H
              replace H : (if t272 = true then (some 9) else (jobshellref36_one.l1 k3 l0 (wrap64 (x6_3 + 1)) a1_0 a1_1 a1_2 l1_3 l1_4 a1_5 a1_6)) = some r := H
              have A45 := Aside0.mk A450
              clear A450
              by_cases c46 : t272 = true
              · subst c46
                have H1 : (some 9) = some r := by rw [if_pos rfl] at H; exact H
                clear H
                have H := H1
                clear H1
                obtain rfl := Option.some.inj H
                obtain ⟨hcz47_0, hcz47_1, hcz47_2, hcz47_3, hcz47_4, hcz47_5, hcz47_6, hfz47_0, hfz47_1, hfz47_2, hfz47_3, hfz47_4, hfz47_5, hfz47_6⟩ := cells7 BK257.out
                have p268 : 0 ≤ (x6_3 : Int) := of_decide_eq_true (by with_reducible assumption)
                have q268 : x6_3 < (l1_3.length : Int) := of_decide_eq_true (by with_reducible assumption)
                obtain ⟨ad268, e268, hx268_0⟩ := Kd.at_int HR1_3.out x6_3 p268 q268
                cases e268
                replace hx268_0 := (HB.out.cell (World.block_lt_of_cell? w _ hx268_0)).trans hx268_0
                replace p268 := eq_true p268
                replace q268 := eq_true q268
                go_wp2_with (first | (go_at_call 30; (with_reducible refine (jobshellref36_member.calls k3 _ _ l0 (rd l1_3 x6_3) false _ ?side1 ?side2 A40.out ?sideG).mono ?_); (case sideG => first | (with_reducible exact HG.out) | (with_reducible exact HG.out.drewN _) | exact HG.out.below (by repeat (first | (with_reducible first | exact HB.out | apply below_alloc | apply pw_below_drewN | apply below_drew1) | exact HB.out))); (case side1 => repeat (first | exact (Kd.C_below HR0.out HB.out) | (with_reducible refine Kd.C_alloc ?_ _) | (with_reducible refine Kd.C_drewN ?_ _) | (with_reducible refine Kd.C_drew ?_))); (case side2 => exact HC0.out); rintro e w' ⟨rfl, ⟨nd, rfl⟩⟩; (try exact ⟨rfl, _, World.drewN_drewN _ _ _⟩); obtain ⟨i048, hi048, _, hsz48, _⟩ := info_parts info3; obtain ⟨hcut48, hA48, hC48⟩ := print_take_of (P := Tryd.prog) (Value.int .i64) 0 23 3 .i64 Tryd.underlying23 hi048 hsz48 (some ad268) c1_3 l1_3 x6_3 (of_decide_eq_true (by with_reducible assumption)) (of_decide_eq_true (by with_reducible assumption)) HC1_3.out; have HR270 := Aside0.mk (Kd.C_of_reads (h1 := fun _ => rfl) (hA48 _ (Kd.reads_of_C HR1_3.out))); have HC270 := Aside0.mk hC48; clear hA48 hC48 hi048 hsz48; have p271 : 0 ≤ (x6_3 : Int) := of_decide_eq_true (by with_reducible assumption); have q271 : x6_3 < (l1_3.length : Int) := of_decide_eq_true (by with_reducible assumption); obtain ⟨ad271, e271, hx271_0⟩ := Kd.at_int HR1_3.out x6_3 p271 q271; obtain rfl : ad268 = ad271 := (by injection e271); replace hx271_0 := (HB.out.cell (World.block_lt_of_cell? w _ hx271_0)).trans hx271_0; replace p271 := eq_true p271; replace q271 := eq_true q271) | (go_at_call 29; (with_reducible refine (Calls.args (jobshellref36_has.calls k3 (some ad268) c1_3 (l1_3.take (x6_3 : Int).toNat) (rd l1_3 x6_3) true _ ?side1 ?side2 A45.out ?sideG) ?argsE).mono ?_); (case sideG => first | (with_reducible exact HG.out) | (with_reducible exact HG.out.drewN _) | exact HG.out.below (by repeat (first | (with_reducible first | exact HB.out | apply below_alloc | apply pw_below_drewN | apply below_drew1 | refine below_set ?_ GE257.out) | exact HB.out)) | exact HG.out.below (by repeat (first | (with_reducible first | exact HB.out | apply below_alloc | apply pw_below_drewN | apply below_drew1) | exact HB.out))); (case side1 => repeat (first | exact (Kd.C_below HR270.out (by repeat (first | (with_reducible first | exact HB.out | apply below_alloc | apply pw_below_drewN | apply below_drew1 | refine below_set ?_ GE257.out) | exact HB.out))) | (with_reducible refine Kd.C_alloc ?_ _) | (with_reducible refine Kd.C_drewN ?_ _) | (with_reducible refine Kd.C_drew ?_))); (case side2 => exact HC270.out); (case argsE => first | rfl | (rw [List.length_take, Nat.min_eq_left (show (x6_3 : Int).toNat ≤ (l1_3).length from Int.toNat_le.2 (of_decide_eq_true (by with_reducible assumption)))])); rintro e w' ⟨rfl, ⟨nd, rfl⟩⟩; (try exact ⟨rfl, _, World.drewN_drewN _ _ _⟩)))
                (obtain ⟨i048, hi048, _, hsz48, _⟩ := info_parts info3; obtain ⟨hcut48, hA48, hC48⟩ := print_take_of (P := Tryd.prog) (Value.int .i64) 0 23 3 .i64 Tryd.underlying23 hi048 hsz48 (some ad268) c1_3 l1_3 x6_3 (of_decide_eq_true (by with_reducible assumption)) (of_decide_eq_true (by with_reducible assumption)) HC1_3.out; have HR270 := Aside0.mk (Kd.C_of_reads (h1 := fun _ => rfl) (hA48 _ (Kd.reads_of_C HR1_3.out))); have HC270 := Aside0.mk hC48; clear hA48 hC48 hi048 hsz48; have p271 : 0 ≤ (x6_3 : Int) := of_decide_eq_true (by with_reducible assumption); have q271 : x6_3 < (l1_3.length : Int) := of_decide_eq_true (by with_reducible assumption); obtain ⟨ad271, e271, hx271_0⟩ := Kd.at_int HR1_3.out x6_3 p271 q271; obtain rfl : ad268 = ad271 := (by injection e271); replace hx271_0 := (HB.out.cell (World.block_lt_of_cell? w _ hx271_0)).trans hx271_0; replace p271 := eq_true p271; replace q271 := eq_true q271)
                repeat (go_quiet (first | (go_at_call 30; (with_reducible refine (jobshellref36_member.calls k3 _ _ l0 (rd l1_3 x6_3) false _ ?side1 ?side2 A40.out ?sideG).mono ?_); (case sideG => first | (with_reducible exact HG.out) | (with_reducible exact HG.out.drewN _) | exact HG.out.below (by repeat (first | (with_reducible first | exact HB.out | apply below_alloc | apply pw_below_drewN | apply below_drew1) | exact HB.out))); (case side1 => repeat (first | exact (Kd.C_below HR0.out HB.out) | (with_reducible refine Kd.C_alloc ?_ _) | (with_reducible refine Kd.C_drewN ?_ _) | (with_reducible refine Kd.C_drew ?_))); (case side2 => exact HC0.out); rintro e w' ⟨rfl, ⟨nd, rfl⟩⟩; (try exact ⟨rfl, _, World.drewN_drewN _ _ _⟩)) | (go_at_call 29; (with_reducible refine (Calls.args (jobshellref36_has.calls k3 (some ad268) c1_3 (l1_3.take (x6_3 : Int).toNat) (rd l1_3 x6_3) true _ ?side1 ?side2 A45.out ?sideG) ?argsE).mono ?_); (case sideG => first | (with_reducible exact HG.out) | (with_reducible exact HG.out.drewN _) | exact HG.out.below (by repeat (first | (with_reducible first | exact HB.out | apply below_alloc | apply pw_below_drewN | apply below_drew1 | refine below_set ?_ GE257.out) | exact HB.out)) | exact HG.out.below (by repeat (first | (with_reducible first | exact HB.out | apply below_alloc | apply pw_below_drewN | apply below_drew1) | exact HB.out))); (case side1 => repeat (first | exact (Kd.C_below HR270.out (pw_below_drewN HB.out _)) | exact (Kd.C_below HR270.out (by repeat (first | (with_reducible first | exact HB.out | apply below_alloc | apply pw_below_drewN | apply below_drew1 | refine below_set ?_ GE257.out) | exact HB.out))) | (with_reducible refine Kd.C_alloc ?_ _) | (with_reducible refine Kd.C_drewN ?_ _) | (with_reducible refine Kd.C_drew ?_))); (case side2 => exact HC270.out); (case argsE => first | rfl | (rw [List.length_take, Nat.min_eq_left (show (x6_3 : Int).toNat ≤ (l1_3).length from Int.toNat_le.2 (of_decide_eq_true (by with_reducible assumption)))])); rintro e w' ⟨rfl, ⟨nd, rfl⟩⟩; (try exact ⟨rfl, _, World.drewN_drewN _ _ _⟩))); try go_wp2_with (first | (go_at_call 30; (with_reducible refine (jobshellref36_member.calls k3 _ _ l0 (rd l1_3 x6_3) false _ ?side1 ?side2 A40.out ?sideG).mono ?_); (case sideG => first | (with_reducible exact HG.out) | (with_reducible exact HG.out.drewN _) | exact HG.out.below (by repeat (first | (with_reducible first | exact HB.out | apply below_alloc | apply pw_below_drewN | apply below_drew1) | exact HB.out))); (case side1 => repeat (first | exact (Kd.C_below HR0.out HB.out) | (with_reducible refine Kd.C_alloc ?_ _) | (with_reducible refine Kd.C_drewN ?_ _) | (with_reducible refine Kd.C_drew ?_))); (case side2 => exact HC0.out); rintro e w' ⟨rfl, ⟨nd, rfl⟩⟩; (try exact ⟨rfl, _, World.drewN_drewN _ _ _⟩)) | (go_at_call 29; (with_reducible refine (Calls.args (jobshellref36_has.calls k3 (some ad268) c1_3 (l1_3.take (x6_3 : Int).toNat) (rd l1_3 x6_3) true _ ?side1 ?side2 A45.out ?sideG) ?argsE).mono ?_); (case sideG => first | (with_reducible exact HG.out) | (with_reducible exact HG.out.drewN _) | exact HG.out.below (by repeat (first | (with_reducible first | exact HB.out | apply below_alloc | apply pw_below_drewN | apply below_drew1 | refine below_set ?_ GE257.out) | exact HB.out)) | exact HG.out.below (by repeat (first | (with_reducible first | exact HB.out | apply below_alloc | apply pw_below_drewN | apply below_drew1) | exact HB.out))); (case side1 => repeat (first | exact (Kd.C_below HR270.out (pw_below_drewN HB.out _)) | exact (Kd.C_below HR270.out (by repeat (first | (with_reducible first | exact HB.out | apply below_alloc | apply pw_below_drewN | apply below_drew1 | refine below_set ?_ GE257.out) | exact HB.out))) | (with_reducible refine Kd.C_alloc ?_ _) | (with_reducible refine Kd.C_drewN ?_ _) | (with_reducible refine Kd.C_drew ?_))); (case side2 => exact HC270.out); (case argsE => first | rfl | (rw [List.length_take, Nat.min_eq_left (show (x6_3 : Int).toNat ≤ (l1_3).length from Int.toNat_le.2 (of_decide_eq_true (by with_reducible assumption)))])); rintro e w' ⟨rfl, ⟨nd, rfl⟩⟩; (try exact ⟨rfl, _, World.drewN_drewN _ _ _⟩))))
                go_ret
                exact ⟨by first | rfl | (simp [*]; done), by repeat (first | (with_reducible first | exact HB.out | apply below_alloc | apply pw_below_drewN | apply below_drew1 | refine below_set ?_ GE257.out) | exact HB.out)⟩
              replace c46 := Bool.eq_false_iff.mpr c46
              subst c46
              have H1 : (jobshellref36_one.l1 k3 l0 (wrap64 (x6_3 + 1)) a1_0 a1_1 a1_2 l1_3 l1_4 a1_5 a1_6) = some r := by rw [if_neg (show ¬ (false = true) by decide)] at H; exact H
              clear H
              have H := H1
              clear H1
              have H' := Aside0.mk H
              clear H
              obtain ⟨hcz49_0, hcz49_1, hcz49_2, hcz49_3, hcz49_4, hcz49_5, hcz49_6, hfz49_0, hfz49_1, hfz49_2, hfz49_3, hfz49_4, hfz49_5, hfz49_6⟩ := cells7 BK257.out
              have p268 : 0 ≤ (x6_3 : Int) := of_decide_eq_true (by with_reducible assumption)
              have q268 : x6_3 < (l1_3.length : Int) := of_decide_eq_true (by with_reducible assumption)
              obtain ⟨ad268, e268, hx268_0⟩ := Kd.at_int HR1_3.out x6_3 p268 q268
              cases e268
              replace hx268_0 := (HB.out.cell (World.block_lt_of_cell? w _ hx268_0)).trans hx268_0
              replace p268 := eq_true p268
              replace q268 := eq_true q268
              go_wp2_with (first | (go_at_call 30; (with_reducible refine (jobshellref36_member.calls k3 _ _ l0 (rd l1_3 x6_3) false _ ?side1 ?side2 A40.out ?sideG).mono ?_); (case sideG => first | (with_reducible exact HG.out) | (with_reducible exact HG.out.drewN _) | exact HG.out.below (by repeat (first | (with_reducible first | exact HB.out | apply below_alloc | apply pw_below_drewN | apply below_drew1) | exact HB.out))); (case side1 => repeat (first | exact (Kd.C_below HR0.out HB.out) | (with_reducible refine Kd.C_alloc ?_ _) | (with_reducible refine Kd.C_drewN ?_ _) | (with_reducible refine Kd.C_drew ?_))); (case side2 => exact HC0.out); rintro e w' ⟨rfl, ⟨nd, rfl⟩⟩; (try exact ⟨rfl, _, World.drewN_drewN _ _ _⟩); obtain ⟨i050, hi050, _, hsz50, _⟩ := info_parts info3; obtain ⟨hcut50, hA50, hC50⟩ := print_take_of (P := Tryd.prog) (Value.int .i64) 0 23 3 .i64 Tryd.underlying23 hi050 hsz50 (some ad268) c1_3 l1_3 x6_3 (of_decide_eq_true (by with_reducible assumption)) (of_decide_eq_true (by with_reducible assumption)) HC1_3.out; have HR270 := Aside0.mk (Kd.C_of_reads (h1 := fun _ => rfl) (hA50 _ (Kd.reads_of_C HR1_3.out))); have HC270 := Aside0.mk hC50; clear hA50 hC50 hi050 hsz50; have p271 : 0 ≤ (x6_3 : Int) := of_decide_eq_true (by with_reducible assumption); have q271 : x6_3 < (l1_3.length : Int) := of_decide_eq_true (by with_reducible assumption); obtain ⟨ad271, e271, hx271_0⟩ := Kd.at_int HR1_3.out x6_3 p271 q271; obtain rfl : ad268 = ad271 := (by injection e271); replace hx271_0 := (HB.out.cell (World.block_lt_of_cell? w _ hx271_0)).trans hx271_0; replace p271 := eq_true p271; replace q271 := eq_true q271) | (go_at_call 29; (with_reducible refine (Calls.args (jobshellref36_has.calls k3 (some ad268) c1_3 (l1_3.take (x6_3 : Int).toNat) (rd l1_3 x6_3) false _ ?side1 ?side2 A45.out ?sideG) ?argsE).mono ?_); (case sideG => first | (with_reducible exact HG.out) | (with_reducible exact HG.out.drewN _) | exact HG.out.below (by repeat (first | (with_reducible first | exact HB.out | apply below_alloc | apply pw_below_drewN | apply below_drew1 | refine below_set ?_ GE257.out) | exact HB.out)) | exact HG.out.below (by repeat (first | (with_reducible first | exact HB.out | apply below_alloc | apply pw_below_drewN | apply below_drew1) | exact HB.out))); (case side1 => repeat (first | exact (Kd.C_below HR270.out (by repeat (first | (with_reducible first | exact HB.out | apply below_alloc | apply pw_below_drewN | apply below_drew1 | refine below_set ?_ GE257.out) | exact HB.out))) | (with_reducible refine Kd.C_alloc ?_ _) | (with_reducible refine Kd.C_drewN ?_ _) | (with_reducible refine Kd.C_drew ?_))); (case side2 => exact HC270.out); (case argsE => first | rfl | (rw [List.length_take, Nat.min_eq_left (show (x6_3 : Int).toNat ≤ (l1_3).length from Int.toNat_le.2 (of_decide_eq_true (by with_reducible assumption)))])); rintro e w' ⟨rfl, ⟨nd, rfl⟩⟩; (try exact ⟨rfl, _, World.drewN_drewN _ _ _⟩)))
              (obtain ⟨i050, hi050, _, hsz50, _⟩ := info_parts info3; obtain ⟨hcut50, hA50, hC50⟩ := print_take_of (P := Tryd.prog) (Value.int .i64) 0 23 3 .i64 Tryd.underlying23 hi050 hsz50 (some ad268) c1_3 l1_3 x6_3 (of_decide_eq_true (by with_reducible assumption)) (of_decide_eq_true (by with_reducible assumption)) HC1_3.out; have HR270 := Aside0.mk (Kd.C_of_reads (h1 := fun _ => rfl) (hA50 _ (Kd.reads_of_C HR1_3.out))); have HC270 := Aside0.mk hC50; clear hA50 hC50 hi050 hsz50; have p271 : 0 ≤ (x6_3 : Int) := of_decide_eq_true (by with_reducible assumption); have q271 : x6_3 < (l1_3.length : Int) := of_decide_eq_true (by with_reducible assumption); obtain ⟨ad271, e271, hx271_0⟩ := Kd.at_int HR1_3.out x6_3 p271 q271; obtain rfl : ad268 = ad271 := (by injection e271); replace hx271_0 := (HB.out.cell (World.block_lt_of_cell? w _ hx271_0)).trans hx271_0; replace p271 := eq_true p271; replace q271 := eq_true q271)
              repeat (go_quiet (first | (go_at_call 30; (with_reducible refine (jobshellref36_member.calls k3 _ _ l0 (rd l1_3 x6_3) false _ ?side1 ?side2 A40.out ?sideG).mono ?_); (case sideG => first | (with_reducible exact HG.out) | (with_reducible exact HG.out.drewN _) | exact HG.out.below (by repeat (first | (with_reducible first | exact HB.out | apply below_alloc | apply pw_below_drewN | apply below_drew1) | exact HB.out))); (case side1 => repeat (first | exact (Kd.C_below HR0.out HB.out) | (with_reducible refine Kd.C_alloc ?_ _) | (with_reducible refine Kd.C_drewN ?_ _) | (with_reducible refine Kd.C_drew ?_))); (case side2 => exact HC0.out); rintro e w' ⟨rfl, ⟨nd, rfl⟩⟩; (try exact ⟨rfl, _, World.drewN_drewN _ _ _⟩)) | (go_at_call 29; (with_reducible refine (Calls.args (jobshellref36_has.calls k3 (some ad268) c1_3 (l1_3.take (x6_3 : Int).toNat) (rd l1_3 x6_3) false _ ?side1 ?side2 A45.out ?sideG) ?argsE).mono ?_); (case sideG => first | (with_reducible exact HG.out) | (with_reducible exact HG.out.drewN _) | exact HG.out.below (by repeat (first | (with_reducible first | exact HB.out | apply below_alloc | apply pw_below_drewN | apply below_drew1 | refine below_set ?_ GE257.out) | exact HB.out)) | exact HG.out.below (by repeat (first | (with_reducible first | exact HB.out | apply below_alloc | apply pw_below_drewN | apply below_drew1) | exact HB.out))); (case side1 => repeat (first | exact (Kd.C_below HR270.out (pw_below_drewN HB.out _)) | exact (Kd.C_below HR270.out (by repeat (first | (with_reducible first | exact HB.out | apply below_alloc | apply pw_below_drewN | apply below_drew1 | refine below_set ?_ GE257.out) | exact HB.out))) | (with_reducible refine Kd.C_alloc ?_ _) | (with_reducible refine Kd.C_drewN ?_ _) | (with_reducible refine Kd.C_drew ?_))); (case side2 => exact HC270.out); (case argsE => first | rfl | (rw [List.length_take, Nat.min_eq_left (show (x6_3 : Int).toNat ≤ (l1_3).length from Int.toNat_le.2 (of_decide_eq_true (by with_reducible assumption)))])); rintro e w' ⟨rfl, ⟨nd, rfl⟩⟩; (try exact ⟨rfl, _, World.drewN_drewN _ _ _⟩))); try go_wp2_with (first | (go_at_call 30; (with_reducible refine (jobshellref36_member.calls k3 _ _ l0 (rd l1_3 x6_3) false _ ?side1 ?side2 A40.out ?sideG).mono ?_); (case sideG => first | (with_reducible exact HG.out) | (with_reducible exact HG.out.drewN _) | exact HG.out.below (by repeat (first | (with_reducible first | exact HB.out | apply below_alloc | apply pw_below_drewN | apply below_drew1) | exact HB.out))); (case side1 => repeat (first | exact (Kd.C_below HR0.out HB.out) | (with_reducible refine Kd.C_alloc ?_ _) | (with_reducible refine Kd.C_drewN ?_ _) | (with_reducible refine Kd.C_drew ?_))); (case side2 => exact HC0.out); rintro e w' ⟨rfl, ⟨nd, rfl⟩⟩; (try exact ⟨rfl, _, World.drewN_drewN _ _ _⟩)) | (go_at_call 29; (with_reducible refine (Calls.args (jobshellref36_has.calls k3 (some ad268) c1_3 (l1_3.take (x6_3 : Int).toNat) (rd l1_3 x6_3) false _ ?side1 ?side2 A45.out ?sideG) ?argsE).mono ?_); (case sideG => first | (with_reducible exact HG.out) | (with_reducible exact HG.out.drewN _) | exact HG.out.below (by repeat (first | (with_reducible first | exact HB.out | apply below_alloc | apply pw_below_drewN | apply below_drew1 | refine below_set ?_ GE257.out) | exact HB.out)) | exact HG.out.below (by repeat (first | (with_reducible first | exact HB.out | apply below_alloc | apply pw_below_drewN | apply below_drew1) | exact HB.out))); (case side1 => repeat (first | exact (Kd.C_below HR270.out (pw_below_drewN HB.out _)) | exact (Kd.C_below HR270.out (by repeat (first | (with_reducible first | exact HB.out | apply below_alloc | apply pw_below_drewN | apply below_drew1 | refine below_set ?_ GE257.out) | exact HB.out))) | (with_reducible refine Kd.C_alloc ?_ _) | (with_reducible refine Kd.C_drewN ?_ _) | (with_reducible refine Kd.C_drew ?_))); (case side2 => exact HC270.out); (case argsE => first | rfl | (rw [List.length_take, Nat.min_eq_left (show (x6_3 : Int).toNat ≤ (l1_3).length from Int.toNat_le.2 (of_decide_eq_true (by with_reducible assumption)))])); rintro e w' ⟨rfl, ⟨nd, rfl⟩⟩; (try exact ⟨rfl, _, World.drewN_drewN _ _ _⟩))))
              go_roundg k3
              case measure => have := HJ2.out; have := HK2.out; have := HK3.out; omega
              case rel => exact ⟨(wrap64 (x6_3 + 1)), (by first | rfl | (simp; done) | (simp [*]; done)), H', ⟨by have := HJ2.out; have := HK2.out; have := HK3.out; omega⟩, ⟨by (with_reducible repeat (first | refine blk_drewN ?_ _ | refine blk_drew ?_ | refine blk_alloc ?_ _)); exact BK257.out⟩, ⟨by repeat (first | (with_reducible first | exact HB.out | apply below_alloc | apply pw_below_drewN | apply below_drew1 | refine below_set ?_ GE257.out) | exact HB.out)⟩⟩
end Go.Proofs.YthafbimhmfjcoaaDoor.PV

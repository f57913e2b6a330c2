-- Written by a program of this session's (wip/mkprint.py) out of the translation; the texts of functions that the program does not take are mine.
import Derived.Test.YthafbimhmfjcoaaDoorPVx0
import Derived.Test.YthafbimhmfjcoaaDoorPVx1
import Derived.Test.YthafbimhmfjcoaaDoorPVy1
namespace Go.Proofs.YthafbimhmfjcoaaDoor.PV
open Go.RowKit Go.Proofs.YthafbimhmfjcoaaDoorW.PrintWords Go.Proofs.YthafbimhmfjcoaaDoorW.PrintLast Go.Proofs.YthafbimhmfjcoaaDoorW.PrintMore
attribute [local go_sem] max2_int min2_int max_two min_two max_three min_three max_four min_four   -- for this text's walks alone
set_option linter.unusedVariables false
set_option linter.unusedSimpArgs false

mutual
def jobs_form.j0 : Nat → List (S35) → Int → Bool → Int → Int → Int → List Int → List Int → ByteArray → Bool → Option (Int)
  | 0, _, _, _, _, _, _, _, _, _, _ => none
  | k + 1, x0, x1, x47, x167000, x167001, x167002, x167003, x167004, x167005, x167006 => if x47 = true then (some 1) else (if (x167005.size : Int) > 4096 then (some 3) else (jobs_form.l0 k x0 x1 x167003 (x167003.length : Int) 0 x167000 x167001 x167002 x167003 x167004 x167005 x167006))
def jobs_form.l0 : Nat → List (S35) → Int → List Int → Int → Int → Int → Int → Int → List Int → List Int → ByteArray → Bool → Option (Int)
  | 0, _, _, _, _, _, _, _, _, _, _, _, _ => none
  | k + 1, x0, x1, x53, x54, x55, x167000, x167001, x167002, x167003, x167004, x167005, x167006 => if x55 < x54 then (if 0 ≤ x55 then (if x55 < (x53.length : Int) then (if (rd x53 x55) < 1 then (some 1) else (if (rd x53 x55) > 2147483647 then (some 1) else (if x55 < (x167004.length : Int) then ((jobs_known.f k (rd x167004 x55)).bind fun t169 => (if t169 = true then (jobs_form.l0 k x0 x1 x53 x54 (wrap64 (x55 + 1)) x167000 x167001 x167002 x167003 x167004 x167005 x167006) else (some 1))) else (none)))) else (none)) else (none)) else (jobs_form.l1 k x0 x1 x1 0 x167000 x167001 x167002 x167003 x167004 x167005 x167006)
def jobs_form.l1 : Nat → List (S35) → Int → Int → Int → Int → Int → Int → List Int → List Int → ByteArray → Bool → Option (Int)
  | 0, _, _, _, _, _, _, _, _, _, _, _ => none
  | k + 1, x0, x1, x76, x77, x167000, x167001, x167002, x167003, x167004, x167005, x167006 => if x77 < x76 then (if 0 ≤ x77 then (if x77 < (x0.length : Int) then (if ((rd_T35 x0 x77).f0) = x167000 then (some 9) else (jobs_form.l1 k x0 x1 x76 (wrap64 (x77 + 1)) x167000 x167001 x167002 x167003 x167004 x167005 x167006)) else (none)) else (none)) else (jobs_form.l2 k x0 x1 x167003 (x167003.length : Int) 0 x167000 x167001 x167002 x167003 x167004 x167005 x167006)
def jobs_form.l2 : Nat → List (S35) → Int → List Int → Int → Int → Int → Int → Int → List Int → List Int → ByteArray → Bool → Option (Int)
  | 0, _, _, _, _, _, _, _, _, _, _, _, _ => none
  | k + 1, x0, x1, x90, x91, x92, x167000, x167001, x167002, x167003, x167004, x167005, x167006 => if x92 < x91 then (if 0 ≤ x92 then (if x92 < (x90.length : Int) then (if x92 ≤ (x167003.length : Int) then ((jobs_within.f k (x167003.take (x92 : Int).toNat) (rd x90 x92)).bind fun t174 => (if t174 = true then (some 9) else (if 0 ≤ x1 then (if x1 ≤ (x0.length : Int) then ((jobs_member.f k (x0.take (x1 : Int).toNat) (rd x90 x92)).bind fun t179 => (if t179 ≥ 0 then (some 9) else (jobs_form.l2 k x0 x1 x90 x91 (wrap64 (x92 + 1)) x167000 x167001 x167002 x167003 x167004 x167005 x167006))) else (none)) else (none)))) else (none)) else (none)) else (none)) else ((jobs_state.f k x167004).bind fun t171 => (if x167002 = t171 then (some 0) else (some 25)))
end
def jobs_form.f (k : Nat) (l0 : List (S35)) (a1 : Int) : Option (Int) := if 0 ≤ a1 then (if a1 < (l0.length : Int) then (if ((rd_T35 l0 a1).f0) < 1 then (jobs_form.j0 k l0 a1 true ((rd_T35 l0 a1).f0) ((rd_T35 l0 a1).f1) ((rd_T35 l0 a1).f2) ((rd_T35 l0 a1).f3) ((rd_T35 l0 a1).f4) ((rd_T35 l0 a1).f5) ((rd_T35 l0 a1).f6)) else (if ((rd_T35 l0 a1).f0) > 32 then (jobs_form.j0 k l0 a1 true ((rd_T35 l0 a1).f0) ((rd_T35 l0 a1).f1) ((rd_T35 l0 a1).f2) ((rd_T35 l0 a1).f3) ((rd_T35 l0 a1).f4) ((rd_T35 l0 a1).f5) ((rd_T35 l0 a1).f6)) else (if ((rd_T35 l0 a1).f1) < 1 then (jobs_form.j0 k l0 a1 true ((rd_T35 l0 a1).f0) ((rd_T35 l0 a1).f1) ((rd_T35 l0 a1).f2) ((rd_T35 l0 a1).f3) ((rd_T35 l0 a1).f4) ((rd_T35 l0 a1).f5) ((rd_T35 l0 a1).f6)) else (if ((rd_T35 l0 a1).f1) > 2147483647 then (jobs_form.j0 k l0 a1 true ((rd_T35 l0 a1).f0) ((rd_T35 l0 a1).f1) ((rd_T35 l0 a1).f2) ((rd_T35 l0 a1).f3) ((rd_T35 l0 a1).f4) ((rd_T35 l0 a1).f5) ((rd_T35 l0 a1).f6)) else (if (((rd_T35 l0 a1).f3).length : Int) = 0 then (jobs_form.j0 k l0 a1 true ((rd_T35 l0 a1).f0) ((rd_T35 l0 a1).f1) ((rd_T35 l0 a1).f2) ((rd_T35 l0 a1).f3) ((rd_T35 l0 a1).f4) ((rd_T35 l0 a1).f5) ((rd_T35 l0 a1).f6)) else (jobs_form.j0 k l0 a1 ((((rd_T35 l0 a1).f4).length : Int) != (((rd_T35 l0 a1).f3).length : Int)) ((rd_T35 l0 a1).f0) ((rd_T35 l0 a1).f1) ((rd_T35 l0 a1).f2) ((rd_T35 l0 a1).f3) ((rd_T35 l0 a1).f4) ((rd_T35 l0 a1).f5) ((rd_T35 l0 a1).f6))))))) else (none)) else (none)
theorem jobs_form.mono_l : ∀ k, (∀ y0 y1 y2 y3 y4 y5 y6 y7 y8 y9, LeO (jobs_form.j0 k y0 y1 y2 y3 y4 y5 y6 y7 y8 y9) (jobs_form.j0 (k + 1) y0 y1 y2 y3 y4 y5 y6 y7 y8 y9)) ∧ (∀ y0 y1 y2 y3 y4 y5 y6 y7 y8 y9 y10 y11, LeO (jobs_form.l0 k y0 y1 y2 y3 y4 y5 y6 y7 y8 y9 y10 y11) (jobs_form.l0 (k + 1) y0 y1 y2 y3 y4 y5 y6 y7 y8 y9 y10 y11)) ∧ (∀ y0 y1 y2 y3 y4 y5 y6 y7 y8 y9 y10, LeO (jobs_form.l1 k y0 y1 y2 y3 y4 y5 y6 y7 y8 y9 y10) (jobs_form.l1 (k + 1) y0 y1 y2 y3 y4 y5 y6 y7 y8 y9 y10)) ∧ (∀ y0 y1 y2 y3 y4 y5 y6 y7 y8 y9 y10 y11, LeO (jobs_form.l2 k y0 y1 y2 y3 y4 y5 y6 y7 y8 y9 y10 y11) (jobs_form.l2 (k + 1) y0 y1 y2 y3 y4 y5 y6 y7 y8 y9 y10 y11))
  | 0 => ⟨fun _ _ _ _ _ _ _ _ _ _ r h => by simp [jobs_form.j0] at h, fun _ _ _ _ _ _ _ _ _ _ _ _ r h => by simp [jobs_form.l0] at h, fun _ _ _ _ _ _ _ _ _ _ _ r h => by simp [jobs_form.l1] at h, fun _ _ _ _ _ _ _ _ _ _ _ _ r h => by simp [jobs_form.l2] at h⟩
  | k + 1 => by
    obtain ⟨ih0, ih1, ih2, ih3⟩ := jobs_form.mono_l k
    refine ⟨?_, ?_, ?_, ?_⟩
    · intro y0 y1 y2 y3 y4 y5 y6 y7 y8 y9
      unfold jobs_form.j0
      repeat' first
      | (with_reducible exact ih0 _ _ _ _ _ _ _ _ _ _)
      | (with_reducible exact ih1 _ _ _ _ _ _ _ _ _ _ _ _)
      | (with_reducible exact ih2 _ _ _ _ _ _ _ _ _ _ _)
      | (with_reducible exact ih3 _ _ _ _ _ _ _ _ _ _ _ _)
      | (with_reducible exact jobs_known.mono _ _)
      | (with_reducible exact jobs_member.mono _ _ _)
      | (with_reducible exact jobs_state.mono _ _)
      | (with_reducible exact jobs_within.mono _ _ _)
      | (with_reducible exact LeO.refl _)
      | (with_reducible exact LeO.none _)
      | (with_reducible refine LeO.ite ?_ ?_)
      | (with_reducible refine LeO.bind ?_ (fun _ => ?_))
      | exact ih0 _ _ _ _ _ _ _ _ _ _
      | exact ih1 _ _ _ _ _ _ _ _ _ _ _ _
      | exact ih2 _ _ _ _ _ _ _ _ _ _ _
      | exact ih3 _ _ _ _ _ _ _ _ _ _ _ _
      | exact jobs_known.mono _ _
      | exact jobs_member.mono _ _ _
      | exact jobs_state.mono _ _
      | exact jobs_within.mono _ _ _
      | exact LeO.none _
      | refine LeO.ite ?_ ?_
      | refine LeO.bind ?_ (fun _ => ?_)
    · intro y0 y1 y2 y3 y4 y5 y6 y7 y8 y9 y10 y11
      unfold jobs_form.l0
      repeat' first
      | (with_reducible exact ih0 _ _ _ _ _ _ _ _ _ _)
      | (with_reducible exact ih1 _ _ _ _ _ _ _ _ _ _ _ _)
      | (with_reducible exact ih2 _ _ _ _ _ _ _ _ _ _ _)
      | (with_reducible exact ih3 _ _ _ _ _ _ _ _ _ _ _ _)
      | (with_reducible exact jobs_known.mono _ _)
      | (with_reducible exact jobs_member.mono _ _ _)
      | (with_reducible exact jobs_state.mono _ _)
      | (with_reducible exact jobs_within.mono _ _ _)
      | (with_reducible exact LeO.refl _)
      | (with_reducible exact LeO.none _)
      | (with_reducible refine LeO.ite ?_ ?_)
      | (with_reducible refine LeO.bind ?_ (fun _ => ?_))
      | exact ih0 _ _ _ _ _ _ _ _ _ _
      | exact ih1 _ _ _ _ _ _ _ _ _ _ _ _
      | exact ih2 _ _ _ _ _ _ _ _ _ _ _
      | exact ih3 _ _ _ _ _ _ _ _ _ _ _ _
      | exact jobs_known.mono _ _
      | exact jobs_member.mono _ _ _
      | exact jobs_state.mono _ _
      | exact jobs_within.mono _ _ _
      | exact LeO.none _
      | refine LeO.ite ?_ ?_
      | refine LeO.bind ?_ (fun _ => ?_)
    · intro y0 y1 y2 y3 y4 y5 y6 y7 y8 y9 y10
      unfold jobs_form.l1
      repeat' first
      | (with_reducible exact ih0 _ _ _ _ _ _ _ _ _ _)
      | (with_reducible exact ih1 _ _ _ _ _ _ _ _ _ _ _ _)
      | (with_reducible exact ih2 _ _ _ _ _ _ _ _ _ _ _)
      | (with_reducible exact ih3 _ _ _ _ _ _ _ _ _ _ _ _)
      | (with_reducible exact jobs_known.mono _ _)
      | (with_reducible exact jobs_member.mono _ _ _)
      | (with_reducible exact jobs_state.mono _ _)
      | (with_reducible exact jobs_within.mono _ _ _)
      | (with_reducible exact LeO.refl _)
      | (with_reducible exact LeO.none _)
      | (with_reducible refine LeO.ite ?_ ?_)
      | (with_reducible refine LeO.bind ?_ (fun _ => ?_))
      | exact ih0 _ _ _ _ _ _ _ _ _ _
      | exact ih1 _ _ _ _ _ _ _ _ _ _ _ _
      | exact ih2 _ _ _ _ _ _ _ _ _ _ _
      | exact ih3 _ _ _ _ _ _ _ _ _ _ _ _
      | exact jobs_known.mono _ _
      | exact jobs_member.mono _ _ _
      | exact jobs_state.mono _ _
      | exact jobs_within.mono _ _ _
      | exact LeO.none _
      | refine LeO.ite ?_ ?_
      | refine LeO.bind ?_ (fun _ => ?_)
    · intro y0 y1 y2 y3 y4 y5 y6 y7 y8 y9 y10 y11
      unfold jobs_form.l2
      repeat' first
      | (with_reducible exact ih0 _ _ _ _ _ _ _ _ _ _)
      | (with_reducible exact ih1 _ _ _ _ _ _ _ _ _ _ _ _)
      | (with_reducible exact ih2 _ _ _ _ _ _ _ _ _ _ _)
      | (with_reducible exact ih3 _ _ _ _ _ _ _ _ _ _ _ _)
      | (with_reducible exact jobs_known.mono _ _)
      | (with_reducible exact jobs_member.mono _ _ _)
      | (with_reducible exact jobs_state.mono _ _)
      | (with_reducible exact jobs_within.mono _ _ _)
      | (with_reducible exact LeO.refl _)
      | (with_reducible exact LeO.none _)
      | (with_reducible refine LeO.ite ?_ ?_)
      | (with_reducible refine LeO.bind ?_ (fun _ => ?_))
      | exact ih0 _ _ _ _ _ _ _ _ _ _
      | exact ih1 _ _ _ _ _ _ _ _ _ _ _ _
      | exact ih2 _ _ _ _ _ _ _ _ _ _ _
      | exact ih3 _ _ _ _ _ _ _ _ _ _ _ _
      | exact jobs_known.mono _ _
      | exact jobs_member.mono _ _ _
      | exact jobs_state.mono _ _
      | exact jobs_within.mono _ _ _
      | exact LeO.none _
      | refine LeO.ite ?_ ?_
      | refine LeO.bind ?_ (fun _ => ?_)
theorem jobs_form.mono : ∀ a0 a1 k, LeO (jobs_form.f k a0 a1) (jobs_form.f (k + 1) a0 a1) := by
  intro a0 a1 k
  obtain ⟨ih0, ih1, ih2, ih3⟩ := jobs_form.mono_l k
  unfold jobs_form.f
  repeat' first
      | (with_reducible exact ih0 _ _ _ _ _ _ _ _ _ _)
      | (with_reducible exact ih1 _ _ _ _ _ _ _ _ _ _ _ _)
      | (with_reducible exact ih2 _ _ _ _ _ _ _ _ _ _ _)
      | (with_reducible exact ih3 _ _ _ _ _ _ _ _ _ _ _ _)
      | (with_reducible exact jobs_known.mono _ _)
      | (with_reducible exact jobs_member.mono _ _ _)
      | (with_reducible exact jobs_state.mono _ _)
      | (with_reducible exact jobs_within.mono _ _ _)
      | (with_reducible exact LeO.refl _)
      | (with_reducible exact LeO.none _)
      | (with_reducible refine LeO.ite ?_ ?_)
      | (with_reducible refine LeO.bind ?_ (fun _ => ?_))
      | exact ih0 _ _ _ _ _ _ _ _ _ _
      | exact ih1 _ _ _ _ _ _ _ _ _ _ _ _
      | exact ih2 _ _ _ _ _ _ _ _ _ _ _
      | exact ih3 _ _ _ _ _ _ _ _ _ _ _ _
      | exact jobs_known.mono _ _
      | exact jobs_member.mono _ _ _
      | exact jobs_state.mono _ _
      | exact jobs_within.mono _ _ _
      | exact LeO.none _
      | refine LeO.ite ?_ ?_
      | refine LeO.bind ?_ (fun _ => ?_)
set_option maxHeartbeats 8000000 in
set_option maxRecDepth 100000 in
theorem jobs_form.calls (k : Nat) (A0 : Option Addr) (c0 : Nat) (l0 : List (S35)) (a1 : Int) (r : Int) (w : World) (hr0 : Kd.C k35 w A0 l0.length l0) (hc0 : l0.length ≤ c0) (h : jobs_form.f k l0 a1 = some r) (hG : Gl w) :
    Calls Tryd.prog 47 #[.slice A0 l0.length c0, .int .i64 a1] w fun e w' => e = .returned (.int .i64 r) ∧ Below w.heap.size w w' := by
  have HG := Aside0.mk hG
  clear hG
  have hu35 := Tryd.underlying35
  have HR0 := Aside0.mk hr0
  have HC0 := Aside0.mk hc0
  clear hr0 hc0
  have HB := Aside0.mk (Below.refl w.heap.size w)
  have H : (if 0 ≤ a1 then (if a1 < (l0.length : Int) then (if ((rd_T35 l0 a1).f0) < 1 then (jobs_form.j0 k l0 a1 true ((rd_T35 l0 a1).f0) ((rd_T35 l0 a1).f1) ((rd_T35 l0 a1).f2) ((rd_T35 l0 a1).f3) ((rd_T35 l0 a1).f4) ((rd_T35 l0 a1).f5) ((rd_T35 l0 a1).f6)) else (if ((rd_T35 l0 a1).f0) > 32 then (jobs_form.j0 k l0 a1 true ((rd_T35 l0 a1).f0) ((rd_T35 l0 a1).f1) ((rd_T35 l0 a1).f2) ((rd_T35 l0 a1).f3) ((rd_T35 l0 a1).f4) ((rd_T35 l0 a1).f5) ((rd_T35 l0 a1).f6)) else (if ((rd_T35 l0 a1).f1) < 1 then (jobs_form.j0 k l0 a1 true ((rd_T35 l0 a1).f0) ((rd_T35 l0 a1).f1) ((rd_T35 l0 a1).f2) ((rd_T35 l0 a1).f3) ((rd_T35 l0 a1).f4) ((rd_T35 l0 a1).f5) ((rd_T35 l0 a1).f6)) else (if ((rd_T35 l0 a1).f1) > 2147483647 then (jobs_form.j0 k l0 a1 true ((rd_T35 l0 a1).f0) ((rd_T35 l0 a1).f1) ((rd_T35 l0 a1).f2) ((rd_T35 l0 a1).f3) ((rd_T35 l0 a1).f4) ((rd_T35 l0 a1).f5) ((rd_T35 l0 a1).f6)) else (if (((rd_T35 l0 a1).f3).length : Int) = 0 then (jobs_form.j0 k l0 a1 true ((rd_T35 l0 a1).f0) ((rd_T35 l0 a1).f1) ((rd_T35 l0 a1).f2) ((rd_T35 l0 a1).f3) ((rd_T35 l0 a1).f4) ((rd_T35 l0 a1).f5) ((rd_T35 l0 a1).f6)) else (jobs_form.j0 k l0 a1 ((((rd_T35 l0 a1).f4).length : Int) != (((rd_T35 l0 a1).f3).length : Int)) ((rd_T35 l0 a1).f0) ((rd_T35 l0 a1).f1) ((rd_T35 l0 a1).f2) ((rd_T35 l0 a1).f3) ((rd_T35 l0 a1).f4) ((rd_T35 l0 a1).f5) ((rd_T35 l0 a1).f6))))))) else (none)) else (none)) = some r := h
  clear h
  by_cases c3 : 0 ≤ a1
  rotate_left
  · rw [if_neg c3] at H
    exact absurd H (by simp)

  rw [if_pos c3] at H
  have c3b0 : decide (0 ≤ a1) = true := decide_eq_true c3
  clear c3
  by_cases c4 : a1 < (l0.length : Int)
  rotate_left
  · rw [if_neg c4] at H
    exact absurd H (by simp)
  rw [if_pos c4] at H
  have c4b0 : decide (a1 < (l0.length : Int)) = true := decide_eq_true c4
  clear c4
  have HC5 := Aside0.mk H
  clear H
  have p165 : 0 ≤ (a1 : Int) := of_decide_eq_true (by with_reducible assumption)
  have q165 : a1 < (l0.length : Int) := of_decide_eq_true (by with_reducible assumption)
  obtain ⟨ad165, A165_3, c165_3, A165_4, c165_4, e165, hx165_0, hx165_1, hx165_2, hx165_3, hx165_4, hx165_5, hx165_6, hl165_3, hi165_3, hl165_4, hi165_4⟩ := at_T35 HR0.out a1 p165 q165
  cases e165
  have HR165_3 := Aside0.mk hi165_3
  have HC165_3 := Aside0.mk hl165_3
  clear hi165_3 hl165_3
  have HR165_4 := Aside0.mk hi165_4
  have HC165_4 := Aside0.mk hl165_4
  clear hi165_4 hl165_4
  replace p165 := eq_true p165
  replace q165 := eq_true q165
  go_enter Tryd.func47, Tryd.ntmps47
  go_upto_region 2 with (first | ((with_reducible refine gate_dst (N := 5) rfl ?_); (try (refine gate_guard (by rfl) ?_; dsimp only)); refine box_event ?hg (N := 5) ?hd (cs := #[.int .i64 0, .int .i64 0, .int .i64 0, .slice none 0 0, .slice none 0 0, .string (⟨#[]⟩ : ByteArray), .bool false]) (t := 35) ?hr ?_; (case hd => rfl); (case hg => rfl); (case hr => first | (go_simp; done) | (go_simp; rfl)); intro gb166 hg w6 hbox hb; have n0_ := Aside0.mk (below_step (by repeat (first | (with_reducible first | exact HB.out | apply below_alloc | apply pw_below_drewN | apply below_drew1) | exact HB.out)) hb); have n1_ := Aside0.mk (hbox); have n2_ := Aside0.mk ((by rw [hg]; exact (below_size (by repeat (first | (with_reducible first | exact HB.out | apply below_alloc | apply pw_below_drewN | apply below_drew1) | exact HB.out))) : w.heap.size ≤ gb166)); have n3_ := n2_; clear HB; have HB := n0_; have BK166 := n1_; have GW166 := n2_; have GE166 := n3_; clear n0_ n1_ n2_ n3_; clear hb hbox hg; obtain ⟨hcz7_0, hcz7_1, hcz7_2, hcz7_3, hcz7_4, hcz7_5, hcz7_6, hfz7_0, hfz7_1, hfz7_2, hfz7_3, hfz7_4, hfz7_5, hfz7_6⟩ := cells7 BK166.out))
  repeat (go_quiet (first | ((with_reducible refine gate_dst (N := 5) rfl ?_); (try (refine gate_guard (by rfl) ?_; dsimp only)); refine box_event ?hg (N := 5) ?hd (cs := #[.int .i64 0, .int .i64 0, .int .i64 0, .slice none 0 0, .slice none 0 0, .string (⟨#[]⟩ : ByteArray), .bool false]) (t := 35) ?hr ?_; (case hd => rfl); (case hg => rfl); (case hr => first | (go_simp; done) | (go_simp; rfl)); intro gb166 hg w6 hbox hb; have n0_ := Aside0.mk (below_step (by repeat (first | (with_reducible first | exact HB.out | apply below_alloc | apply pw_below_drewN | apply below_drew1) | exact HB.out)) hb); have n1_ := Aside0.mk (hbox); have n2_ := Aside0.mk ((by rw [hg]; exact (below_size (by repeat (first | (with_reducible first | exact HB.out | apply below_alloc | apply pw_below_drewN | apply below_drew1) | exact HB.out))) : w.heap.size ≤ gb166)); have n3_ := n2_; clear HB; have HB := n0_; have BK166 := n1_; have GW166 := n2_; have GE166 := n3_; clear n0_ n1_ n2_ n3_; clear hb hbox hg; obtain ⟨hcz7_0, hcz7_1, hcz7_2, hcz7_3, hcz7_4, hcz7_5, hcz7_6, hfz7_0, hfz7_1, hfz7_2, hfz7_3, hfz7_4, hfz7_5, hfz7_6⟩ := cells7 BK166.out)); go_upto_region 2 with (first | ((with_reducible refine gate_dst (N := 5) rfl ?_); (try (refine gate_guard (by rfl) ?_; dsimp only)); refine box_event ?hg (N := 5) ?hd (cs := #[.int .i64 0, .int .i64 0, .int .i64 0, .slice none 0 0, .slice none 0 0, .string (⟨#[]⟩ : ByteArray), .bool false]) (t := 35) ?hr ?_; (case hd => rfl); (case hg => rfl); (case hr => first | (go_simp; done) | (go_simp; rfl)); intro gb166 hg w6 hbox hb; have n0_ := Aside0.mk (below_step (by repeat (first | (with_reducible first | exact HB.out | apply below_alloc | apply pw_below_drewN | apply below_drew1) | exact HB.out)) hb); have n1_ := Aside0.mk (hbox); have n2_ := Aside0.mk ((by rw [hg]; exact (below_size (by repeat (first | (with_reducible first | exact HB.out | apply below_alloc | apply pw_below_drewN | apply below_drew1) | exact HB.out))) : w.heap.size ≤ gb166)); have n3_ := n2_; clear HB; have HB := n0_; have BK166 := n1_; have GW166 := n2_; have GE166 := n3_; clear n0_ n1_ n2_ n3_; clear hb hbox hg; obtain ⟨hcz7_0, hcz7_1, hcz7_2, hcz7_3, hcz7_4, hcz7_5, hcz7_6, hfz7_0, hfz7_1, hfz7_2, hfz7_3, hfz7_4, hfz7_5, hfz7_6⟩ := cells7 BK166.out)))
  (try simp only [Act.put, List.setIfInBounds_toArray, List.set_cons_zero, List.set_cons_succ])
  go_cut [47] (fun v47 wc => ∃ (kq : Nat) (x47_4 : Bool), v47 = .bool x47_4 ∧ Aside0 (jobs_form.j0 kq l0 a1 x47_4 ((rd_T35 l0 a1).f0) ((rd_T35 l0 a1).f1) ((rd_T35 l0 a1).f2) ((rd_T35 l0 a1).f3) ((rd_T35 l0 a1).f4) ((rd_T35 l0 a1).f5) ((rd_T35 l0 a1).f6) = some r) ∧ Aside0 (kq ≤ k) ∧ Aside0 (wc.heap[gb166]? = some (.cells #[.int .i64 ((rd_T35 l0 a1).f0), .int .i64 ((rd_T35 l0 a1).f1), .int .i64 ((rd_T35 l0 a1).f2), (.slice A165_3 ((rd_T35 l0 a1).f3).length c165_3), (.slice A165_4 ((rd_T35 l0 a1).f4).length c165_4), .string ((rd_T35 l0 a1).f5), .bool ((rd_T35 l0 a1).f6)] 35 (0, 0))) ∧ Aside0 (Below w.heap.size w wc))
  case first =>
    have H := HC5.out
    clear HC5
    by_cases c8 : ((rd_T35 l0 a1).f0) < 1
    · rw [if_pos c8] at H
      have c8b0 : decide (((rd_T35 l0 a1).f0) < 1) = true := decide_eq_true c8
      clear c8
      (first | rw [c8b0] | (simp only [i64_w, i32_w]; rw [c8b0]) | skip)
      have H' := Aside0.mk H
      clear H
      obtain ⟨hcz9_0, hcz9_1, hcz9_2, hcz9_3, hcz9_4, hcz9_5, hcz9_6, hfz9_0, hfz9_1, hfz9_2, hfz9_3, hfz9_4, hfz9_5, hfz9_6⟩ := cells7 BK166.out
      go_wp2
      repeat (go_quiet (fail); try go_wp2)
      go_meet
      case rel => exact ⟨_, (true), (by first | rfl | (simp; done) | (simp [*]; done)), H', ⟨by first | omega | exact Nat.le_refl _⟩, ⟨by (with_reducible repeat (first | refine blk_drewN ?_ _ | refine blk_drew ?_ | refine blk_alloc ?_ _)); refine blk_put (cs := #[.int .i64 ((rd_T35 l0 a1).f0), .int .i64 ((rd_T35 l0 a1).f1), .int .i64 ((rd_T35 l0 a1).f2), .slice A165_3 ((rd_T35 l0 a1).f3).length c165_3, .slice A165_4 ((rd_T35 l0 a1).f4).length c165_4, .string ((rd_T35 l0 a1).f5), .bool false]) ?_ 6 _ rfl; (with_reducible repeat (first | refine blk_drewN ?_ _ | refine blk_drew ?_ | refine blk_alloc ?_ _)); refine blk_put (cs := #[.int .i64 ((rd_T35 l0 a1).f0), .int .i64 ((rd_T35 l0 a1).f1), .int .i64 ((rd_T35 l0 a1).f2), .slice A165_3 ((rd_T35 l0 a1).f3).length c165_3, .slice A165_4 ((rd_T35 l0 a1).f4).length c165_4, .string (⟨#[]⟩ : ByteArray), .bool false]) ?_ 5 _ rfl; (with_reducible repeat (first | refine blk_drewN ?_ _ | refine blk_drew ?_ | refine blk_alloc ?_ _)); refine blk_put (cs := #[.int .i64 ((rd_T35 l0 a1).f0), .int .i64 ((rd_T35 l0 a1).f1), .int .i64 ((rd_T35 l0 a1).f2), .slice A165_3 ((rd_T35 l0 a1).f3).length c165_3, .slice none 0 0, .string (⟨#[]⟩ : ByteArray), .bool false]) ?_ 4 _ rfl; (with_reducible repeat (first | refine blk_drewN ?_ _ | refine blk_drew ?_ | refine blk_alloc ?_ _)); refine blk_put (cs := #[.int .i64 ((rd_T35 l0 a1).f0), .int .i64 ((rd_T35 l0 a1).f1), .int .i64 ((rd_T35 l0 a1).f2), .slice none 0 0, .slice none 0 0, .string (⟨#[]⟩ : ByteArray), .bool false]) ?_ 3 _ rfl; (with_reducible repeat (first | refine blk_drewN ?_ _ | refine blk_drew ?_ | refine blk_alloc ?_ _)); refine blk_put (cs := #[.int .i64 ((rd_T35 l0 a1).f0), .int .i64 ((rd_T35 l0 a1).f1), .int .i64 0, .slice none 0 0, .slice none 0 0, .string (⟨#[]⟩ : ByteArray), .bool false]) ?_ 2 _ rfl; (with_reducible repeat (first | refine blk_drewN ?_ _ | refine blk_drew ?_ | refine blk_alloc ?_ _)); refine blk_put (cs := #[.int .i64 ((rd_T35 l0 a1).f0), .int .i64 0, .int .i64 0, .slice none 0 0, .slice none 0 0, .string (⟨#[]⟩ : ByteArray), .bool false]) ?_ 1 _ rfl; (with_reducible repeat (first | refine blk_drewN ?_ _ | refine blk_drew ?_ | refine blk_alloc ?_ _)); refine blk_put (cs := #[.int .i64 0, .int .i64 0, .int .i64 0, .slice none 0 0, .slice none 0 0, .string (⟨#[]⟩ : ByteArray), .bool false]) ?_ 0 _ rfl; (with_reducible repeat (first | refine blk_drewN ?_ _ | refine blk_drew ?_ | refine blk_alloc ?_ _)); exact BK166.out⟩, ⟨by repeat (first | (with_reducible first | exact HB.out | apply below_alloc | apply pw_below_drewN | apply below_drew1 | refine below_set ?_ GE166.out) | exact HB.out)⟩⟩
    rw [if_neg c8] at H
    have c8b0 : decide (((rd_T35 l0 a1).f0) < 1) = false := decide_eq_false c8
    clear c8
    (first | rw [c8b0] | (simp only [i64_w, i32_w]; rw [c8b0]) | skip)
    by_cases c10 : ((rd_T35 l0 a1).f0) > 32
    · rw [if_pos c10] at H
      have c10b0 : decide (32 < ((rd_T35 l0 a1).f0)) = true := decide_eq_true c10
      clear c10
      have H' := Aside0.mk H
      clear H
      obtain ⟨hcz11_0, hcz11_1, hcz11_2, hcz11_3, hcz11_4, hcz11_5, hcz11_6, hfz11_0, hfz11_1, hfz11_2, hfz11_3, hfz11_4, hfz11_5, hfz11_6⟩ := cells7 BK166.out
      go_wp2
      repeat (go_quiet (fail); try go_wp2)
      go_meet
      case rel => exact ⟨_, (true), (by first | rfl | (simp; done) | (simp [*]; done)), H', ⟨by first | omega | exact Nat.le_refl _⟩, ⟨by (with_reducible repeat (first | refine blk_drewN ?_ _ | refine blk_drew ?_ | refine blk_alloc ?_ _)); refine blk_put (cs := #[.int .i64 ((rd_T35 l0 a1).f0), .int .i64 ((rd_T35 l0 a1).f1), .int .i64 ((rd_T35 l0 a1).f2), .slice A165_3 ((rd_T35 l0 a1).f3).length c165_3, .slice A165_4 ((rd_T35 l0 a1).f4).length c165_4, .string ((rd_T35 l0 a1).f5), .bool false]) ?_ 6 _ rfl; (with_reducible repeat (first | refine blk_drewN ?_ _ | refine blk_drew ?_ | refine blk_alloc ?_ _)); refine blk_put (cs := #[.int .i64 ((rd_T35 l0 a1).f0), .int .i64 ((rd_T35 l0 a1).f1), .int .i64 ((rd_T35 l0 a1).f2), .slice A165_3 ((rd_T35 l0 a1).f3).length c165_3, .slice A165_4 ((rd_T35 l0 a1).f4).length c165_4, .string (⟨#[]⟩ : ByteArray), .bool false]) ?_ 5 _ rfl; (with_reducible repeat (first | refine blk_drewN ?_ _ | refine blk_drew ?_ | refine blk_alloc ?_ _)); refine blk_put (cs := #[.int .i64 ((rd_T35 l0 a1).f0), .int .i64 ((rd_T35 l0 a1).f1), .int .i64 ((rd_T35 l0 a1).f2), .slice A165_3 ((rd_T35 l0 a1).f3).length c165_3, .slice none 0 0, .string (⟨#[]⟩ : ByteArray), .bool false]) ?_ 4 _ rfl; (with_reducible repeat (first | refine blk_drewN ?_ _ | refine blk_drew ?_ | refine blk_alloc ?_ _)); refine blk_put (cs := #[.int .i64 ((rd_T35 l0 a1).f0), .int .i64 ((rd_T35 l0 a1).f1), .int .i64 ((rd_T35 l0 a1).f2), .slice none 0 0, .slice none 0 0, .string (⟨#[]⟩ : ByteArray), .bool false]) ?_ 3 _ rfl; (with_reducible repeat (first | refine blk_drewN ?_ _ | refine blk_drew ?_ | refine blk_alloc ?_ _)); refine blk_put (cs := #[.int .i64 ((rd_T35 l0 a1).f0), .int .i64 ((rd_T35 l0 a1).f1), .int .i64 0, .slice none 0 0, .slice none 0 0, .string (⟨#[]⟩ : ByteArray), .bool false]) ?_ 2 _ rfl; (with_reducible repeat (first | refine blk_drewN ?_ _ | refine blk_drew ?_ | refine blk_alloc ?_ _)); refine blk_put (cs := #[.int .i64 ((rd_T35 l0 a1).f0), .int .i64 0, .int .i64 0, .slice none 0 0, .slice none 0 0, .string (⟨#[]⟩ : ByteArray), .bool false]) ?_ 1 _ rfl; (with_reducible repeat (first | refine blk_drewN ?_ _ | refine blk_drew ?_ | refine blk_alloc ?_ _)); refine blk_put (cs := #[.int .i64 0, .int .i64 0, .int .i64 0, .slice none 0 0, .slice none 0 0, .string (⟨#[]⟩ : ByteArray), .bool false]) ?_ 0 _ rfl; (with_reducible repeat (first | refine blk_drewN ?_ _ | refine blk_drew ?_ | refine blk_alloc ?_ _)); exact BK166.out⟩, ⟨by repeat (first | (with_reducible first | exact HB.out | apply below_alloc | apply pw_below_drewN | apply below_drew1 | refine below_set ?_ GE166.out) | exact HB.out)⟩⟩
    rw [if_neg c10] at H
    have c10b0 : decide (32 < ((rd_T35 l0 a1).f0)) = false := decide_eq_false c10
    clear c10
    by_cases c12 : ((rd_T35 l0 a1).f1) < 1
    · rw [if_pos c12] at H
      have c12b0 : decide (((rd_T35 l0 a1).f1) < 1) = true := decide_eq_true c12
      clear c12
      have H' := Aside0.mk H
      clear H
      obtain ⟨hcz13_0, hcz13_1, hcz13_2, hcz13_3, hcz13_4, hcz13_5, hcz13_6, hfz13_0, hfz13_1, hfz13_2, hfz13_3, hfz13_4, hfz13_5, hfz13_6⟩ := cells7 BK166.out
      go_wp2
      repeat (go_quiet (fail); try go_wp2)
      go_meet
      case rel => exact ⟨_, (true), (by first | rfl | (simp; done) | (simp [*]; done)), H', ⟨by first | omega | exact Nat.le_refl _⟩, ⟨by (with_reducible repeat (first | refine blk_drewN ?_ _ | refine blk_drew ?_ | refine blk_alloc ?_ _)); refine blk_put (cs := #[.int .i64 ((rd_T35 l0 a1).f0), .int .i64 ((rd_T35 l0 a1).f1), .int .i64 ((rd_T35 l0 a1).f2), .slice A165_3 ((rd_T35 l0 a1).f3).length c165_3, .slice A165_4 ((rd_T35 l0 a1).f4).length c165_4, .string ((rd_T35 l0 a1).f5), .bool false]) ?_ 6 _ rfl; (with_reducible repeat (first | refine blk_drewN ?_ _ | refine blk_drew ?_ | refine blk_alloc ?_ _)); refine blk_put (cs := #[.int .i64 ((rd_T35 l0 a1).f0), .int .i64 ((rd_T35 l0 a1).f1), .int .i64 ((rd_T35 l0 a1).f2), .slice A165_3 ((rd_T35 l0 a1).f3).length c165_3, .slice A165_4 ((rd_T35 l0 a1).f4).length c165_4, .string (⟨#[]⟩ : ByteArray), .bool false]) ?_ 5 _ rfl; (with_reducible repeat (first | refine blk_drewN ?_ _ | refine blk_drew ?_ | refine blk_alloc ?_ _)); refine blk_put (cs := #[.int .i64 ((rd_T35 l0 a1).f0), .int .i64 ((rd_T35 l0 a1).f1), .int .i64 ((rd_T35 l0 a1).f2), .slice A165_3 ((rd_T35 l0 a1).f3).length c165_3, .slice none 0 0, .string (⟨#[]⟩ : ByteArray), .bool false]) ?_ 4 _ rfl; (with_reducible repeat (first | refine blk_drewN ?_ _ | refine blk_drew ?_ | refine blk_alloc ?_ _)); refine blk_put (cs := #[.int .i64 ((rd_T35 l0 a1).f0), .int .i64 ((rd_T35 l0 a1).f1), .int .i64 ((rd_T35 l0 a1).f2), .slice none 0 0, .slice none 0 0, .string (⟨#[]⟩ : ByteArray), .bool false]) ?_ 3 _ rfl; (with_reducible repeat (first | refine blk_drewN ?_ _ | refine blk_drew ?_ | refine blk_alloc ?_ _)); refine blk_put (cs := #[.int .i64 ((rd_T35 l0 a1).f0), .int .i64 ((rd_T35 l0 a1).f1), .int .i64 0, .slice none 0 0, .slice none 0 0, .string (⟨#[]⟩ : ByteArray), .bool false]) ?_ 2 _ rfl; (with_reducible repeat (first | refine blk_drewN ?_ _ | refine blk_drew ?_ | refine blk_alloc ?_ _)); refine blk_put (cs := #[.int .i64 ((rd_T35 l0 a1).f0), .int .i64 0, .int .i64 0, .slice none 0 0, .slice none 0 0, .string (⟨#[]⟩ : ByteArray), .bool false]) ?_ 1 _ rfl; (with_reducible repeat (first | refine blk_drewN ?_ _ | refine blk_drew ?_ | refine blk_alloc ?_ _)); refine blk_put (cs := #[.int .i64 0, .int .i64 0, .int .i64 0, .slice none 0 0, .slice none 0 0, .string (⟨#[]⟩ : ByteArray), .bool false]) ?_ 0 _ rfl; (with_reducible repeat (first | refine blk_drewN ?_ _ | refine blk_drew ?_ | refine blk_alloc ?_ _)); exact BK166.out⟩, ⟨by repeat (first | (with_reducible first | exact HB.out | apply below_alloc | apply pw_below_drewN | apply below_drew1 | refine below_set ?_ GE166.out) | exact HB.out)⟩⟩
    rw [if_neg c12] at H
    have c12b0 : decide (((rd_T35 l0 a1).f1) < 1) = false := decide_eq_false c12
    clear c12
    by_cases c14 : ((rd_T35 l0 a1).f1) > 2147483647
    · rw [if_pos c14] at H
      have c14b0 : decide (2147483647 < ((rd_T35 l0 a1).f1)) = true := decide_eq_true c14
      clear c14
      have H' := Aside0.mk H
      clear H
      obtain ⟨hcz15_0, hcz15_1, hcz15_2, hcz15_3, hcz15_4, hcz15_5, hcz15_6, hfz15_0, hfz15_1, hfz15_2, hfz15_3, hfz15_4, hfz15_5, hfz15_6⟩ := cells7 BK166.out
      go_wp2
      repeat (go_quiet (fail); try go_wp2)
      go_meet
      case rel => exact ⟨_, (true), (by first | rfl | (simp; done) | (simp [*]; done)), H', ⟨by first | omega | exact Nat.le_refl _⟩, ⟨by (with_reducible repeat (first | refine blk_drewN ?_ _ | refine blk_drew ?_ | refine blk_alloc ?_ _)); refine blk_put (cs := #[.int .i64 ((rd_T35 l0 a1).f0), .int .i64 ((rd_T35 l0 a1).f1), .int .i64 ((rd_T35 l0 a1).f2), .slice A165_3 ((rd_T35 l0 a1).f3).length c165_3, .slice A165_4 ((rd_T35 l0 a1).f4).length c165_4, .string ((rd_T35 l0 a1).f5), .bool false]) ?_ 6 _ rfl; (with_reducible repeat (first | refine blk_drewN ?_ _ | refine blk_drew ?_ | refine blk_alloc ?_ _)); refine blk_put (cs := #[.int .i64 ((rd_T35 l0 a1).f0), .int .i64 ((rd_T35 l0 a1).f1), .int .i64 ((rd_T35 l0 a1).f2), .slice A165_3 ((rd_T35 l0 a1).f3).length c165_3, .slice A165_4 ((rd_T35 l0 a1).f4).length c165_4, .string (⟨#[]⟩ : ByteArray), .bool false]) ?_ 5 _ rfl; (with_reducible repeat (first | refine blk_drewN ?_ _ | refine blk_drew ?_ | refine blk_alloc ?_ _)); refine blk_put (cs := #[.int .i64 ((rd_T35 l0 a1).f0), .int .i64 ((rd_T35 l0 a1).f1), .int .i64 ((rd_T35 l0 a1).f2), .slice A165_3 ((rd_T35 l0 a1).f3).length c165_3, .slice none 0 0, .string (⟨#[]⟩ : ByteArray), .bool false]) ?_ 4 _ rfl; (with_reducible repeat (first | refine blk_drewN ?_ _ | refine blk_drew ?_ | refine blk_alloc ?_ _)); refine blk_put (cs := #[.int .i64 ((rd_T35 l0 a1).f0), .int .i64 ((rd_T35 l0 a1).f1), .int .i64 ((rd_T35 l0 a1).f2), .slice none 0 0, .slice none 0 0, .string (⟨#[]⟩ : ByteArray), .bool false]) ?_ 3 _ rfl; (with_reducible repeat (first | refine blk_drewN ?_ _ | refine blk_drew ?_ | refine blk_alloc ?_ _)); refine blk_put (cs := #[.int .i64 ((rd_T35 l0 a1).f0), .int .i64 ((rd_T35 l0 a1).f1), .int .i64 0, .slice none 0 0, .slice none 0 0, .string (⟨#[]⟩ : ByteArray), .bool false]) ?_ 2 _ rfl; (with_reducible repeat (first | refine blk_drewN ?_ _ | refine blk_drew ?_ | refine blk_alloc ?_ _)); refine blk_put (cs := #[.int .i64 ((rd_T35 l0 a1).f0), .int .i64 0, .int .i64 0, .slice none 0 0, .slice none 0 0, .string (⟨#[]⟩ : ByteArray), .bool false]) ?_ 1 _ rfl; (with_reducible repeat (first | refine blk_drewN ?_ _ | refine blk_drew ?_ | refine blk_alloc ?_ _)); refine blk_put (cs := #[.int .i64 0, .int .i64 0, .int .i64 0, .slice none 0 0, .slice none 0 0, .string (⟨#[]⟩ : ByteArray), .bool false]) ?_ 0 _ rfl; (with_reducible repeat (first | refine blk_drewN ?_ _ | refine blk_drew ?_ | refine blk_alloc ?_ _)); exact BK166.out⟩, ⟨by repeat (first | (with_reducible first | exact HB.out | apply below_alloc | apply pw_below_drewN | apply below_drew1 | refine below_set ?_ GE166.out) | exact HB.out)⟩⟩
    rw [if_neg c14] at H
    have c14b0 : decide (2147483647 < ((rd_T35 l0 a1).f1)) = false := decide_eq_false c14
    clear c14
    by_cases c16 : (((rd_T35 l0 a1).f3).length : Int) = 0
    rotate_left
    · rw [if_neg c16] at H
      have c16b0 : ((((rd_T35 l0 a1).f3).length : Int) == 0) = false := beq_eq_false_iff_ne.mpr c16
      have c16b1 : ((((rd_T35 l0 a1).f3).length : Int) != 0) = true := bne_iff_ne.mpr c16
      have c16b2 : ¬ (((rd_T35 l0 a1).f3) = []) := fun h_ => c16 (by rw [h_]; rfl)
      have H' := Aside0.mk H
      clear H
      obtain ⟨hcz18_0, hcz18_1, hcz18_2, hcz18_3, hcz18_4, hcz18_5, hcz18_6, hfz18_0, hfz18_1, hfz18_2, hfz18_3, hfz18_4, hfz18_5, hfz18_6⟩ := cells7 BK166.out
      go_wp2
      repeat (go_quiet (fail); try go_wp2)
      go_meet
      case rel => exact ⟨_, (((((rd_T35 l0 a1).f4).length : Int) != (((rd_T35 l0 a1).f3).length : Int))), (by first | rfl | (simp; done) | (simp [*]; done)), H', ⟨by first | omega | exact Nat.le_refl _⟩, ⟨by (with_reducible repeat (first | refine blk_drewN ?_ _ | refine blk_drew ?_ | refine blk_alloc ?_ _)); refine blk_put (cs := #[.int .i64 ((rd_T35 l0 a1).f0), .int .i64 ((rd_T35 l0 a1).f1), .int .i64 ((rd_T35 l0 a1).f2), .slice A165_3 ((rd_T35 l0 a1).f3).length c165_3, .slice A165_4 ((rd_T35 l0 a1).f4).length c165_4, .string ((rd_T35 l0 a1).f5), .bool false]) ?_ 6 _ rfl; (with_reducible repeat (first | refine blk_drewN ?_ _ | refine blk_drew ?_ | refine blk_alloc ?_ _)); refine blk_put (cs := #[.int .i64 ((rd_T35 l0 a1).f0), .int .i64 ((rd_T35 l0 a1).f1), .int .i64 ((rd_T35 l0 a1).f2), .slice A165_3 ((rd_T35 l0 a1).f3).length c165_3, .slice A165_4 ((rd_T35 l0 a1).f4).length c165_4, .string (⟨#[]⟩ : ByteArray), .bool false]) ?_ 5 _ rfl; (with_reducible repeat (first | refine blk_drewN ?_ _ | refine blk_drew ?_ | refine blk_alloc ?_ _)); refine blk_put (cs := #[.int .i64 ((rd_T35 l0 a1).f0), .int .i64 ((rd_T35 l0 a1).f1), .int .i64 ((rd_T35 l0 a1).f2), .slice A165_3 ((rd_T35 l0 a1).f3).length c165_3, .slice none 0 0, .string (⟨#[]⟩ : ByteArray), .bool false]) ?_ 4 _ rfl; (with_reducible repeat (first | refine blk_drewN ?_ _ | refine blk_drew ?_ | refine blk_alloc ?_ _)); refine blk_put (cs := #[.int .i64 ((rd_T35 l0 a1).f0), .int .i64 ((rd_T35 l0 a1).f1), .int .i64 ((rd_T35 l0 a1).f2), .slice none 0 0, .slice none 0 0, .string (⟨#[]⟩ : ByteArray), .bool false]) ?_ 3 _ rfl; (with_reducible repeat (first | refine blk_drewN ?_ _ | refine blk_drew ?_ | refine blk_alloc ?_ _)); refine blk_put (cs := #[.int .i64 ((rd_T35 l0 a1).f0), .int .i64 ((rd_T35 l0 a1).f1), .int .i64 0, .slice none 0 0, .slice none 0 0, .string (⟨#[]⟩ : ByteArray), .bool false]) ?_ 2 _ rfl; (with_reducible repeat (first | refine blk_drewN ?_ _ | refine blk_drew ?_ | refine blk_alloc ?_ _)); refine blk_put (cs := #[.int .i64 ((rd_T35 l0 a1).f0), .int .i64 0, .int .i64 0, .slice none 0 0, .slice none 0 0, .string (⟨#[]⟩ : ByteArray), .bool false]) ?_ 1 _ rfl; (with_reducible repeat (first | refine blk_drewN ?_ _ | refine blk_drew ?_ | refine blk_alloc ?_ _)); refine blk_put (cs := #[.int .i64 0, .int .i64 0, .int .i64 0, .slice none 0 0, .slice none 0 0, .string (⟨#[]⟩ : ByteArray), .bool false]) ?_ 0 _ rfl; (with_reducible repeat (first | refine blk_drewN ?_ _ | refine blk_drew ?_ | refine blk_alloc ?_ _)); exact BK166.out⟩, ⟨by repeat (first | (with_reducible first | exact HB.out | apply below_alloc | apply pw_below_drewN | apply below_drew1 | refine below_set ?_ GE166.out) | exact HB.out)⟩⟩
    rw [if_pos c16] at H
    have c16b0 : ((((rd_T35 l0 a1).f3).length : Int) == 0) = true := beq_iff_eq.mpr c16
    have c16b1 : ((((rd_T35 l0 a1).f3).length : Int) != 0) = false := bne_eq_false_iff_eq.mpr c16
    clear c16
    have H' := Aside0.mk H
    clear H
    obtain ⟨hcz17_0, hcz17_1, hcz17_2, hcz17_3, hcz17_4, hcz17_5, hcz17_6, hfz17_0, hfz17_1, hfz17_2, hfz17_3, hfz17_4, hfz17_5, hfz17_6⟩ := cells7 BK166.out
    go_wp2
    repeat (go_quiet (fail); try go_wp2)
    go_meet
    case rel => exact ⟨_, (true), (by first | rfl | (simp; done) | (simp [*]; done)), H', ⟨by first | omega | exact Nat.le_refl _⟩, ⟨by (with_reducible repeat (first | refine blk_drewN ?_ _ | refine blk_drew ?_ | refine blk_alloc ?_ _)); refine blk_put (cs := #[.int .i64 ((rd_T35 l0 a1).f0), .int .i64 ((rd_T35 l0 a1).f1), .int .i64 ((rd_T35 l0 a1).f2), .slice A165_3 ((rd_T35 l0 a1).f3).length c165_3, .slice A165_4 ((rd_T35 l0 a1).f4).length c165_4, .string ((rd_T35 l0 a1).f5), .bool false]) ?_ 6 _ rfl; (with_reducible repeat (first | refine blk_drewN ?_ _ | refine blk_drew ?_ | refine blk_alloc ?_ _)); refine blk_put (cs := #[.int .i64 ((rd_T35 l0 a1).f0), .int .i64 ((rd_T35 l0 a1).f1), .int .i64 ((rd_T35 l0 a1).f2), .slice A165_3 ((rd_T35 l0 a1).f3).length c165_3, .slice A165_4 ((rd_T35 l0 a1).f4).length c165_4, .string (⟨#[]⟩ : ByteArray), .bool false]) ?_ 5 _ rfl; (with_reducible repeat (first | refine blk_drewN ?_ _ | refine blk_drew ?_ | refine blk_alloc ?_ _)); refine blk_put (cs := #[.int .i64 ((rd_T35 l0 a1).f0), .int .i64 ((rd_T35 l0 a1).f1), .int .i64 ((rd_T35 l0 a1).f2), .slice A165_3 ((rd_T35 l0 a1).f3).length c165_3, .slice none 0 0, .string (⟨#[]⟩ : ByteArray), .bool false]) ?_ 4 _ rfl; (with_reducible repeat (first | refine blk_drewN ?_ _ | refine blk_drew ?_ | refine blk_alloc ?_ _)); refine blk_put (cs := #[.int .i64 ((rd_T35 l0 a1).f0), .int .i64 ((rd_T35 l0 a1).f1), .int .i64 ((rd_T35 l0 a1).f2), .slice none 0 0, .slice none 0 0, .string (⟨#[]⟩ : ByteArray), .bool false]) ?_ 3 _ rfl; (with_reducible repeat (first | refine blk_drewN ?_ _ | refine blk_drew ?_ | refine blk_alloc ?_ _)); refine blk_put (cs := #[.int .i64 ((rd_T35 l0 a1).f0), .int .i64 ((rd_T35 l0 a1).f1), .int .i64 0, .slice none 0 0, .slice none 0 0, .string (⟨#[]⟩ : ByteArray), .bool false]) ?_ 2 _ rfl; (with_reducible repeat (first | refine blk_drewN ?_ _ | refine blk_drew ?_ | refine blk_alloc ?_ _)); refine blk_put (cs := #[.int .i64 ((rd_T35 l0 a1).f0), .int .i64 0, .int .i64 0, .slice none 0 0, .slice none 0 0, .string (⟨#[]⟩ : ByteArray), .bool false]) ?_ 1 _ rfl; (with_reducible repeat (first | refine blk_drewN ?_ _ | refine blk_drew ?_ | refine blk_alloc ?_ _)); refine blk_put (cs := #[.int .i64 0, .int .i64 0, .int .i64 0, .slice none 0 0, .slice none 0 0, .string (⟨#[]⟩ : ByteArray), .bool false]) ?_ 0 _ rfl; (with_reducible repeat (first | refine blk_drewN ?_ _ | refine blk_drew ?_ | refine blk_alloc ?_ _)); exact BK166.out⟩, ⟨by repeat (first | (with_reducible first | exact HB.out | apply below_alloc | apply pw_below_drewN | apply below_drew1 | refine below_set ?_ GE166.out) | exact HB.out)⟩⟩
  case rest =>
    clear HC5
    obtain ⟨kq, x47_4, rfl, HA, HJ4, BK166, HB⟩ := hcut
    cases kq with
    | zero => exact absurd HA.out (by simp [jobs_form.j0])
    | succ kj4 =>
      have H := HA.out
      clear HA
      simp only [jobs_form.j0] at H
      by_cases c19 : x47_4 = true
      · subst c19
        have H1 : (some 1) = some r := by rw [if_pos rfl] at H; exact H
        clear H
        have H := H1
        clear H1
        obtain rfl := Option.some.inj H
        go_wp2
        repeat (go_quiet (fail); try go_wp2)
        go_ret
        exact ⟨by first | rfl | (simp [*]; done), by repeat (first | (with_reducible first | exact HB.out | apply below_alloc | apply pw_below_drewN | apply below_drew1 | refine below_set ?_ GE166.out) | exact HB.out)⟩
      replace c19 := Bool.eq_false_iff.mpr c19
      subst c19
      have H1 : (if (((rd_T35 l0 a1).f5).size : Int) > 4096 then (some 3) else (jobs_form.l0 kj4 l0 a1 ((rd_T35 l0 a1).f3) (((rd_T35 l0 a1).f3).length : Int) 0 ((rd_T35 l0 a1).f0) ((rd_T35 l0 a1).f1) ((rd_T35 l0 a1).f2) ((rd_T35 l0 a1).f3) ((rd_T35 l0 a1).f4) ((rd_T35 l0 a1).f5) ((rd_T35 l0 a1).f6))) = some r := by rw [if_neg (show ¬ (false = true) by decide)] at H; exact H
      clear H
      have H := H1
      clear H1
      by_cases c20 : (((rd_T35 l0 a1).f5).size : Int) > 4096
      · rw [if_pos c20] at H
        have c20b0 : decide (4096 < (((rd_T35 l0 a1).f5).size : Int)) = true := decide_eq_true c20
        have c20b1 : decide (4096 < ((rd_T35 l0 a1).f5).size) = true := decide_eq_true (by omega)
        clear c20
        obtain rfl := Option.some.inj H
        obtain ⟨hcz21_0, hcz21_1, hcz21_2, hcz21_3, hcz21_4, hcz21_5, hcz21_6, hfz21_0, hfz21_1, hfz21_2, hfz21_3, hfz21_4, hfz21_5, hfz21_6⟩ := cells7 BK166.out
        go_wp2
        repeat (go_quiet (fail); try go_wp2)
        go_ret
        exact ⟨by first | rfl | (simp [*]; done), by repeat (first | (with_reducible first | exact HB.out | apply below_alloc | apply pw_below_drewN | apply below_drew1 | refine below_set ?_ GE166.out) | exact HB.out)⟩
      rw [if_neg c20] at H
      have c20b0 : decide (4096 < (((rd_T35 l0 a1).f5).size : Int)) = false := decide_eq_false c20
      have c20b1 : decide (4096 < ((rd_T35 l0 a1).f5).size) = false := decide_eq_false (by omega)
      clear c20
      have H' := Aside0.mk H
      clear H
      obtain ⟨hcz22_0, hcz22_1, hcz22_2, hcz22_3, hcz22_4, hcz22_5, hcz22_6, hfz22_0, hfz22_1, hfz22_2, hfz22_3, hfz22_4, hfz22_5, hfz22_6⟩ := cells7 BK166.out
      go_wp2
      repeat (go_quiet (fail); try go_wp2)
      go_loopg [55] kj4 (fun kq v55 w' => ∃ (x55_2 : Int), v55 = .int .i64 x55_2 ∧ Aside0 (jobs_form.l0 kq l0 a1 ((rd_T35 l0 a1).f3) (((rd_T35 l0 a1).f3).length : Int) x55_2 ((rd_T35 l0 a1).f0) ((rd_T35 l0 a1).f1) ((rd_T35 l0 a1).f2) ((rd_T35 l0 a1).f3) ((rd_T35 l0 a1).f4) ((rd_T35 l0 a1).f5) ((rd_T35 l0 a1).f6) = some r) ∧ Aside0 (kq ≤ kj4) ∧ Aside0 (w'.heap[gb166]? = some (.cells #[.int .i64 ((rd_T35 l0 a1).f0), .int .i64 ((rd_T35 l0 a1).f1), .int .i64 ((rd_T35 l0 a1).f2), (.slice A165_3 ((rd_T35 l0 a1).f3).length c165_3), (.slice A165_4 ((rd_T35 l0 a1).f4).length c165_4), .string ((rd_T35 l0 a1).f5), .bool ((rd_T35 l0 a1).f6)] 35 (0, 0))) ∧ Aside0 (Below w.heap.size w w'))
      case atStart => exact ⟨(0), (by first | rfl | (simp; done) | (simp [*]; done)), H', ⟨Nat.le_refl _⟩, ⟨by (with_reducible repeat (first | refine blk_drewN ?_ _ | refine blk_drew ?_ | refine blk_alloc ?_ _)); exact BK166.out⟩, ⟨by repeat (first | (with_reducible first | exact HB.out | apply below_alloc | apply pw_below_drewN | apply below_drew1 | refine below_set ?_ GE166.out) | exact HB.out)⟩⟩
      case round =>
        clear H'
        obtain ⟨x55_2, rfl, HA, HK2, BK166, HB⟩ := hrel
        cases gk with
        | zero => exact absurd HA.out (by simp [jobs_form.l0])
        | succ k2 =>
          have H := HA.out
          clear HA
          simp only [jobs_form.l0] at H
          by_cases c23 : x55_2 < (((rd_T35 l0 a1).f3).length : Int)
          · rw [if_pos c23] at H
            have c23b0 : decide (x55_2 < (((rd_T35 l0 a1).f3).length : Int)) = true := decide_eq_true c23
            clear c23
            by_cases c24 : 0 ≤ x55_2
            rotate_left
            · rw [if_neg c24] at H
              exact absurd H (by simp)
            rw [if_pos c24] at H
            have c24b0 : decide (0 ≤ x55_2) = true := decide_eq_true c24
            clear c24
            by_cases c25 : x55_2 < (((rd_T35 l0 a1).f3).length : Int)
            rotate_left
            · rw [if_neg c25] at H
              exact absurd H (by simp)
            rw [if_pos c25] at H
            have c25b0 : decide (x55_2 < (((rd_T35 l0 a1).f3).length : Int)) = true := decide_eq_true c25
            clear c25
            by_cases c26 : (rd ((rd_T35 l0 a1).f3) x55_2) < 1
            · rw [if_pos c26] at H
              have c26b0 : decide ((rd ((rd_T35 l0 a1).f3) x55_2) < 1) = true := decide_eq_true c26
              clear c26
              obtain rfl := Option.some.inj H
              have p167 : 0 ≤ (x55_2 : Int) := of_decide_eq_true (by with_reducible assumption)
              have q167 : x55_2 < (((rd_T35 l0 a1).f3).length : Int) := of_decide_eq_true (by with_reducible assumption)
              obtain ⟨ad167, e167, hx167_0⟩ := Kd.at_int HR165_3.out x55_2 p167 q167
              cases e167
              replace hx167_0 := (HB.out.cell (World.block_lt_of_cell? w _ hx167_0)).trans hx167_0
              replace p167 := eq_true p167
              replace q167 := eq_true q167
              go_wp2
              repeat (go_quiet (fail); try go_wp2)
              go_ret
              exact ⟨by first | rfl | (simp [*]; done), by repeat (first | (with_reducible first | exact HB.out | apply below_alloc | apply pw_below_drewN | apply below_drew1 | refine below_set ?_ GE166.out) | exact HB.out)⟩
            rw [if_neg c26] at H
            have c26b0 : decide ((rd ((rd_T35 l0 a1).f3) x55_2) < 1) = false := decide_eq_false c26
            clear c26
            by_cases c27 : (rd ((rd_T35 l0 a1).f3) x55_2) > 2147483647
            · rw [if_pos c27] at H
              have c27b0 : decide (2147483647 < (rd ((rd_T35 l0 a1).f3) x55_2)) = true := decide_eq_true c27
              clear c27
              obtain rfl := Option.some.inj H
              have p167 : 0 ≤ (x55_2 : Int) := of_decide_eq_true (by with_reducible assumption)
              have q167 : x55_2 < (((rd_T35 l0 a1).f3).length : Int) := of_decide_eq_true (by with_reducible assumption)
              obtain ⟨ad167, e167, hx167_0⟩ := Kd.at_int HR165_3.out x55_2 p167 q167
              cases e167
              replace hx167_0 := (HB.out.cell (World.block_lt_of_cell? w _ hx167_0)).trans hx167_0
              replace p167 := eq_true p167
              replace q167 := eq_true q167
              go_wp2
              repeat (go_quiet (fail); try go_wp2)
              go_ret
              exact ⟨by first | rfl | (simp [*]; done), by repeat (first | (with_reducible first | exact HB.out | apply below_alloc | apply pw_below_drewN | apply below_drew1 | refine below_set ?_ GE166.out) | exact HB.out)⟩
            rw [if_neg c27] at H
            have c27b0 : decide (2147483647 < (rd ((rd_T35 l0 a1).f3) x55_2)) = false := decide_eq_false c27
            clear c27
            by_cases c28 : x55_2 < (((rd_T35 l0 a1).f4).length : Int)
            rotate_left
            · rw [if_neg c28] at H
              exact absurd H (by simp)
            rw [if_pos c28] at H
            have c28b0 : decide (x55_2 < (((rd_T35 l0 a1).f4).length : Int)) = true := decide_eq_true c28
            clear c28
            replace H := Option.bind_eq_some_iff.mp H
            obtain ⟨t169, A290, H⟩ := H
            replace H : (if t169 = true then (jobs_form.l0 k2 l0 a1 ((rd_T35 l0 a1).f3) (((rd_T35 l0 a1).f3).length : Int) (wrap64 (x55_2 + 1)) ((rd_T35 l0 a1).f0) ((rd_T35 l0 a1).f1) ((rd_T35 l0 a1).f2) ((rd_T35 l0 a1).f3) ((rd_T35 l0 a1).f4) ((rd_T35 l0 a1).f5) ((rd_T35 l0 a1).f6)) else (some 1)) = some r := H
            have A29 := Aside0.mk A290
            clear A290
            by_cases c30 : t169 = true
            rotate_left
            · replace c30 := Bool.eq_false_iff.mpr c30
              subst c30
              have H1 : (some 1) = some r := by rw [if_neg (show ¬ (false = true) by decide)] at H; exact H
              clear H
              have H := H1
              clear H1
              obtain rfl := Option.some.inj H
              have p167 : 0 ≤ (x55_2 : Int) := of_decide_eq_true (by with_reducible assumption)
              have q167 : x55_2 < (((rd_T35 l0 a1).f3).length : Int) := of_decide_eq_true (by with_reducible assumption)
              obtain ⟨ad167, e167, hx167_0⟩ := Kd.at_int HR165_3.out x55_2 p167 q167
              cases e167
              replace hx167_0 := (HB.out.cell (World.block_lt_of_cell? w _ hx167_0)).trans hx167_0
              replace p167 := eq_true p167
              replace q167 := eq_true q167
              obtain ⟨hcz32_0, hcz32_1, hcz32_2, hcz32_3, hcz32_4, hcz32_5, hcz32_6, hfz32_0, hfz32_1, hfz32_2, hfz32_3, hfz32_4, hfz32_5, hfz32_6⟩ := cells7 BK166.out
              have p168 : 0 ≤ (x55_2 : Int) := of_decide_eq_true (by with_reducible assumption)
              have q168 : x55_2 < (((rd_T35 l0 a1).f4).length : Int) := of_decide_eq_true (by with_reducible assumption)
              obtain ⟨ad168, e168, hx168_0⟩ := Kd.at_int HR165_4.out x55_2 p168 q168
              cases e168
              replace hx168_0 := (HB.out.cell (World.block_lt_of_cell? w _ hx168_0)).trans hx168_0
              replace p168 := eq_true p168
              replace q168 := eq_true q168
              go_wp2_with (first | (go_at_call 61; (with_reducible refine (jobs_known.calls k2 (rd ((rd_T35 l0 a1).f4) x55_2) false _ A29.out ?sideG).mono ?_); (case sideG => first | (with_reducible exact HG.out) | (with_reducible exact HG.out.drewN _) | exact HG.out.below (by repeat (first | (with_reducible first | exact HB.out | apply below_alloc | apply pw_below_drewN | apply below_drew1 | refine below_set ?_ GE166.out) | exact HB.out)) | exact HG.out.below (by repeat (first | (with_reducible first | exact HB.out | apply below_alloc | apply pw_below_drewN | apply below_drew1) | exact HB.out))); rintro e w' ⟨rfl, ⟨nd, rfl⟩⟩; (try exact ⟨rfl, _, World.drewN_drewN _ _ _⟩)))
              repeat (go_quiet (first | (go_at_call 61; (with_reducible refine (jobs_known.calls k2 (rd ((rd_T35 l0 a1).f4) x55_2) false _ A29.out ?sideG).mono ?_); (case sideG => first | (with_reducible exact HG.out) | (with_reducible exact HG.out.drewN _) | exact HG.out.below (by repeat (first | (with_reducible first | exact HB.out | apply below_alloc | apply pw_below_drewN | apply below_drew1 | refine below_set ?_ GE166.out) | exact HB.out)) | exact HG.out.below (by repeat (first | (with_reducible first | exact HB.out | apply below_alloc | apply pw_below_drewN | apply below_drew1) | exact HB.out))); rintro e w' ⟨rfl, ⟨nd, rfl⟩⟩; (try exact ⟨rfl, _, World.drewN_drewN _ _ _⟩))); try go_wp2_with (first | (go_at_call 61; (with_reducible refine (jobs_known.calls k2 (rd ((rd_T35 l0 a1).f4) x55_2) false _ A29.out ?sideG).mono ?_); (case sideG => first | (with_reducible exact HG.out) | (with_reducible exact HG.out.drewN _) | exact HG.out.below (by repeat (first | (with_reducible first | exact HB.out | apply below_alloc | apply pw_below_drewN | apply below_drew1 | refine below_set ?_ GE166.out) | exact HB.out)) | exact HG.out.below (by repeat (first | (with_reducible first | exact HB.out | apply below_alloc | apply pw_below_drewN | apply below_drew1) | exact HB.out))); rintro e w' ⟨rfl, ⟨nd, rfl⟩⟩; (try exact ⟨rfl, _, World.drewN_drewN _ _ _⟩))))
              go_ret
              exact ⟨by first | rfl | (simp [*]; done), by repeat (first | (with_reducible first | exact HB.out | apply below_alloc | apply pw_below_drewN | apply below_drew1 | refine below_set ?_ GE166.out) | exact HB.out)⟩
            subst c30
            have H1 : (jobs_form.l0 k2 l0 a1 ((rd_T35 l0 a1).f3) (((rd_T35 l0 a1).f3).length : Int) (wrap64 (x55_2 + 1)) ((rd_T35 l0 a1).f0) ((rd_T35 l0 a1).f1) ((rd_T35 l0 a1).f2) ((rd_T35 l0 a1).f3) ((rd_T35 l0 a1).f4) ((rd_T35 l0 a1).f5) ((rd_T35 l0 a1).f6)) = some r := by rw [if_pos rfl] at H; exact H
            clear H
            have H := H1
            clear H1
            have H' := Aside0.mk H
            clear H
            have p167 : 0 ≤ (x55_2 : Int) := of_decide_eq_true (by with_reducible assumption)
            have q167 : x55_2 < (((rd_T35 l0 a1).f3).length : Int) := of_decide_eq_true (by with_reducible assumption)
            obtain ⟨ad167, e167, hx167_0⟩ := Kd.at_int HR165_3.out x55_2 p167 q167
            cases e167
            replace hx167_0 := (HB.out.cell (World.block_lt_of_cell? w _ hx167_0)).trans hx167_0
            replace p167 := eq_true p167
            replace q167 := eq_true q167
            obtain ⟨hcz31_0, hcz31_1, hcz31_2, hcz31_3, hcz31_4, hcz31_5, hcz31_6, hfz31_0, hfz31_1, hfz31_2, hfz31_3, hfz31_4, hfz31_5, hfz31_6⟩ := cells7 BK166.out
            have p168 : 0 ≤ (x55_2 : Int) := of_decide_eq_true (by with_reducible assumption)
            have q168 : x55_2 < (((rd_T35 l0 a1).f4).length : Int) := of_decide_eq_true (by with_reducible assumption)
            obtain ⟨ad168, e168, hx168_0⟩ := Kd.at_int HR165_4.out x55_2 p168 q168
            cases e168
            replace hx168_0 := (HB.out.cell (World.block_lt_of_cell? w _ hx168_0)).trans hx168_0
            replace p168 := eq_true p168
            replace q168 := eq_true q168
            go_wp2_with (first | (go_at_call 61; (with_reducible refine (jobs_known.calls k2 (rd ((rd_T35 l0 a1).f4) x55_2) true _ A29.out ?sideG).mono ?_); (case sideG => first | (with_reducible exact HG.out) | (with_reducible exact HG.out.drewN _) | exact HG.out.below (by repeat (first | (with_reducible first | exact HB.out | apply below_alloc | apply pw_below_drewN | apply below_drew1 | refine below_set ?_ GE166.out) | exact HB.out)) | exact HG.out.below (by repeat (first | (with_reducible first | exact HB.out | apply below_alloc | apply pw_below_drewN | apply below_drew1) | exact HB.out))); rintro e w' ⟨rfl, ⟨nd, rfl⟩⟩; (try exact ⟨rfl, _, World.drewN_drewN _ _ _⟩)))
            repeat (go_quiet (first | (go_at_call 61; (with_reducible refine (jobs_known.calls k2 (rd ((rd_T35 l0 a1).f4) x55_2) true _ A29.out ?sideG).mono ?_); (case sideG => first | (with_reducible exact HG.out) | (with_reducible exact HG.out.drewN _) | exact HG.out.below (by repeat (first | (with_reducible first | exact HB.out | apply below_alloc | apply pw_below_drewN | apply below_drew1 | refine below_set ?_ GE166.out) | exact HB.out)) | exact HG.out.below (by repeat (first | (with_reducible first | exact HB.out | apply below_alloc | apply pw_below_drewN | apply below_drew1) | exact HB.out))); rintro e w' ⟨rfl, ⟨nd, rfl⟩⟩; (try exact ⟨rfl, _, World.drewN_drewN _ _ _⟩))); try go_wp2_with (first | (go_at_call 61; (with_reducible refine (jobs_known.calls k2 (rd ((rd_T35 l0 a1).f4) x55_2) true _ A29.out ?sideG).mono ?_); (case sideG => first | (with_reducible exact HG.out) | (with_reducible exact HG.out.drewN _) | exact HG.out.below (by repeat (first | (with_reducible first | exact HB.out | apply below_alloc | apply pw_below_drewN | apply below_drew1 | refine below_set ?_ GE166.out) | exact HB.out)) | exact HG.out.below (by repeat (first | (with_reducible first | exact HB.out | apply below_alloc | apply pw_below_drewN | apply below_drew1) | exact HB.out))); rintro e w' ⟨rfl, ⟨nd, rfl⟩⟩; (try exact ⟨rfl, _, World.drewN_drewN _ _ _⟩))))
            go_roundg k2
            case measure => have := HJ4.out; have := HK2.out; omega
            case rel => exact ⟨(wrap64 (x55_2 + 1)), (by first | rfl | (simp; done) | (simp [*]; done)), H', ⟨by have := HJ4.out; have := HK2.out; omega⟩, ⟨by (with_reducible repeat (first | refine blk_drewN ?_ _ | refine blk_drew ?_ | refine blk_alloc ?_ _)); exact BK166.out⟩, ⟨by repeat (first | (with_reducible first | exact HB.out | apply below_alloc | apply pw_below_drewN | apply below_drew1 | refine below_set ?_ GE166.out) | exact HB.out)⟩⟩
          rw [if_neg c23] at H
          have c23b0 : decide (x55_2 < (((rd_T35 l0 a1).f3).length : Int)) = false := decide_eq_false c23
          clear c23
          have H' := Aside0.mk H
          clear H
          go_wp2
          repeat (go_quiet (fail); try go_wp2)
          go_loopg [77] k2 (fun kq v77 w' => ∃ (x77_3 : Int), v77 = .int .i64 x77_3 ∧ Aside0 (jobs_form.l1 kq l0 a1 a1 x77_3 ((rd_T35 l0 a1).f0) ((rd_T35 l0 a1).f1) ((rd_T35 l0 a1).f2) ((rd_T35 l0 a1).f3) ((rd_T35 l0 a1).f4) ((rd_T35 l0 a1).f5) ((rd_T35 l0 a1).f6) = some r) ∧ Aside0 (kq ≤ k2) ∧ Aside0 (w'.heap[gb166]? = some (.cells #[.int .i64 ((rd_T35 l0 a1).f0), .int .i64 ((rd_T35 l0 a1).f1), .int .i64 ((rd_T35 l0 a1).f2), (.slice A165_3 ((rd_T35 l0 a1).f3).length c165_3), (.slice A165_4 ((rd_T35 l0 a1).f4).length c165_4), .string ((rd_T35 l0 a1).f5), .bool ((rd_T35 l0 a1).f6)] 35 (0, 0))) ∧ Aside0 (Below w.heap.size w w'))
          case atStart => exact ⟨(0), (by first | rfl | (simp; done) | (simp [*]; done)), H', ⟨Nat.le_refl _⟩, ⟨by (with_reducible repeat (first | refine blk_drewN ?_ _ | refine blk_drew ?_ | refine blk_alloc ?_ _)); exact BK166.out⟩, ⟨by repeat (first | (with_reducible first | exact HB.out | apply below_alloc | apply pw_below_drewN | apply below_drew1 | refine below_set ?_ GE166.out) | exact HB.out)⟩⟩
          case round =>
            clear H'
            obtain ⟨x77_3, rfl, HA, HK3, BK166, HB⟩ := hrel
            cases gk with
            | zero => exact absurd HA.out (by simp [jobs_form.l1])
            | succ k3 =>
              have H := HA.out
              clear HA
              simp only [jobs_form.l1] at H
              by_cases c33 : x77_3 < a1
              · rw [if_pos c33] at H
                have c33b0 : decide (x77_3 < a1) = true := decide_eq_true c33
                clear c33
                by_cases c34 : 0 ≤ x77_3
                rotate_left
                · rw [if_neg c34] at H
                  exact absurd H (by simp)
                rw [if_pos c34] at H
                have c34b0 : decide (0 ≤ x77_3) = true := decide_eq_true c34
                clear c34
                by_cases c35 : x77_3 < (l0.length : Int)
                rotate_left
                · rw [if_neg c35] at H
                  exact absurd H (by simp)
                rw [if_pos c35] at H
                have c35b0 : decide (x77_3 < (l0.length : Int)) = true := decide_eq_true c35
                clear c35
                by_cases c36 : ((rd_T35 l0 x77_3).f0) = ((rd_T35 l0 a1).f0)
                · rw [if_pos c36] at H
                  have c36b0 : (((rd_T35 l0 x77_3).f0) == ((rd_T35 l0 a1).f0)) = true := beq_iff_eq.mpr c36
                  have c36b1 : (((rd_T35 l0 x77_3).f0) != ((rd_T35 l0 a1).f0)) = false := bne_eq_false_iff_eq.mpr c36
                  clear c36
                  obtain rfl := Option.some.inj H
                  have p170 : 0 ≤ (x77_3 : Int) := of_decide_eq_true (by with_reducible assumption)
                  have q170 : x77_3 < (l0.length : Int) := of_decide_eq_true (by with_reducible assumption)
                  obtain ⟨ad170, A170_3, c170_3, A170_4, c170_4, e170, hx170_0, hx170_1, hx170_2, hx170_3, hx170_4, hx170_5, hx170_6, hl170_3, hi170_3, hl170_4, hi170_4⟩ := at_T35 HR0.out x77_3 p170 q170
                  obtain rfl : ad165 = ad170 := (by injection e170)
                  replace hx170_0 := (HB.out.cell (World.block_lt_of_cell? w _ hx170_0)).trans hx170_0
                  replace hx170_1 := (HB.out.cell (World.block_lt_of_cell? w _ hx170_1)).trans hx170_1
                  replace hx170_2 := (HB.out.cell (World.block_lt_of_cell? w _ hx170_2)).trans hx170_2
                  replace hx170_3 := (HB.out.cell (World.block_lt_of_cell? w _ hx170_3)).trans hx170_3
                  replace hx170_4 := (HB.out.cell (World.block_lt_of_cell? w _ hx170_4)).trans hx170_4
                  replace hx170_5 := (HB.out.cell (World.block_lt_of_cell? w _ hx170_5)).trans hx170_5
                  replace hx170_6 := (HB.out.cell (World.block_lt_of_cell? w _ hx170_6)).trans hx170_6
                  have HR170_3 := Aside0.mk hi170_3
                  have HC170_3 := Aside0.mk hl170_3
                  clear hi170_3 hl170_3
                  have HR170_4 := Aside0.mk hi170_4
                  have HC170_4 := Aside0.mk hl170_4
                  clear hi170_4 hl170_4
                  replace p170 := eq_true p170
                  replace q170 := eq_true q170
                  obtain ⟨hcz37_0, hcz37_1, hcz37_2, hcz37_3, hcz37_4, hcz37_5, hcz37_6, hfz37_0, hfz37_1, hfz37_2, hfz37_3, hfz37_4, hfz37_5, hfz37_6⟩ := cells7 BK166.out
                  go_wp2
                  repeat (go_quiet (fail); try go_wp2)
                  go_ret
                  exact ⟨by first | rfl | (simp [*]; done), by repeat (first | (with_reducible first | exact HB.out | apply below_alloc | apply pw_below_drewN | apply below_drew1 | refine below_set ?_ GE166.out) | exact HB.out)⟩
                rw [if_neg c36] at H
                have c36b0 : (((rd_T35 l0 x77_3).f0) == ((rd_T35 l0 a1).f0)) = false := beq_eq_false_iff_ne.mpr c36
                have c36b1 : (((rd_T35 l0 x77_3).f0) != ((rd_T35 l0 a1).f0)) = true := bne_iff_ne.mpr c36
                have H' := Aside0.mk H
                clear H
                have p170 : 0 ≤ (x77_3 : Int) := of_decide_eq_true (by with_reducible assumption)
                have q170 : x77_3 < (l0.length : Int) := of_decide_eq_true (by with_reducible assumption)
                obtain ⟨ad170, A170_3, c170_3, A170_4, c170_4, e170, hx170_0, hx170_1, hx170_2, hx170_3, hx170_4, hx170_5, hx170_6, hl170_3, hi170_3, hl170_4, hi170_4⟩ := at_T35 HR0.out x77_3 p170 q170
                obtain rfl : ad165 = ad170 := (by injection e170)
                replace hx170_0 := (HB.out.cell (World.block_lt_of_cell? w _ hx170_0)).trans hx170_0
                replace hx170_1 := (HB.out.cell (World.block_lt_of_cell? w _ hx170_1)).trans hx170_1
                replace hx170_2 := (HB.out.cell (World.block_lt_of_cell? w _ hx170_2)).trans hx170_2
                replace hx170_3 := (HB.out.cell (World.block_lt_of_cell? w _ hx170_3)).trans hx170_3
                replace hx170_4 := (HB.out.cell (World.block_lt_of_cell? w _ hx170_4)).trans hx170_4
                replace hx170_5 := (HB.out.cell (World.block_lt_of_cell? w _ hx170_5)).trans hx170_5
                replace hx170_6 := (HB.out.cell (World.block_lt_of_cell? w _ hx170_6)).trans hx170_6
                have HR170_3 := Aside0.mk hi170_3
                have HC170_3 := Aside0.mk hl170_3
                clear hi170_3 hl170_3
                have HR170_4 := Aside0.mk hi170_4
                have HC170_4 := Aside0.mk hl170_4
                clear hi170_4 hl170_4
                replace p170 := eq_true p170
                replace q170 := eq_true q170
                obtain ⟨hcz38_0, hcz38_1, hcz38_2, hcz38_3, hcz38_4, hcz38_5, hcz38_6, hfz38_0, hfz38_1, hfz38_2, hfz38_3, hfz38_4, hfz38_5, hfz38_6⟩ := cells7 BK166.out
                go_wp2
                repeat (go_quiet (fail); try go_wp2)
                go_roundg k3
                case measure => have := HJ4.out; have := HK2.out; have := HK3.out; omega
                case rel => exact ⟨(wrap64 (x77_3 + 1)), (by first | rfl | (simp; done) | (simp [*]; done)), H', ⟨by have := HJ4.out; have := HK2.out; have := HK3.out; omega⟩, ⟨by (with_reducible repeat (first | refine blk_drewN ?_ _ | refine blk_drew ?_ | refine blk_alloc ?_ _)); exact BK166.out⟩, ⟨by repeat (first | (with_reducible first | exact HB.out | apply below_alloc | apply pw_below_drewN | apply below_drew1 | refine below_set ?_ GE166.out) | exact HB.out)⟩⟩
              rw [if_neg c33] at H
              have c33b0 : decide (x77_3 < a1) = false := decide_eq_false c33
              clear c33
              have H' := Aside0.mk H
              clear H
              obtain ⟨hcz39_0, hcz39_1, hcz39_2, hcz39_3, hcz39_4, hcz39_5, hcz39_6, hfz39_0, hfz39_1, hfz39_2, hfz39_3, hfz39_4, hfz39_5, hfz39_6⟩ := cells7 BK166.out
              go_wp2
              repeat (go_quiet (fail); try go_wp2)
              go_loopg [92] k3 (fun kq v92 w' => ∃ (x92_4 : Int), v92 = .int .i64 x92_4 ∧ Aside0 (jobs_form.l2 kq l0 a1 ((rd_T35 l0 a1).f3) (((rd_T35 l0 a1).f3).length : Int) x92_4 ((rd_T35 l0 a1).f0) ((rd_T35 l0 a1).f1) ((rd_T35 l0 a1).f2) ((rd_T35 l0 a1).f3) ((rd_T35 l0 a1).f4) ((rd_T35 l0 a1).f5) ((rd_T35 l0 a1).f6) = some r) ∧ Aside0 (kq ≤ k3) ∧ Aside0 (w'.heap[gb166]? = some (.cells #[.int .i64 ((rd_T35 l0 a1).f0), .int .i64 ((rd_T35 l0 a1).f1), .int .i64 ((rd_T35 l0 a1).f2), (.slice A165_3 ((rd_T35 l0 a1).f3).length c165_3), (.slice A165_4 ((rd_T35 l0 a1).f4).length c165_4), .string ((rd_T35 l0 a1).f5), .bool ((rd_T35 l0 a1).f6)] 35 (0, 0))) ∧ Aside0 (Below w.heap.size w w'))
              case atStart => exact ⟨(0), (by first | rfl | (simp; done) | (simp [*]; done)), H', ⟨Nat.le_refl _⟩, ⟨by (with_reducible repeat (first | refine blk_drewN ?_ _ | refine blk_drew ?_ | refine blk_alloc ?_ _)); exact BK166.out⟩, ⟨by repeat (first | (with_reducible first | exact HB.out | apply below_alloc | apply pw_below_drewN | apply below_drew1 | refine below_set ?_ GE166.out) | exact HB.out)⟩⟩
              case round =>
                clear H'
                obtain ⟨x92_4, rfl, HA, HK4, BK166, HB⟩ := hrel
                cases gk with
                | zero => exact absurd HA.out (by simp [jobs_form.l2])
                | succ k4 =>
                  have H := HA.out
                  clear HA
                  simp only [jobs_form.l2] at H
                  by_cases c40 : x92_4 < (((rd_T35 l0 a1).f3).length : Int)
                  rotate_left
                  · rw [if_neg c40] at H
                    have c40b0 : decide (x92_4 < (((rd_T35 l0 a1).f3).length : Int)) = false := decide_eq_false c40
                    clear c40
                    replace H := Option.bind_eq_some_iff.mp H
                    obtain ⟨t171, A610, H⟩ := H
                    replace H : (if ((rd_T35 l0 a1).f2) = t171 then (some 0) else (some 25)) = some r := H
                    have A61 := Aside0.mk A610
                    clear A610
                    by_cases c62 : ((rd_T35 l0 a1).f2) = t171
                    rotate_left
                    · rw [if_neg c62] at H
                      have c62b0 : (((rd_T35 l0 a1).f2) == t171) = false := beq_eq_false_iff_ne.mpr c62
                      have c62b1 : (((rd_T35 l0 a1).f2) != t171) = true := bne_iff_ne.mpr c62
                      obtain rfl := Option.some.inj H
                      obtain ⟨hcz64_0, hcz64_1, hcz64_2, hcz64_3, hcz64_4, hcz64_5, hcz64_6, hfz64_0, hfz64_1, hfz64_2, hfz64_3, hfz64_4, hfz64_5, hfz64_6⟩ := cells7 BK166.out
                      go_wp2_with (first | (go_at_call 52; (with_reducible refine (jobs_state.calls k4 _ _ ((rd_T35 l0 a1).f4) t171 _ ?side1 ?side2 A61.out ?sideG).mono ?_); (case sideG => first | (with_reducible exact HG.out) | (with_reducible exact HG.out.drewN _) | exact HG.out.below (by repeat (first | (with_reducible first | exact HB.out | apply below_alloc | apply pw_below_drewN | apply below_drew1 | refine below_set ?_ GE166.out) | exact HB.out))); (case side1 => repeat (first | exact (Kd.C_below HR165_4.out HB.out) | (with_reducible refine Kd.C_alloc ?_ _) | (with_reducible refine Kd.C_drewN ?_ _) | (with_reducible refine Kd.C_drew ?_))); (case side2 => exact HC165_4.out); rintro e w' ⟨rfl, ⟨nd, rfl⟩⟩; (try exact ⟨rfl, _, World.drewN_drewN _ _ _⟩)))
                      repeat (go_quiet (first | (go_at_call 52; (with_reducible refine (jobs_state.calls k4 _ _ ((rd_T35 l0 a1).f4) t171 _ ?side1 ?side2 A61.out ?sideG).mono ?_); (case sideG => first | (with_reducible exact HG.out) | (with_reducible exact HG.out.drewN _) | exact HG.out.below (by repeat (first | (with_reducible first | exact HB.out | apply below_alloc | apply pw_below_drewN | apply below_drew1 | refine below_set ?_ GE166.out) | exact HB.out))); (case side1 => repeat (first | exact (Kd.C_below HR165_4.out HB.out) | (with_reducible refine Kd.C_alloc ?_ _) | (with_reducible refine Kd.C_drewN ?_ _) | (with_reducible refine Kd.C_drew ?_))); (case side2 => exact HC165_4.out); rintro e w' ⟨rfl, ⟨nd, rfl⟩⟩; (try exact ⟨rfl, _, World.drewN_drewN _ _ _⟩))); try go_wp2_with (first | (go_at_call 52; (with_reducible refine (jobs_state.calls k4 _ _ ((rd_T35 l0 a1).f4) t171 _ ?side1 ?side2 A61.out ?sideG).mono ?_); (case sideG => first | (with_reducible exact HG.out) | (with_reducible exact HG.out.drewN _) | exact HG.out.below (by repeat (first | (with_reducible first | exact HB.out | apply below_alloc | apply pw_below_drewN | apply below_drew1 | refine below_set ?_ GE166.out) | exact HB.out))); (case side1 => repeat (first | exact (Kd.C_below HR165_4.out HB.out) | (with_reducible refine Kd.C_alloc ?_ _) | (with_reducible refine Kd.C_drewN ?_ _) | (with_reducible refine Kd.C_drew ?_))); (case side2 => exact HC165_4.out); rintro e w' ⟨rfl, ⟨nd, rfl⟩⟩; (try exact ⟨rfl, _, World.drewN_drewN _ _ _⟩))))
                      go_ret
                      exact ⟨by first | rfl | (simp [*]; done), by repeat (first | (with_reducible first | exact HB.out | apply below_alloc | apply pw_below_drewN | apply below_drew1 | refine below_set ?_ GE166.out) | exact HB.out)⟩
                    rw [if_pos c62] at H
                    have c62b0 : (((rd_T35 l0 a1).f2) == t171) = true := beq_iff_eq.mpr c62
                    have c62b1 : (((rd_T35 l0 a1).f2) != t171) = false := bne_eq_false_iff_eq.mpr c62
                    clear c62
                    obtain rfl := Option.some.inj H
                    obtain ⟨hcz63_0, hcz63_1, hcz63_2, hcz63_3, hcz63_4, hcz63_5, hcz63_6, hfz63_0, hfz63_1, hfz63_2, hfz63_3, hfz63_4, hfz63_5, hfz63_6⟩ := cells7 BK166.out
                    go_wp2_with (first | (go_at_call 52; (with_reducible refine (jobs_state.calls k4 _ _ ((rd_T35 l0 a1).f4) t171 _ ?side1 ?side2 A61.out ?sideG).mono ?_); (case sideG => first | (with_reducible exact HG.out) | (with_reducible exact HG.out.drewN _) | exact HG.out.below (by repeat (first | (with_reducible first | exact HB.out | apply below_alloc | apply pw_below_drewN | apply below_drew1 | refine below_set ?_ GE166.out) | exact HB.out))); (case side1 => repeat (first | exact (Kd.C_below HR165_4.out HB.out) | (with_reducible refine Kd.C_alloc ?_ _) | (with_reducible refine Kd.C_drewN ?_ _) | (with_reducible refine Kd.C_drew ?_))); (case side2 => exact HC165_4.out); rintro e w' ⟨rfl, ⟨nd, rfl⟩⟩; (try exact ⟨rfl, _, World.drewN_drewN _ _ _⟩)))
                    repeat (go_quiet (first | (go_at_call 52; (with_reducible refine (jobs_state.calls k4 _ _ ((rd_T35 l0 a1).f4) t171 _ ?side1 ?side2 A61.out ?sideG).mono ?_); (case sideG => first | (with_reducible exact HG.out) | (with_reducible exact HG.out.drewN _) | exact HG.out.below (by repeat (first | (with_reducible first | exact HB.out | apply below_alloc | apply pw_below_drewN | apply below_drew1 | refine below_set ?_ GE166.out) | exact HB.out))); (case side1 => repeat (first | exact (Kd.C_below HR165_4.out HB.out) | (with_reducible refine Kd.C_alloc ?_ _) | (with_reducible refine Kd.C_drewN ?_ _) | (with_reducible refine Kd.C_drew ?_))); (case side2 => exact HC165_4.out); rintro e w' ⟨rfl, ⟨nd, rfl⟩⟩; (try exact ⟨rfl, _, World.drewN_drewN _ _ _⟩))); try go_wp2_with (first | (go_at_call 52; (with_reducible refine (jobs_state.calls k4 _ _ ((rd_T35 l0 a1).f4) t171 _ ?side1 ?side2 A61.out ?sideG).mono ?_); (case sideG => first | (with_reducible exact HG.out) | (with_reducible exact HG.out.drewN _) | exact HG.out.below (by repeat (first | (with_reducible first | exact HB.out | apply below_alloc | apply pw_below_drewN | apply below_drew1 | refine below_set ?_ GE166.out) | exact HB.out))); (case side1 => repeat (first | exact (Kd.C_below HR165_4.out HB.out) | (with_reducible refine Kd.C_alloc ?_ _) | (with_reducible refine Kd.C_drewN ?_ _) | (with_reducible refine Kd.C_drew ?_))); (case side2 => exact HC165_4.out); rintro e w' ⟨rfl, ⟨nd, rfl⟩⟩; (try exact ⟨rfl, _, World.drewN_drewN _ _ _⟩))))
                    go_ret
                    exact ⟨by first | rfl | (simp [*]; done), by repeat (first | (with_reducible first | exact HB.out | apply below_alloc | apply pw_below_drewN | apply below_drew1 | refine below_set ?_ GE166.out) | exact HB.out)⟩
                  rw [if_pos c40] at H
                  have c40b0 : decide (x92_4 < (((rd_T35 l0 a1).f3).length : Int)) = true := decide_eq_true c40
                  clear c40
                  by_cases c41 : 0 ≤ x92_4
                  rotate_left
                  · rw [if_neg c41] at H
                    exact absurd H (by simp)
                  rw [if_pos c41] at H
                  have c41b0 : decide (0 ≤ x92_4) = true := decide_eq_true c41
                  clear c41
                  by_cases c42 : x92_4 < (((rd_T35 l0 a1).f3).length : Int)
                  rotate_left
                  · rw [if_neg c42] at H
                    exact absurd H (by simp)
                  rw [if_pos c42] at H
                  have c42b0 : decide (x92_4 < (((rd_T35 l0 a1).f3).length : Int)) = true := decide_eq_true c42
                  clear c42
                  have c43b0 := eq_true (of_decide_eq_true (by with_reducible assumption) : 0 ≤ x92_4)
                  by_cases c44 : x92_4 ≤ (((rd_T35 l0 a1).f3).length : Int)
                  rotate_left
                  · rw [if_neg c44] at H
                    exact absurd H (by simp)
                  rw [if_pos c44] at H
                  have c44b0 := eq_true c44
                  have c44b1 : decide (x92_4 ≤ (((rd_T35 l0 a1).f3).length : Int)) = true := decide_eq_true c44
                  clear c44
                  replace H := Option.bind_eq_some_iff.mp H
                  obtain ⟨t174, A450, H⟩ := H
                  replace H : (if t174 = true then (some 9) else (if 0 ≤ a1 then (if a1 ≤ (l0.length : Int) then ((jobs_member.f k4 (l0.take (a1 : Int).toNat) (rd ((rd_T35 l0 a1).f3) x92_4)).bind fun t179 => (if t179 ≥ 0 then (some 9) else (jobs_form.l2 k4 l0 a1 ((rd_T35 l0 a1).f3) (((rd_T35 l0 a1).f3).length : Int) (wrap64 (x92_4 + 1)) ((rd_T35 l0 a1).f0) ((rd_T35 l0 a1).f1) ((rd_T35 l0 a1).f2) ((rd_T35 l0 a1).f3) ((rd_T35 l0 a1).f4) ((rd_T35 l0 a1).f5) ((rd_T35 l0 a1).f6)))) else (none)) else (none))) = some r := H
                  have A45 := Aside0.mk A450
                  clear A450
                  by_cases c46 : t174 = true
                  · subst c46
                    have H1 : (some 9) = some r := by rw [if_pos rfl] at H; exact H
                    clear H
                    have H := H1
                    clear H1
                    obtain rfl := Option.some.inj H
                    have p172 : 0 ≤ (x92_4 : Int) := of_decide_eq_true (by with_reducible assumption)
                    have q172 : x92_4 < (((rd_T35 l0 a1).f3).length : Int) := of_decide_eq_true (by with_reducible assumption)
                    obtain ⟨ad172, e172, hx172_0⟩ := Kd.at_int HR165_3.out x92_4 p172 q172
                    cases e172
                    replace hx172_0 := (HB.out.cell (World.block_lt_of_cell? w _ hx172_0)).trans hx172_0
                    replace p172 := eq_true p172
                    replace q172 := eq_true q172
                    obtain ⟨hcz47_0, hcz47_1, hcz47_2, hcz47_3, hcz47_4, hcz47_5, hcz47_6, hfz47_0, hfz47_1, hfz47_2, hfz47_3, hfz47_4, hfz47_5, hfz47_6⟩ := cells7 BK166.out
                    obtain ⟨i048, hi048, _, hsz48, _⟩ := info_parts info3
                    obtain ⟨hcut48, hA48, hC48⟩ := print_take_of (P := Tryd.prog) (Value.int .i64) 0 23 3 .i64 Tryd.underlying23 hi048 hsz48 (some ad172) c165_3 ((rd_T35 l0 a1).f3) x92_4 (of_decide_eq_true (by with_reducible assumption)) (of_decide_eq_true (by with_reducible assumption)) HC165_3.out
                    have HR173 := Aside0.mk (Kd.C_of_reads (h1 := fun _ => rfl) (hA48 _ (Kd.reads_of_C HR165_3.out)))
                    have HC173 := Aside0.mk hC48
                    clear hA48 hC48 hi048 hsz48
                    go_wp2_with (first | (go_at_call 25; (with_reducible refine (Calls.args (jobs_within.calls k4 (some ad172) c165_3 (((rd_T35 l0 a1).f3).take (x92_4 : Int).toNat) (rd ((rd_T35 l0 a1).f3) x92_4) true _ ?side1 ?side2 A45.out ?sideG) ?argsE).mono ?_); (case sideG => first | (with_reducible exact HG.out) | (with_reducible exact HG.out.drewN _) | exact HG.out.below (by repeat (first | (with_reducible first | exact HB.out | apply below_alloc | apply pw_below_drewN | apply below_drew1 | refine below_set ?_ GE166.out) | exact HB.out)) | exact HG.out.below (by repeat (first | (with_reducible first | exact HB.out | apply below_alloc | apply pw_below_drewN | apply below_drew1) | exact HB.out))); (case side1 => repeat (first | exact (Kd.C_below HR173.out HB.out) | (with_reducible refine Kd.C_alloc ?_ _) | (with_reducible refine Kd.C_drewN ?_ _) | (with_reducible refine Kd.C_drew ?_))); (case side2 => exact HC173.out); (case argsE => first | rfl | (rw [List.length_take, Nat.min_eq_left (show (x92_4 : Int).toNat ≤ (((rd_T35 l0 a1).f3)).length from Int.toNat_le.2 (of_decide_eq_true (by with_reducible assumption)))])); rintro e w' ⟨rfl, ⟨nd, rfl⟩⟩; (try exact ⟨rfl, _, World.drewN_drewN _ _ _⟩)))
                    repeat (go_quiet (first | (go_at_call 25; (with_reducible refine (Calls.args (jobs_within.calls k4 (some ad172) c165_3 (((rd_T35 l0 a1).f3).take (x92_4 : Int).toNat) (rd ((rd_T35 l0 a1).f3) x92_4) true _ ?side1 ?side2 A45.out ?sideG) ?argsE).mono ?_); (case sideG => first | (with_reducible exact HG.out) | (with_reducible exact HG.out.drewN _) | exact HG.out.below (by repeat (first | (with_reducible first | exact HB.out | apply below_alloc | apply pw_below_drewN | apply below_drew1 | refine below_set ?_ GE166.out) | exact HB.out)) | exact HG.out.below (by repeat (first | (with_reducible first | exact HB.out | apply below_alloc | apply pw_below_drewN | apply below_drew1) | exact HB.out))); (case side1 => repeat (first | exact (Kd.C_below HR173.out HB.out) | (with_reducible refine Kd.C_alloc ?_ _) | (with_reducible refine Kd.C_drewN ?_ _) | (with_reducible refine Kd.C_drew ?_))); (case side2 => exact HC173.out); (case argsE => first | rfl | (rw [List.length_take, Nat.min_eq_left (show (x92_4 : Int).toNat ≤ (((rd_T35 l0 a1).f3)).length from Int.toNat_le.2 (of_decide_eq_true (by with_reducible assumption)))])); rintro e w' ⟨rfl, ⟨nd, rfl⟩⟩; (try exact ⟨rfl, _, World.drewN_drewN _ _ _⟩))); try go_wp2_with (first | (go_at_call 25; (with_reducible refine (Calls.args (jobs_within.calls k4 (some ad172) c165_3 (((rd_T35 l0 a1).f3).take (x92_4 : Int).toNat) (rd ((rd_T35 l0 a1).f3) x92_4) true _ ?side1 ?side2 A45.out ?sideG) ?argsE).mono ?_); (case sideG => first | (with_reducible exact HG.out) | (with_reducible exact HG.out.drewN _) | exact HG.out.below (by repeat (first | (with_reducible first | exact HB.out | apply below_alloc | apply pw_below_drewN | apply below_drew1 | refine below_set ?_ GE166.out) | exact HB.out)) | exact HG.out.below (by repeat (first | (with_reducible first | exact HB.out | apply below_alloc | apply pw_below_drewN | apply below_drew1) | exact HB.out))); (case side1 => repeat (first | exact (Kd.C_below HR173.out HB.out) | (with_reducible refine Kd.C_alloc ?_ _) | (with_reducible refine Kd.C_drewN ?_ _) | (with_reducible refine Kd.C_drew ?_))); (case side2 => exact HC173.out); (case argsE => first | rfl | (rw [List.length_take, Nat.min_eq_left (show (x92_4 : Int).toNat ≤ (((rd_T35 l0 a1).f3)).length from Int.toNat_le.2 (of_decide_eq_true (by with_reducible assumption)))])); rintro e w' ⟨rfl, ⟨nd, rfl⟩⟩; (try exact ⟨rfl, _, World.drewN_drewN _ _ _⟩))))
                    go_ret
                    exact ⟨by first | rfl | (simp [*]; done), by repeat (first | (with_reducible first | exact HB.out | apply below_alloc | apply pw_below_drewN | apply below_drew1 | refine below_set ?_ GE166.out) | exact HB.out)⟩
                  replace c46 := Bool.eq_false_iff.mpr c46
                  subst c46
                  have H1 : (if 0 ≤ a1 then (if a1 ≤ (l0.length : Int) then ((jobs_member.f k4 (l0.take (a1 : Int).toNat) (rd ((rd_T35 l0 a1).f3) x92_4)).bind fun t179 => (if t179 ≥ 0 then (some 9) else (jobs_form.l2 k4 l0 a1 ((rd_T35 l0 a1).f3) (((rd_T35 l0 a1).f3).length : Int) (wrap64 (x92_4 + 1)) ((rd_T35 l0 a1).f0) ((rd_T35 l0 a1).f1) ((rd_T35 l0 a1).f2) ((rd_T35 l0 a1).f3) ((rd_T35 l0 a1).f4) ((rd_T35 l0 a1).f5) ((rd_T35 l0 a1).f6)))) else (none)) else (none)) = some r := by rw [if_neg (show ¬ (false = true) by decide)] at H; exact H
                  clear H
                  have H := H1
                  clear H1
                  by_cases c49 : 0 ≤ a1
                  rotate_left
                  · rw [if_neg c49] at H
                    exact absurd H (by simp)
                  rw [if_pos c49] at H
                  have c49b0 := eq_true c49
                  have c49b1 : decide (0 ≤ a1) = true := decide_eq_true c49
                  clear c49
                  by_cases c50 : a1 ≤ (l0.length : Int)
                  rotate_left
                  · rw [if_neg c50] at H
                    exact absurd H (by simp)
                  rw [if_pos c50] at H
                  have c50b0 := eq_true c50
                  have c50b1 : decide (a1 ≤ (l0.length : Int)) = true := decide_eq_true c50
                  clear c50
                  obtain ⟨y175, hy175⟩ : ∃ y_ : List (S35), y_ = (l0.take (a1 : Int).toNat) := ⟨_, rfl⟩
                  replace H : ((jobs_member.f k4 y175 (rd ((rd_T35 l0 a1).f3) x92_4)).bind fun t179 => (if t179 ≥ 0 then (some 9) else (jobs_form.l2 k4 l0 a1 ((rd_T35 l0 a1).f3) (((rd_T35 l0 a1).f3).length : Int) (wrap64 (x92_4 + 1)) ((rd_T35 l0 a1).f0) ((rd_T35 l0 a1).f1) ((rd_T35 l0 a1).f2) ((rd_T35 l0 a1).f3) ((rd_T35 l0 a1).f4) ((rd_T35 l0 a1).f5) ((rd_T35 l0 a1).f6)))) = some r := by first | (rw [hy175]; exact H) | exact H | (rw [hy175]; exact H) | exact H
                  have Ny175 := Aside0.mk hy175
                  clear hy175
                  replace H := Option.bind_eq_some_iff.mp H
                  obtain ⟨t179, A510, H⟩ := H
                  replace H : (if t179 ≥ 0 then (some 9) else (jobs_form.l2 k4 l0 a1 ((rd_T35 l0 a1).f3) (((rd_T35 l0 a1).f3).length : Int) (wrap64 (x92_4 + 1)) ((rd_T35 l0 a1).f0) ((rd_T35 l0 a1).f1) ((rd_T35 l0 a1).f2) ((rd_T35 l0 a1).f3) ((rd_T35 l0 a1).f4) ((rd_T35 l0 a1).f5) ((rd_T35 l0 a1).f6))) = some r := H
                  have A51 := Aside0.mk A510
                  clear A510
                  by_cases c52 : t179 ≥ 0
                  · rw [if_pos c52] at H
                    have c52b0 : decide (0 ≤ t179) = true := decide_eq_true c52
                    clear c52
                    obtain rfl := Option.some.inj H
                    have p172 : 0 ≤ (x92_4 : Int) := of_decide_eq_true (by with_reducible assumption)
                    have q172 : x92_4 < (((rd_T35 l0 a1).f3).length : Int) := of_decide_eq_true (by with_reducible assumption)
                    obtain ⟨ad172, e172, hx172_0⟩ := Kd.at_int HR165_3.out x92_4 p172 q172
                    cases e172
                    replace hx172_0 := (HB.out.cell (World.block_lt_of_cell? w _ hx172_0)).trans hx172_0
                    replace p172 := eq_true p172
                    replace q172 := eq_true q172
                    obtain ⟨hcz53_0, hcz53_1, hcz53_2, hcz53_3, hcz53_4, hcz53_5, hcz53_6, hfz53_0, hfz53_1, hfz53_2, hfz53_3, hfz53_4, hfz53_5, hfz53_6⟩ := cells7 BK166.out
                    obtain ⟨i054, hi054, _, hsz54, _⟩ := info_parts info3
                    obtain ⟨hcut54, hA54, hC54⟩ := print_take_of (P := Tryd.prog) (Value.int .i64) 0 23 3 .i64 Tryd.underlying23 hi054 hsz54 (some ad172) c165_3 ((rd_T35 l0 a1).f3) x92_4 (of_decide_eq_true (by with_reducible assumption)) (of_decide_eq_true (by with_reducible assumption)) HC165_3.out
                    have HR173 := Aside0.mk (Kd.C_of_reads (h1 := fun _ => rfl) (hA54 _ (Kd.reads_of_C HR165_3.out)))
                    have HC173 := Aside0.mk hC54
                    clear hA54 hC54 hi054 hsz54
                    go_wp2_with (first | (go_at_call 25; (with_reducible refine (Calls.args (jobs_within.calls k4 (some ad172) c165_3 (((rd_T35 l0 a1).f3).take (x92_4 : Int).toNat) (rd ((rd_T35 l0 a1).f3) x92_4) false _ ?side1 ?side2 A45.out ?sideG) ?argsE).mono ?_); (case sideG => first | (with_reducible exact HG.out) | (with_reducible exact HG.out.drewN _) | exact HG.out.below (by repeat (first | (with_reducible first | exact HB.out | apply below_alloc | apply pw_below_drewN | apply below_drew1 | refine below_set ?_ GE166.out) | exact HB.out)) | exact HG.out.below (by repeat (first | (with_reducible first | exact HB.out | apply below_alloc | apply pw_below_drewN | apply below_drew1) | exact HB.out))); (case side1 => repeat (first | exact (Kd.C_below HR173.out HB.out) | (with_reducible refine Kd.C_alloc ?_ _) | (with_reducible refine Kd.C_drewN ?_ _) | (with_reducible refine Kd.C_drew ?_))); (case side2 => exact HC173.out); (case argsE => first | rfl | (rw [List.length_take, Nat.min_eq_left (show (x92_4 : Int).toNat ≤ (((rd_T35 l0 a1).f3)).length from Int.toNat_le.2 (of_decide_eq_true (by with_reducible assumption)))])); rintro e w' ⟨rfl, ⟨nd, rfl⟩⟩; (try exact ⟨rfl, _, World.drewN_drewN _ _ _⟩); have q55 : (a1 : Int) ≤ ((l0.length : Int) : Int) := of_decide_eq_true (by with_reducible assumption); obtain ⟨i055, hi055, _, hsz55, _⟩ := info_parts info35; have hroom55 : l0.length ≤ c0 := HC0.out; have hC55 : Kd.C k35 _ (some ad165) l0.length l0 := HR0.out; have hcut55 := cut_to (P := Tryd.prog) 22 35 .i64 Tryd.underlying22 hi055 (some ad165) l0.length c0 a1 (of_decide_eq_true (by with_reducible assumption)) q55 hroom55; have hr55 := Kd.C_take (m := (a1 : Int).toNat) hC55 (by omega); have hy55 : y175.length = (a1 : Int).toNat := (by rw [Ny175.out, List.length_take]; omega); rw [← Ny175.out] at hr55; rw [← hy55] at hcut55; have HR178 := Aside0.mk hr55; have HC178 := Aside0.mk (show y175.length ≤ c0 from by omega); clear hr55 hC55 hroom55 hi055 hsz55; have KY55 := Aside0.mk hy55; clear hy55; replace q55 := eq_true q55) | (go_at_call 26; (with_reducible refine (jobs_member.calls k4 _ _ y175 (rd ((rd_T35 l0 a1).f3) x92_4) t179 _ ?side1 ?side2 A51.out ?sideG).mono ?_); (case sideG => first | (with_reducible exact HG.out) | (with_reducible exact HG.out.drewN _) | exact HG.out.below (by repeat (first | (with_reducible first | exact HB.out | apply below_alloc | apply pw_below_drewN | apply below_drew1 | refine below_set ?_ GE166.out) | exact HB.out)) | exact HG.out.below (by repeat (first | (with_reducible first | exact HB.out | apply below_alloc | apply pw_below_drewN | apply below_drew1) | exact HB.out))); (case side1 => repeat (first | exact (Kd.C_below HR178.out (by repeat (first | (with_reducible first | exact HB.out | apply below_alloc | apply pw_below_drewN | apply below_drew1 | refine below_set ?_ GE166.out) | exact HB.out))) | (with_reducible refine Kd.C_alloc ?_ _) | (with_reducible refine Kd.C_drewN ?_ _) | (with_reducible refine Kd.C_drew ?_))); (case side2 => exact HC178.out); rintro e w56 ⟨rfl, hb⟩; have n0_ := Aside0.mk (blk_below (g := gb166) (o := .cells #[.int .i64 ((rd_T35 l0 a1).f0), .int .i64 ((rd_T35 l0 a1).f1), .int .i64 ((rd_T35 l0 a1).f2), .slice (some ad172) ((rd_T35 l0 a1).f3).length c165_3, .slice A165_4 ((rd_T35 l0 a1).f4).length c165_4, .string ((rd_T35 l0 a1).f5), .bool ((rd_T35 l0 a1).f6)] 35 (0, 0)) (by (with_reducible repeat (first | refine blk_drewN ?_ _ | refine blk_drew ?_ | refine blk_alloc ?_ _)); exact BK166.out) hb); have n1_ := Aside0.mk (below_step (by repeat (first | (with_reducible first | exact HB.out | apply below_alloc | apply pw_below_drewN | apply below_drew1 | refine below_set ?_ GE166.out) | exact HB.out)) hb); clear BK166; clear HB; have BK166 := n0_; have HB := n1_; clear n0_ n1_; (try clear hb); (try clear hb2); (try clear hk); (try clear hi)))
                    (have q55 : (a1 : Int) ≤ ((l0.length : Int) : Int) := of_decide_eq_true (by with_reducible assumption); obtain ⟨i055, hi055, _, hsz55, _⟩ := info_parts info35; have hroom55 : l0.length ≤ c0 := HC0.out; have hC55 : Kd.C k35 _ (some ad165) l0.length l0 := HR0.out; have hcut55 := cut_to (P := Tryd.prog) 22 35 .i64 Tryd.underlying22 hi055 (some ad165) l0.length c0 a1 (of_decide_eq_true (by with_reducible assumption)) q55 hroom55; have hr55 := Kd.C_take (m := (a1 : Int).toNat) hC55 (by omega); have hy55 : y175.length = (a1 : Int).toNat := (by rw [Ny175.out, List.length_take]; omega); rw [← Ny175.out] at hr55; rw [← hy55] at hcut55; have HR178 := Aside0.mk hr55; have HC178 := Aside0.mk (show y175.length ≤ c0 from by omega); clear hr55 hC55 hroom55 hi055 hsz55; have KY55 := Aside0.mk hy55; clear hy55; replace q55 := eq_true q55)
                    repeat (go_quiet (first | (go_at_call 25; (with_reducible refine (Calls.args (jobs_within.calls k4 (some ad172) c165_3 (((rd_T35 l0 a1).f3).take (x92_4 : Int).toNat) (rd ((rd_T35 l0 a1).f3) x92_4) false _ ?side1 ?side2 A45.out ?sideG) ?argsE).mono ?_); (case sideG => first | (with_reducible exact HG.out) | (with_reducible exact HG.out.drewN _) | exact HG.out.below (by repeat (first | (with_reducible first | exact HB.out | apply below_alloc | apply pw_below_drewN | apply below_drew1 | refine below_set ?_ GE166.out) | exact HB.out))); (case side1 => repeat (first | exact (Kd.C_below HR173.out HB.out) | (with_reducible refine Kd.C_alloc ?_ _) | (with_reducible refine Kd.C_drewN ?_ _) | (with_reducible refine Kd.C_drew ?_))); (case side2 => exact HC173.out); (case argsE => first | rfl | (rw [List.length_take, Nat.min_eq_left (show (x92_4 : Int).toNat ≤ (((rd_T35 l0 a1).f3)).length from Int.toNat_le.2 (of_decide_eq_true (by with_reducible assumption)))])); rintro e w' ⟨rfl, ⟨nd, rfl⟩⟩; (try exact ⟨rfl, _, World.drewN_drewN _ _ _⟩)) | (go_at_call 26; (with_reducible refine (jobs_member.calls k4 _ _ y175 (rd ((rd_T35 l0 a1).f3) x92_4) t179 _ ?side1 ?side2 A51.out ?sideG).mono ?_); (case sideG => first | (with_reducible exact HG.out) | (with_reducible exact HG.out.drewN _) | exact HG.out.below (by repeat (first | (with_reducible first | exact HB.out | apply below_alloc | apply pw_below_drewN | apply below_drew1 | refine below_set ?_ GE166.out) | exact HB.out))); (case side1 => repeat (first | exact (Kd.C_below HR178.out (pw_below_drewN HB.out _)) | exact (Kd.C_below HR178.out (by repeat (first | (with_reducible first | exact HB.out | apply below_alloc | apply pw_below_drewN | apply below_drew1 | refine below_set ?_ GE166.out) | exact HB.out))) | (with_reducible refine Kd.C_alloc ?_ _) | (with_reducible refine Kd.C_drewN ?_ _) | (with_reducible refine Kd.C_drew ?_))); (case side2 => exact HC178.out); rintro e w56 ⟨rfl, hb⟩; have n0_ := Aside0.mk (blk_below (g := gb166) (o := .cells #[.int .i64 ((rd_T35 l0 a1).f0), .int .i64 ((rd_T35 l0 a1).f1), .int .i64 ((rd_T35 l0 a1).f2), .slice (some ad172) ((rd_T35 l0 a1).f3).length c165_3, .slice A165_4 ((rd_T35 l0 a1).f4).length c165_4, .string ((rd_T35 l0 a1).f5), .bool ((rd_T35 l0 a1).f6)] 35 (0, 0)) (by (with_reducible repeat (first | refine blk_drewN ?_ _ | refine blk_drew ?_ | refine blk_alloc ?_ _)); exact BK166.out) hb); have n1_ := Aside0.mk (below_step (by repeat (first | (with_reducible first | exact HB.out | apply below_alloc | apply pw_below_drewN | apply below_drew1 | refine below_set ?_ GE166.out) | exact HB.out)) hb); clear BK166; clear HB; have BK166 := n0_; have HB := n1_; clear n0_ n1_; (try clear hb); (try clear hb2); (try clear hk); (try clear hi))); try go_wp2_with (first | (go_at_call 25; (with_reducible refine (Calls.args (jobs_within.calls k4 (some ad172) c165_3 (((rd_T35 l0 a1).f3).take (x92_4 : Int).toNat) (rd ((rd_T35 l0 a1).f3) x92_4) false _ ?side1 ?side2 A45.out ?sideG) ?argsE).mono ?_); (case sideG => first | (with_reducible exact HG.out) | (with_reducible exact HG.out.drewN _) | exact HG.out.below (by repeat (first | (with_reducible first | exact HB.out | apply below_alloc | apply pw_below_drewN | apply below_drew1 | refine below_set ?_ GE166.out) | exact HB.out))); (case side1 => repeat (first | exact (Kd.C_below HR173.out HB.out) | (with_reducible refine Kd.C_alloc ?_ _) | (with_reducible refine Kd.C_drewN ?_ _) | (with_reducible refine Kd.C_drew ?_))); (case side2 => exact HC173.out); (case argsE => first | rfl | (rw [List.length_take, Nat.min_eq_left (show (x92_4 : Int).toNat ≤ (((rd_T35 l0 a1).f3)).length from Int.toNat_le.2 (of_decide_eq_true (by with_reducible assumption)))])); rintro e w' ⟨rfl, ⟨nd, rfl⟩⟩; (try exact ⟨rfl, _, World.drewN_drewN _ _ _⟩)) | (go_at_call 26; (with_reducible refine (jobs_member.calls k4 _ _ y175 (rd ((rd_T35 l0 a1).f3) x92_4) t179 _ ?side1 ?side2 A51.out ?sideG).mono ?_); (case sideG => first | (with_reducible exact HG.out) | (with_reducible exact HG.out.drewN _) | exact HG.out.below (by repeat (first | (with_reducible first | exact HB.out | apply below_alloc | apply pw_below_drewN | apply below_drew1 | refine below_set ?_ GE166.out) | exact HB.out))); (case side1 => repeat (first | exact (Kd.C_below HR178.out (pw_below_drewN HB.out _)) | exact (Kd.C_below HR178.out (by repeat (first | (with_reducible first | exact HB.out | apply below_alloc | apply pw_below_drewN | apply below_drew1 | refine below_set ?_ GE166.out) | exact HB.out))) | (with_reducible refine Kd.C_alloc ?_ _) | (with_reducible refine Kd.C_drewN ?_ _) | (with_reducible refine Kd.C_drew ?_))); (case side2 => exact HC178.out); rintro e w56 ⟨rfl, hb⟩; have n0_ := Aside0.mk (blk_below (g := gb166) (o := .cells #[.int .i64 ((rd_T35 l0 a1).f0), .int .i64 ((rd_T35 l0 a1).f1), .int .i64 ((rd_T35 l0 a1).f2), .slice (some ad172) ((rd_T35 l0 a1).f3).length c165_3, .slice A165_4 ((rd_T35 l0 a1).f4).length c165_4, .string ((rd_T35 l0 a1).f5), .bool ((rd_T35 l0 a1).f6)] 35 (0, 0)) (by (with_reducible repeat (first | refine blk_drewN ?_ _ | refine blk_drew ?_ | refine blk_alloc ?_ _)); exact BK166.out) hb); have n1_ := Aside0.mk (below_step (by repeat (first | (with_reducible first | exact HB.out | apply below_alloc | apply pw_below_drewN | apply below_drew1 | refine below_set ?_ GE166.out) | exact HB.out)) hb); clear BK166; clear HB; have BK166 := n0_; have HB := n1_; clear n0_ n1_; (try clear hb); (try clear hb2); (try clear hk); (try clear hi))))
                    go_ret
                    exact ⟨by first | rfl | (simp [*]; done), by repeat (first | (with_reducible first | exact HB.out | apply below_alloc | apply pw_below_drewN | apply below_drew1 | refine below_set ?_ GE166.out) | exact HB.out)⟩
                  rw [if_neg c52] at H
                  have c52b0 : decide (0 ≤ t179) = false := decide_eq_false c52
                  clear c52
                  have H' := Aside0.mk H
                  clear H
                  have p172 : 0 ≤ (x92_4 : Int) := of_decide_eq_true (by with_reducible assumption)
                  have q172 : x92_4 < (((rd_T35 l0 a1).f3).length : Int) := of_decide_eq_true (by with_reducible assumption)
                  obtain ⟨ad172, e172, hx172_0⟩ := Kd.at_int HR165_3.out x92_4 p172 q172
                  cases e172
                  replace hx172_0 := (HB.out.cell (World.block_lt_of_cell? w _ hx172_0)).trans hx172_0
                  replace p172 := eq_true p172
                  replace q172 := eq_true q172
                  obtain ⟨hcz57_0, hcz57_1, hcz57_2, hcz57_3, hcz57_4, hcz57_5, hcz57_6, hfz57_0, hfz57_1, hfz57_2, hfz57_3, hfz57_4, hfz57_5, hfz57_6⟩ := cells7 BK166.out
                  obtain ⟨i058, hi058, _, hsz58, _⟩ := info_parts info3
                  obtain ⟨hcut58, hA58, hC58⟩ := print_take_of (P := Tryd.prog) (Value.int .i64) 0 23 3 .i64 Tryd.underlying23 hi058 hsz58 (some ad172) c165_3 ((rd_T35 l0 a1).f3) x92_4 (of_decide_eq_true (by with_reducible assumption)) (of_decide_eq_true (by with_reducible assumption)) HC165_3.out
                  have HR173 := Aside0.mk (Kd.C_of_reads (h1 := fun _ => rfl) (hA58 _ (Kd.reads_of_C HR165_3.out)))
                  have HC173 := Aside0.mk hC58
                  clear hA58 hC58 hi058 hsz58
                  go_wp2_with (first | (go_at_call 25; (with_reducible refine (Calls.args (jobs_within.calls k4 (some ad172) c165_3 (((rd_T35 l0 a1).f3).take (x92_4 : Int).toNat) (rd ((rd_T35 l0 a1).f3) x92_4) false _ ?side1 ?side2 A45.out ?sideG) ?argsE).mono ?_); (case sideG => first | (with_reducible exact HG.out) | (with_reducible exact HG.out.drewN _) | exact HG.out.below (by repeat (first | (with_reducible first | exact HB.out | apply below_alloc | apply pw_below_drewN | apply below_drew1 | refine below_set ?_ GE166.out) | exact HB.out))); (case side1 => repeat (first | exact (Kd.C_below HR173.out HB.out) | (with_reducible refine Kd.C_alloc ?_ _) | (with_reducible refine Kd.C_drewN ?_ _) | (with_reducible refine Kd.C_drew ?_))); (case side2 => exact HC173.out); (case argsE => first | rfl | (rw [List.length_take, Nat.min_eq_left (show (x92_4 : Int).toNat ≤ (((rd_T35 l0 a1).f3)).length from Int.toNat_le.2 (of_decide_eq_true (by with_reducible assumption)))])); rintro e w' ⟨rfl, ⟨nd, rfl⟩⟩; (try exact ⟨rfl, _, World.drewN_drewN _ _ _⟩); have q59 : (a1 : Int) ≤ ((l0.length : Int) : Int) := of_decide_eq_true (by with_reducible assumption); obtain ⟨i059, hi059, _, hsz59, _⟩ := info_parts info35; have hroom59 : l0.length ≤ c0 := HC0.out; have hC59 : Kd.C k35 _ (some ad165) l0.length l0 := HR0.out; have hcut59 := cut_to (P := Tryd.prog) 22 35 .i64 Tryd.underlying22 hi059 (some ad165) l0.length c0 a1 (of_decide_eq_true (by with_reducible assumption)) q59 hroom59; have hr59 := Kd.C_take (m := (a1 : Int).toNat) hC59 (by omega); have hy59 : y175.length = (a1 : Int).toNat := (by rw [Ny175.out, List.length_take]; omega); rw [← Ny175.out] at hr59; rw [← hy59] at hcut59; have HR178 := Aside0.mk hr59; have HC178 := Aside0.mk (show y175.length ≤ c0 from by omega); clear hr59 hC59 hroom59 hi059 hsz59; have KY59 := Aside0.mk hy59; clear hy59; replace q59 := eq_true q59) | (go_at_call 26; (with_reducible refine (jobs_member.calls k4 _ _ y175 (rd ((rd_T35 l0 a1).f3) x92_4) t179 _ ?side1 ?side2 A51.out ?sideG).mono ?_); (case sideG => first | (with_reducible exact HG.out) | (with_reducible exact HG.out.drewN _) | exact HG.out.below (by repeat (first | (with_reducible first | exact HB.out | apply below_alloc | apply pw_below_drewN | apply below_drew1 | refine below_set ?_ GE166.out) | exact HB.out))); (case side1 => repeat (first | exact (Kd.C_below HR178.out (by repeat (first | (with_reducible first | exact HB.out | apply below_alloc | apply pw_below_drewN | apply below_drew1 | refine below_set ?_ GE166.out) | exact HB.out))) | (with_reducible refine Kd.C_alloc ?_ _) | (with_reducible refine Kd.C_drewN ?_ _) | (with_reducible refine Kd.C_drew ?_))); (case side2 => exact HC178.out); rintro e w60 ⟨rfl, hb⟩; have n0_ := Aside0.mk (blk_below (g := gb166) (o := .cells #[.int .i64 ((rd_T35 l0 a1).f0), .int .i64 ((rd_T35 l0 a1).f1), .int .i64 ((rd_T35 l0 a1).f2), .slice (some ad172) ((rd_T35 l0 a1).f3).length c165_3, .slice A165_4 ((rd_T35 l0 a1).f4).length c165_4, .string ((rd_T35 l0 a1).f5), .bool ((rd_T35 l0 a1).f6)] 35 (0, 0)) (by (with_reducible repeat (first | refine blk_drewN ?_ _ | refine blk_drew ?_ | refine blk_alloc ?_ _)); exact BK166.out) hb); have n1_ := Aside0.mk (below_step (by repeat (first | (with_reducible first | exact HB.out | apply below_alloc | apply pw_below_drewN | apply below_drew1 | refine below_set ?_ GE166.out) | exact HB.out)) hb); clear BK166; clear HB; have BK166 := n0_; have HB := n1_; clear n0_ n1_; (try clear hb); (try clear hb2); (try clear hk); (try clear hi)))
                  (have q59 : (a1 : Int) ≤ ((l0.length : Int) : Int) := of_decide_eq_true (by with_reducible assumption); obtain ⟨i059, hi059, _, hsz59, _⟩ := info_parts info35; have hroom59 : l0.length ≤ c0 := HC0.out; have hC59 : Kd.C k35 _ (some ad165) l0.length l0 := HR0.out; have hcut59 := cut_to (P := Tryd.prog) 22 35 .i64 Tryd.underlying22 hi059 (some ad165) l0.length c0 a1 (of_decide_eq_true (by with_reducible assumption)) q59 hroom59; have hr59 := Kd.C_take (m := (a1 : Int).toNat) hC59 (by omega); have hy59 : y175.length = (a1 : Int).toNat := (by rw [Ny175.out, List.length_take]; omega); rw [← Ny175.out] at hr59; rw [← hy59] at hcut59; have HR178 := Aside0.mk hr59; have HC178 := Aside0.mk (show y175.length ≤ c0 from by omega); clear hr59 hC59 hroom59 hi059 hsz59; have KY59 := Aside0.mk hy59; clear hy59; replace q59 := eq_true q59)
                  repeat (go_quiet (first | (go_at_call 25; (with_reducible refine (Calls.args (jobs_within.calls k4 (some ad172) c165_3 (((rd_T35 l0 a1).f3).take (x92_4 : Int).toNat) (rd ((rd_T35 l0 a1).f3) x92_4) false _ ?side1 ?side2 A45.out ?sideG) ?argsE).mono ?_); (case sideG => first | (with_reducible exact HG.out) | (with_reducible exact HG.out.drewN _) | exact HG.out.below (by repeat (first | (with_reducible first | exact HB.out | apply below_alloc | apply pw_below_drewN | apply below_drew1 | refine below_set ?_ GE166.out) | exact HB.out))); (case side1 => repeat (first | exact (Kd.C_below HR173.out HB.out) | (with_reducible refine Kd.C_alloc ?_ _) | (with_reducible refine Kd.C_drewN ?_ _) | (with_reducible refine Kd.C_drew ?_))); (case side2 => exact HC173.out); (case argsE => first | rfl | (rw [List.length_take, Nat.min_eq_left (show (x92_4 : Int).toNat ≤ (((rd_T35 l0 a1).f3)).length from Int.toNat_le.2 (of_decide_eq_true (by with_reducible assumption)))])); rintro e w' ⟨rfl, ⟨nd, rfl⟩⟩; (try exact ⟨rfl, _, World.drewN_drewN _ _ _⟩)) | (go_at_call 26; (with_reducible refine (jobs_member.calls k4 _ _ y175 (rd ((rd_T35 l0 a1).f3) x92_4) t179 _ ?side1 ?side2 A51.out ?sideG).mono ?_); (case sideG => first | (with_reducible exact HG.out) | (with_reducible exact HG.out.drewN _) | exact HG.out.below (by repeat (first | (with_reducible first | exact HB.out | apply below_alloc | apply pw_below_drewN | apply below_drew1 | refine below_set ?_ GE166.out) | exact HB.out))); (case side1 => repeat (first | exact (Kd.C_below HR178.out (pw_below_drewN HB.out _)) | exact (Kd.C_below HR178.out (by repeat (first | (with_reducible first | exact HB.out | apply below_alloc | apply pw_below_drewN | apply below_drew1 | refine below_set ?_ GE166.out) | exact HB.out))) | (with_reducible refine Kd.C_alloc ?_ _) | (with_reducible refine Kd.C_drewN ?_ _) | (with_reducible refine Kd.C_drew ?_))); (case side2 => exact HC178.out); rintro e w60 ⟨rfl, hb⟩; have n0_ := Aside0.mk (blk_below (g := gb166) (o := .cells #[.int .i64 ((rd_T35 l0 a1).f0), .int .i64 ((rd_T35 l0 a1).f1), .int .i64 ((rd_T35 l0 a1).f2), .slice (some ad172) ((rd_T35 l0 a1).f3).length c165_3, .slice A165_4 ((rd_T35 l0 a1).f4).length c165_4, .string ((rd_T35 l0 a1).f5), .bool ((rd_T35 l0 a1).f6)] 35 (0, 0)) (by (with_reducible repeat (first | refine blk_drewN ?_ _ | refine blk_drew ?_ | refine blk_alloc ?_ _)); exact BK166.out) hb); have n1_ := Aside0.mk (below_step (by repeat (first | (with_reducible first | exact HB.out | apply below_alloc | apply pw_below_drewN | apply below_drew1 | refine below_set ?_ GE166.out) | exact HB.out)) hb); clear BK166; clear HB; have BK166 := n0_; have HB := n1_; clear n0_ n1_; (try clear hb); (try clear hb2); (try clear hk); (try clear hi))); try go_wp2_with (first | (go_at_call 25; (with_reducible refine (Calls.args (jobs_within.calls k4 (some ad172) c165_3 (((rd_T35 l0 a1).f3).take (x92_4 : Int).toNat) (rd ((rd_T35 l0 a1).f3) x92_4) false _ ?side1 ?side2 A45.out ?sideG) ?argsE).mono ?_); (case sideG => first | (with_reducible exact HG.out) | (with_reducible exact HG.out.drewN _) | exact HG.out.below (by repeat (first | (with_reducible first | exact HB.out | apply below_alloc | apply pw_below_drewN | apply below_drew1 | refine below_set ?_ GE166.out) | exact HB.out))); (case side1 => repeat (first | exact (Kd.C_below HR173.out HB.out) | (with_reducible refine Kd.C_alloc ?_ _) | (with_reducible refine Kd.C_drewN ?_ _) | (with_reducible refine Kd.C_drew ?_))); (case side2 => exact HC173.out); (case argsE => first | rfl | (rw [List.length_take, Nat.min_eq_left (show (x92_4 : Int).toNat ≤ (((rd_T35 l0 a1).f3)).length from Int.toNat_le.2 (of_decide_eq_true (by with_reducible assumption)))])); rintro e w' ⟨rfl, ⟨nd, rfl⟩⟩; (try exact ⟨rfl, _, World.drewN_drewN _ _ _⟩)) | (go_at_call 26; (with_reducible refine (jobs_member.calls k4 _ _ y175 (rd ((rd_T35 l0 a1).f3) x92_4) t179 _ ?side1 ?side2 A51.out ?sideG).mono ?_); (case sideG => first | (with_reducible exact HG.out) | (with_reducible exact HG.out.drewN _) | exact HG.out.below (by repeat (first | (with_reducible first | exact HB.out | apply below_alloc | apply pw_below_drewN | apply below_drew1 | refine below_set ?_ GE166.out) | exact HB.out))); (case side1 => repeat (first | exact (Kd.C_below HR178.out (pw_below_drewN HB.out _)) | exact (Kd.C_below HR178.out (by repeat (first | (with_reducible first | exact HB.out | apply below_alloc | apply pw_below_drewN | apply below_drew1 | refine below_set ?_ GE166.out) | exact HB.out))) | (with_reducible refine Kd.C_alloc ?_ _) | (with_reducible refine Kd.C_drewN ?_ _) | (with_reducible refine Kd.C_drew ?_))); (case side2 => exact HC178.out); rintro e w60 ⟨rfl, hb⟩; have n0_ := Aside0.mk (blk_below (g := gb166) (o := .cells #[.int .i64 ((rd_T35 l0 a1).f0), .int .i64 ((rd_T35 l0 a1).f1), .int .i64 ((rd_T35 l0 a1).f2), .slice (some ad172) ((rd_T35 l0 a1).f3).length c165_3, .slice A165_4 ((rd_T35 l0 a1).f4).length c165_4, .string ((rd_T35 l0 a1).f5), .bool ((rd_T35 l0 a1).f6)] 35 (0, 0)) (by (with_reducible repeat (first | refine blk_drewN ?_ _ | refine blk_drew ?_ | refine blk_alloc ?_ _)); exact BK166.out) hb); have n1_ := Aside0.mk (below_step (by repeat (first | (with_reducible first | exact HB.out | apply below_alloc | apply pw_below_drewN | apply below_drew1 | refine below_set ?_ GE166.out) | exact HB.out)) hb); clear BK166; clear HB; have BK166 := n0_; have HB := n1_; clear n0_ n1_; (try clear hb); (try clear hb2); (try clear hk); (try clear hi))))
                  go_roundg k4
                  case measure => have := HJ4.out; have := HK2.out; have := HK3.out; have := HK4.out; omega
                  case rel => exact ⟨(wrap64 (x92_4 + 1)), (by first | rfl | (simp; done) | (simp [*]; done)), H', ⟨by have := HJ4.out; have := HK2.out; have := HK3.out; have := HK4.out; omega⟩, ⟨by (with_reducible repeat (first | refine blk_drewN ?_ _ | refine blk_drew ?_ | refine blk_alloc ?_ _)); exact BK166.out⟩, ⟨by repeat (first | (with_reducible first | exact HB.out | apply below_alloc | apply pw_below_drewN | apply below_drew1 | refine below_set ?_ GE166.out) | exact HB.out)⟩⟩
end Go.Proofs.YthafbimhmfjcoaaDoor.PV

-- Written by a program of this session's (wip/mkprint.py) out of the translation; the texts of functions that the program does not take are mine.
import Derived.Test.YtphgcpoefpogfaaDoorPSx0
import Derived.Test.YtphgcpoefpogfaaDoorPSx10
namespace Go.Proofs.YtphgcpoefpogfaaDoor.PS
open Go.RowKit Go.Proofs.YtphgcpoefpogfaaDoorW.PrintWords Go.Proofs.YtphgcpoefpogfaaDoorW.PrintLast Go.Proofs.YtphgcpoefpogfaaDoorW.PrintMore
attribute [local go_sem] max2_int min2_int max_two min_two max_three min_three max_four min_four   -- for this text's walks alone
set_option linter.unusedVariables false
set_option linter.unusedSimpArgs false

/-! ### jobshellref31_SameReq: function 19 -/
def jobshellref31_SameReq.j0 : Nat → Bool → Int → Int → Int → Int → Int → Int → Int → Int → ByteArray → ByteArray → List ByteArray → List ByteArray → Int → Int → Int → Int → Int → Int → Int → Int → ByteArray → ByteArray → List ByteArray → List ByteArray → Option (Bool)
  | 0, _, _, _, _, _, _, _, _, _, _, _, _, _, _, _, _, _, _, _, _, _, _, _, _, _ => none
  | k + 1, x72, x267000, x267001, x267002, x267003, x267004, x267005, x267006, x267007, x267008, x267009, x267010, x267011, x268000, x268001, x268002, x268003, x268004, x268005, x268006, x268007, x268008, x268009, x268010, x268011 => if x72 = true then (some false) else ((jobshellref31_Texts.f k x267010 x268010).bind fun t268 => (if t268 = true then ((jobshellref31_Texts.f k x267011 x268011).bind fun t269 => (some t269)) else (some false)))
def jobshellref31_SameReq.f (k : Nat) (a0_0 : Int) (a0_1 : Int) (a0_2 : Int) (a0_3 : Int) (a0_4 : Int) (a0_5 : Int) (a0_6 : Int) (a0_7 : Int) (a0_8 : ByteArray) (a0_9 : ByteArray) (l0_10 : List ByteArray) (l0_11 : List ByteArray) (a1_0 : Int) (a1_1 : Int) (a1_2 : Int) (a1_3 : Int) (a1_4 : Int) (a1_5 : Int) (a1_6 : Int) (a1_7 : Int) (a1_8 : ByteArray) (a1_9 : ByteArray) (l1_10 : List ByteArray) (l1_11 : List ByteArray) : Option (Bool) := if a0_0 = a1_0 then (if a0_1 = a1_1 then (if a0_2 = a1_2 then (if a0_3 = a1_3 then (if a0_4 = a1_4 then (if a0_5 = a1_5 then (if a0_6 = a1_6 then (if a0_7 = a1_7 then (if a0_8.toList = a1_8.toList then (jobshellref31_SameReq.j0 k (a0_9.toList != a1_9.toList) a0_0 a0_1 a0_2 a0_3 a0_4 a0_5 a0_6 a0_7 a0_8 a0_9 l0_10 l0_11 a1_0 a1_1 a1_2 a1_3 a1_4 a1_5 a1_6 a1_7 a1_8 a1_9 l1_10 l1_11) else (jobshellref31_SameReq.j0 k true a0_0 a0_1 a0_2 a0_3 a0_4 a0_5 a0_6 a0_7 a0_8 a0_9 l0_10 l0_11 a1_0 a1_1 a1_2 a1_3 a1_4 a1_5 a1_6 a1_7 a1_8 a1_9 l1_10 l1_11)) else (jobshellref31_SameReq.j0 k true a0_0 a0_1 a0_2 a0_3 a0_4 a0_5 a0_6 a0_7 a0_8 a0_9 l0_10 l0_11 a1_0 a1_1 a1_2 a1_3 a1_4 a1_5 a1_6 a1_7 a1_8 a1_9 l1_10 l1_11)) else (jobshellref31_SameReq.j0 k true a0_0 a0_1 a0_2 a0_3 a0_4 a0_5 a0_6 a0_7 a0_8 a0_9 l0_10 l0_11 a1_0 a1_1 a1_2 a1_3 a1_4 a1_5 a1_6 a1_7 a1_8 a1_9 l1_10 l1_11)) else (jobshellref31_SameReq.j0 k true a0_0 a0_1 a0_2 a0_3 a0_4 a0_5 a0_6 a0_7 a0_8 a0_9 l0_10 l0_11 a1_0 a1_1 a1_2 a1_3 a1_4 a1_5 a1_6 a1_7 a1_8 a1_9 l1_10 l1_11)) else (jobshellref31_SameReq.j0 k true a0_0 a0_1 a0_2 a0_3 a0_4 a0_5 a0_6 a0_7 a0_8 a0_9 l0_10 l0_11 a1_0 a1_1 a1_2 a1_3 a1_4 a1_5 a1_6 a1_7 a1_8 a1_9 l1_10 l1_11)) else (jobshellref31_SameReq.j0 k true a0_0 a0_1 a0_2 a0_3 a0_4 a0_5 a0_6 a0_7 a0_8 a0_9 l0_10 l0_11 a1_0 a1_1 a1_2 a1_3 a1_4 a1_5 a1_6 a1_7 a1_8 a1_9 l1_10 l1_11)) else (jobshellref31_SameReq.j0 k true a0_0 a0_1 a0_2 a0_3 a0_4 a0_5 a0_6 a0_7 a0_8 a0_9 l0_10 l0_11 a1_0 a1_1 a1_2 a1_3 a1_4 a1_5 a1_6 a1_7 a1_8 a1_9 l1_10 l1_11)) else (jobshellref31_SameReq.j0 k true a0_0 a0_1 a0_2 a0_3 a0_4 a0_5 a0_6 a0_7 a0_8 a0_9 l0_10 l0_11 a1_0 a1_1 a1_2 a1_3 a1_4 a1_5 a1_6 a1_7 a1_8 a1_9 l1_10 l1_11)) else (jobshellref31_SameReq.j0 k true a0_0 a0_1 a0_2 a0_3 a0_4 a0_5 a0_6 a0_7 a0_8 a0_9 l0_10 l0_11 a1_0 a1_1 a1_2 a1_3 a1_4 a1_5 a1_6 a1_7 a1_8 a1_9 l1_10 l1_11)
theorem jobshellref31_SameReq.mono_l : ∀ k, (∀ y0 y1 y2 y3 y4 y5 y6 y7 y8 y9 y10 y11 y12 y13 y14 y15 y16 y17 y18 y19 y20 y21 y22 y23 y24, LeO (jobshellref31_SameReq.j0 k y0 y1 y2 y3 y4 y5 y6 y7 y8 y9 y10 y11 y12 y13 y14 y15 y16 y17 y18 y19 y20 y21 y22 y23 y24) (jobshellref31_SameReq.j0 (k + 1) y0 y1 y2 y3 y4 y5 y6 y7 y8 y9 y10 y11 y12 y13 y14 y15 y16 y17 y18 y19 y20 y21 y22 y23 y24))
  | 0 => fun _ _ _ _ _ _ _ _ _ _ _ _ _ _ _ _ _ _ _ _ _ _ _ _ _ r h => by simp [jobshellref31_SameReq.j0] at h
  | k + 1 => by
    have ih0 := jobshellref31_SameReq.mono_l k
    · intro y0 y1 y2 y3 y4 y5 y6 y7 y8 y9 y10 y11 y12 y13 y14 y15 y16 y17 y18 y19 y20 y21 y22 y23 y24
      unfold jobshellref31_SameReq.j0
      repeat' first
      | (with_reducible exact ih0 _ _ _ _ _ _ _ _ _ _ _ _ _ _ _ _ _ _ _ _ _ _ _ _ _)
      | (with_reducible exact jobshellref31_Texts.mono _ _ _)
      | (with_reducible exact LeO.refl _)
      | (with_reducible exact LeO.none _)
      | (with_reducible refine LeO.ite ?_ ?_)
      | (with_reducible refine LeO.bind ?_ (fun _ => ?_))
      | exact ih0 _ _ _ _ _ _ _ _ _ _ _ _ _ _ _ _ _ _ _ _ _ _ _ _ _
      | exact jobshellref31_Texts.mono _ _ _
      | exact LeO.none _
      | refine LeO.ite ?_ ?_
      | refine LeO.bind ?_ (fun _ => ?_)
theorem jobshellref31_SameReq.mono : ∀ a0 a1 a2 a3 a4 a5 a6 a7 a8 a9 a10 a11 a12 a13 a14 a15 a16 a17 a18 a19 a20 a21 a22 a23 k, LeO (jobshellref31_SameReq.f k a0 a1 a2 a3 a4 a5 a6 a7 a8 a9 a10 a11 a12 a13 a14 a15 a16 a17 a18 a19 a20 a21 a22 a23) (jobshellref31_SameReq.f (k + 1) a0 a1 a2 a3 a4 a5 a6 a7 a8 a9 a10 a11 a12 a13 a14 a15 a16 a17 a18 a19 a20 a21 a22 a23) := by
  intro a0 a1 a2 a3 a4 a5 a6 a7 a8 a9 a10 a11 a12 a13 a14 a15 a16 a17 a18 a19 a20 a21 a22 a23 k
  have ih0 := jobshellref31_SameReq.mono_l k
  unfold jobshellref31_SameReq.f
  repeat' first
      | (with_reducible exact ih0 _ _ _ _ _ _ _ _ _ _ _ _ _ _ _ _ _ _ _ _ _ _ _ _ _)
      | (with_reducible exact jobshellref31_Texts.mono _ _ _)
      | (with_reducible exact LeO.refl _)
      | (with_reducible exact LeO.none _)
      | (with_reducible refine LeO.ite ?_ ?_)
      | (with_reducible refine LeO.bind ?_ (fun _ => ?_))
      | exact ih0 _ _ _ _ _ _ _ _ _ _ _ _ _ _ _ _ _ _ _ _ _ _ _ _ _
      | exact jobshellref31_Texts.mono _ _ _
      | exact LeO.none _
      | refine LeO.ite ?_ ?_
      | refine LeO.bind ?_ (fun _ => ?_)
set_option maxHeartbeats 8000000 in
set_option maxRecDepth 100000 in
theorem jobshellref31_SameReq.calls (k : Nat) (a0_0 : Int) (a0_1 : Int) (a0_2 : Int) (a0_3 : Int) (a0_4 : Int) (a0_5 : Int) (a0_6 : Int) (a0_7 : Int) (a0_8 : ByteArray) (a0_9 : ByteArray) (A0_10 : Option Addr) (c0_10 : Nat) (l0_10 : List ByteArray) (A0_11 : Option Addr) (c0_11 : Nat) (l0_11 : List ByteArray) (a1_0 : Int) (a1_1 : Int) (a1_2 : Int) (a1_3 : Int) (a1_4 : Int) (a1_5 : Int) (a1_6 : Int) (a1_7 : Int) (a1_8 : ByteArray) (a1_9 : ByteArray) (A1_10 : Option Addr) (c1_10 : Nat) (l1_10 : List ByteArray) (A1_11 : Option Addr) (c1_11 : Nat) (l1_11 : List ByteArray) (r : Bool) (w : World) (hr0_10 : Kd.C Kd.string w A0_10 l0_10.length l0_10) (hc0_10 : l0_10.length ≤ c0_10) (hr0_11 : Kd.C Kd.string w A0_11 l0_11.length l0_11) (hc0_11 : l0_11.length ≤ c0_11) (hr1_10 : Kd.C Kd.string w A1_10 l1_10.length l1_10) (hc1_10 : l1_10.length ≤ c1_10) (hr1_11 : Kd.C Kd.string w A1_11 l1_11.length l1_11) (hc1_11 : l1_11.length ≤ c1_11) (h : jobshellref31_SameReq.f k a0_0 a0_1 a0_2 a0_3 a0_4 a0_5 a0_6 a0_7 a0_8 a0_9 l0_10 l0_11 a1_0 a1_1 a1_2 a1_3 a1_4 a1_5 a1_6 a1_7 a1_8 a1_9 l1_10 l1_11 = some r) :
    Calls Tryd.prog 19 #[.agg #[.int .i64 a0_0, .int .i64 a0_1, .int .i64 a0_2, .int .i64 a0_3, .int .i64 a0_4, .int .i64 a0_5, .int .i64 a0_6, .int .i64 a0_7, .string a0_8, .string a0_9, .slice A0_10 l0_10.length c0_10, .slice A0_11 l0_11.length c0_11], .agg #[.int .i64 a1_0, .int .i64 a1_1, .int .i64 a1_2, .int .i64 a1_3, .int .i64 a1_4, .int .i64 a1_5, .int .i64 a1_6, .int .i64 a1_7, .string a1_8, .string a1_9, .slice A1_10 l1_10.length c1_10, .slice A1_11 l1_11.length c1_11]] w fun e w' => e = .returned (.bool r) ∧ Below w.heap.size w w' := by
  have hu40 := Tryd.underlying40
  have HR0_10 := Aside0.mk hr0_10
  have HC0_10 := Aside0.mk hc0_10
  clear hr0_10 hc0_10
  have HR0_11 := Aside0.mk hr0_11
  have HC0_11 := Aside0.mk hc0_11
  clear hr0_11 hc0_11
  have HR1_10 := Aside0.mk hr1_10
  have HC1_10 := Aside0.mk hc1_10
  clear hr1_10 hc1_10
  have HR1_11 := Aside0.mk hr1_11
  have HC1_11 := Aside0.mk hc1_11
  clear hr1_11 hc1_11
  have HB := Aside0.mk (Below.refl w.heap.size w)
  have H : (if a0_0 = a1_0 then (if a0_1 = a1_1 then (if a0_2 = a1_2 then (if a0_3 = a1_3 then (if a0_4 = a1_4 then (if a0_5 = a1_5 then (if a0_6 = a1_6 then (if a0_7 = a1_7 then (if a0_8.toList = a1_8.toList then (jobshellref31_SameReq.j0 k (a0_9.toList != a1_9.toList) a0_0 a0_1 a0_2 a0_3 a0_4 a0_5 a0_6 a0_7 a0_8 a0_9 l0_10 l0_11 a1_0 a1_1 a1_2 a1_3 a1_4 a1_5 a1_6 a1_7 a1_8 a1_9 l1_10 l1_11) else (jobshellref31_SameReq.j0 k true a0_0 a0_1 a0_2 a0_3 a0_4 a0_5 a0_6 a0_7 a0_8 a0_9 l0_10 l0_11 a1_0 a1_1 a1_2 a1_3 a1_4 a1_5 a1_6 a1_7 a1_8 a1_9 l1_10 l1_11)) else (jobshellref31_SameReq.j0 k true a0_0 a0_1 a0_2 a0_3 a0_4 a0_5 a0_6 a0_7 a0_8 a0_9 l0_10 l0_11 a1_0 a1_1 a1_2 a1_3 a1_4 a1_5 a1_6 a1_7 a1_8 a1_9 l1_10 l1_11)) else (jobshellref31_SameReq.j0 k true a0_0 a0_1 a0_2 a0_3 a0_4 a0_5 a0_6 a0_7 a0_8 a0_9 l0_10 l0_11 a1_0 a1_1 a1_2 a1_3 a1_4 a1_5 a1_6 a1_7 a1_8 a1_9 l1_10 l1_11)) else (jobshellref31_SameReq.j0 k true a0_0 a0_1 a0_2 a0_3 a0_4 a0_5 a0_6 a0_7 a0_8 a0_9 l0_10 l0_11 a1_0 a1_1 a1_2 a1_3 a1_4 a1_5 a1_6 a1_7 a1_8 a1_9 l1_10 l1_11)) else (jobshellref31_SameReq.j0 k true a0_0 a0_1 a0_2 a0_3 a0_4 a0_5 a0_6 a0_7 a0_8 a0_9 l0_10 l0_11 a1_0 a1_1 a1_2 a1_3 a1_4 a1_5 a1_6 a1_7 a1_8 a1_9 l1_10 l1_11)) else (jobshellref31_SameReq.j0 k true a0_0 a0_1 a0_2 a0_3 a0_4 a0_5 a0_6 a0_7 a0_8 a0_9 l0_10 l0_11 a1_0 a1_1 a1_2 a1_3 a1_4 a1_5 a1_6 a1_7 a1_8 a1_9 l1_10 l1_11)) else (jobshellref31_SameReq.j0 k true a0_0 a0_1 a0_2 a0_3 a0_4 a0_5 a0_6 a0_7 a0_8 a0_9 l0_10 l0_11 a1_0 a1_1 a1_2 a1_3 a1_4 a1_5 a1_6 a1_7 a1_8 a1_9 l1_10 l1_11)) else (jobshellref31_SameReq.j0 k true a0_0 a0_1 a0_2 a0_3 a0_4 a0_5 a0_6 a0_7 a0_8 a0_9 l0_10 l0_11 a1_0 a1_1 a1_2 a1_3 a1_4 a1_5 a1_6 a1_7 a1_8 a1_9 l1_10 l1_11)) else (jobshellref31_SameReq.j0 k true a0_0 a0_1 a0_2 a0_3 a0_4 a0_5 a0_6 a0_7 a0_8 a0_9 l0_10 l0_11 a1_0 a1_1 a1_2 a1_3 a1_4 a1_5 a1_6 a1_7 a1_8 a1_9 l1_10 l1_11)) = some r := h
  clear h
  have HC3 := Aside0.mk H
  clear H
  go_enter Tryd.func19, Tryd.ntmps19
  go_upto_region 1 with (first | ((with_reducible refine gate_dst (N := 2) rfl ?_); refine box_event ?hg (N := 2) ?hd (cs := #[.int .i64 a0_0, .int .i64 a0_1, .int .i64 a0_2, .int .i64 a0_3, .int .i64 a0_4, .int .i64 a0_5, .int .i64 a0_6, .int .i64 a0_7, .string a0_8, .string a0_9, .slice A0_10 l0_10.length c0_10, .slice A0_11 l0_11.length c0_11]) (t := 40) ?hr ?_; (case hd => rfl); (case hg => rfl); (case hr => first | (go_simp; done) | (go_simp; rfl)); intro gb266 hg w4 hbox hb; have n0_ := Aside0.mk (below_step (by repeat (first | (with_reducible first | exact HB.out | apply below_alloc | apply pw_below_drewN | apply below_drew1) | exact HB.out)) hb); have n1_ := Aside0.mk (hbox); have n2_ := Aside0.mk ((by rw [hg]; exact (below_size (by repeat (first | (with_reducible first | exact HB.out | apply below_alloc | apply pw_below_drewN | apply below_drew1) | exact HB.out))) : w.heap.size ≤ gb266)); have n3_ := Aside0.mk ((by rw [hg]; exact (below_size (by repeat (first | (with_reducible first | exact HB.out | apply below_alloc | apply pw_below_drewN | apply below_drew1) | exact HB.out))) : w.heap.size ≤ gb266)); clear HB; have HB := n0_; have BK266 := n1_; have GW266 := n2_; have GE266 := n3_; clear n0_ n1_ n2_ n3_; clear hb hbox hg) | ((with_reducible refine gate_dst (N := 3) rfl ?_); refine box_event ?hg (N := 3) ?hd (cs := #[.int .i64 a1_0, .int .i64 a1_1, .int .i64 a1_2, .int .i64 a1_3, .int .i64 a1_4, .int .i64 a1_5, .int .i64 a1_6, .int .i64 a1_7, .string a1_8, .string a1_9, .slice A1_10 l1_10.length c1_10, .slice A1_11 l1_11.length c1_11]) (t := 40) ?hr ?_; (case hd => rfl); (case hg => rfl); (case hr => first | (go_simp; done) | (go_simp; rfl)); intro gb267 hg w5 hbox hb; have n0_ := Aside0.mk (blk_below (g := gb266) (o := .cells #[.int .i64 a0_0, .int .i64 a0_1, .int .i64 a0_2, .int .i64 a0_3, .int .i64 a0_4, .int .i64 a0_5, .int .i64 a0_6, .int .i64 a0_7, .string a0_8, .string a0_9, .slice A0_10 l0_10.length c0_10, .slice A0_11 l0_11.length c0_11] 40 (0, 0)) (by (with_reducible repeat (first | refine blk_drewN ?_ _ | refine blk_drew ?_ | refine blk_alloc ?_ _)); exact BK266.out) hb); have n1_ := Aside0.mk (below_step (by repeat (first | (with_reducible first | exact HB.out | apply below_alloc | apply pw_below_drewN | apply below_drew1 | refine below_set ?_ GE266.out) | exact HB.out)) hb); have n2_ := Aside0.mk (hbox); have n3_ := Aside0.mk ((by rw [hg]; exact (below_size (by repeat (first | (with_reducible first | exact HB.out | apply below_alloc | apply pw_below_drewN | apply below_drew1 | refine below_set ?_ GE266.out) | exact HB.out))) : w.heap.size ≤ gb267)); have n4_ := Aside0.mk ((by rw [hg]; exact (below_size (by repeat (first | (with_reducible first | exact HB.out | apply below_alloc | apply pw_below_drewN | apply below_drew1 | refine below_set ?_ GE266.out) | exact HB.out))) : w.heap.size ≤ gb267)); have n5_ := Aside0.mk ((by rw [hg]; exact Nat.ne_of_lt (blk_lt (g := gb266) (o := .cells #[.int .i64 a0_0, .int .i64 a0_1, .int .i64 a0_2, .int .i64 a0_3, .int .i64 a0_4, .int .i64 a0_5, .int .i64 a0_6, .int .i64 a0_7, .string a0_8, .string a0_9, .slice A0_10 l0_10.length c0_10, .slice A0_11 l0_11.length c0_11] 40 (0, 0)) (by (with_reducible repeat (first | refine blk_drewN ?_ _ | refine blk_drew ?_ | refine blk_alloc ?_ _)); exact BK266.out)) : gb266 ≠ gb267)); have n6_ := Aside0.mk ((by rw [hg]; exact Nat.ne_of_gt (blk_lt (g := gb266) (o := .cells #[.int .i64 a0_0, .int .i64 a0_1, .int .i64 a0_2, .int .i64 a0_3, .int .i64 a0_4, .int .i64 a0_5, .int .i64 a0_6, .int .i64 a0_7, .string a0_8, .string a0_9, .slice A0_10 l0_10.length c0_10, .slice A0_11 l0_11.length c0_11] 40 (0, 0)) (by (with_reducible repeat (first | refine blk_drewN ?_ _ | refine blk_drew ?_ | refine blk_alloc ?_ _)); exact BK266.out)) : gb267 ≠ gb266)); clear BK266; clear HB; have BK266 := n0_; have HB := n1_; have BK267 := n2_; have GW267 := n3_; have GE267 := n4_; have NB266_267 := n5_; have NB267_266 := n6_; clear n0_ n1_ n2_ n3_ n4_ n5_ n6_; clear hb hbox hg))
  (try simp only [Act.put, List.setIfInBounds_toArray, List.set_cons_zero, List.set_cons_succ])
  go_cut [72] (fun v72 wc => ∃ (kq : Nat) (x72_2 : Bool), v72 = .bool x72_2 ∧ Aside0 (jobshellref31_SameReq.j0 kq x72_2 a0_0 a0_1 a0_2 a0_3 a0_4 a0_5 a0_6 a0_7 a0_8 a0_9 l0_10 l0_11 a1_0 a1_1 a1_2 a1_3 a1_4 a1_5 a1_6 a1_7 a1_8 a1_9 l1_10 l1_11 = some r) ∧ Aside0 (kq ≤ k) ∧ Aside0 (wc.heap[gb266]? = some (.cells #[.int .i64 a0_0, .int .i64 a0_1, .int .i64 a0_2, .int .i64 a0_3, .int .i64 a0_4, .int .i64 a0_5, .int .i64 a0_6, .int .i64 a0_7, .string a0_8, .string a0_9, (.slice A0_10 l0_10.length c0_10), (.slice A0_11 l0_11.length c0_11)] 40 (0, 0))) ∧ Aside0 (wc.heap[gb267]? = some (.cells #[.int .i64 a1_0, .int .i64 a1_1, .int .i64 a1_2, .int .i64 a1_3, .int .i64 a1_4, .int .i64 a1_5, .int .i64 a1_6, .int .i64 a1_7, .string a1_8, .string a1_9, (.slice A1_10 l1_10.length c1_10), (.slice A1_11 l1_11.length c1_11)] 40 (0, 0))) ∧ Aside0 (Below w.heap.size w wc))
  case first =>
    have H := HC3.out
    clear HC3
    by_cases c6 : a0_0 = a1_0
    · rw [if_pos c6] at H
      have c6b0 : (a0_0 == a1_0) = true := beq_iff_eq.mpr c6
      have c6b1 : (a0_0 != a1_0) = false := bne_eq_false_iff_eq.mpr c6
      clear c6
      (first | rw [c6b0] | (simp only [i64_w, i32_w]; rw [c6b0]) | skip)
      by_cases c7 : a0_1 = a1_1
      · rw [if_pos c7] at H
        have c7b0 : (a0_1 == a1_1) = true := beq_iff_eq.mpr c7
        have c7b1 : (a0_1 != a1_1) = false := bne_eq_false_iff_eq.mpr c7
        clear c7
        by_cases c8 : a0_2 = a1_2
        · rw [if_pos c8] at H
          have c8b0 : (a0_2 == a1_2) = true := beq_iff_eq.mpr c8
          have c8b1 : (a0_2 != a1_2) = false := bne_eq_false_iff_eq.mpr c8
          clear c8
          by_cases c9 : a0_3 = a1_3
          · rw [if_pos c9] at H
            have c9b0 : (a0_3 == a1_3) = true := beq_iff_eq.mpr c9
            have c9b1 : (a0_3 != a1_3) = false := bne_eq_false_iff_eq.mpr c9
            clear c9
            by_cases c10 : a0_4 = a1_4
            · rw [if_pos c10] at H
              have c10b0 : (a0_4 == a1_4) = true := beq_iff_eq.mpr c10
              have c10b1 : (a0_4 != a1_4) = false := bne_eq_false_iff_eq.mpr c10
              clear c10
              by_cases c11 : a0_5 = a1_5
              · rw [if_pos c11] at H
                have c11b0 : (a0_5 == a1_5) = true := beq_iff_eq.mpr c11
                have c11b1 : (a0_5 != a1_5) = false := bne_eq_false_iff_eq.mpr c11
                clear c11
                by_cases c12 : a0_6 = a1_6
                · rw [if_pos c12] at H
                  have c12b0 : (a0_6 == a1_6) = true := beq_iff_eq.mpr c12
                  have c12b1 : (a0_6 != a1_6) = false := bne_eq_false_iff_eq.mpr c12
                  clear c12
                  by_cases c13 : a0_7 = a1_7
                  · rw [if_pos c13] at H
                    have c13b0 : (a0_7 == a1_7) = true := beq_iff_eq.mpr c13
                    have c13b1 : (a0_7 != a1_7) = false := bne_eq_false_iff_eq.mpr c13
                    clear c13
                    by_cases c14 : a0_8.toList = a1_8.toList
                    · rw [if_pos c14] at H
                      have c14b0 : (a0_8.toList == a1_8.toList) = true := beq_iff_eq.mpr c14
                      have c14b1 : (a0_8.toList != a1_8.toList) = false := bne_eq_false_iff_eq.mpr c14
                      clear c14
                      have H' := Aside0.mk H
                      clear H
                      have hnb15 := NB266_267.out
                      have hnc15 := NB267_266.out
                      have hcz16_0 : w5.cell? ⟨gb266, 0, none⟩ = some (.int .i64 a0_0) := (blk_cell BK266.out 0).trans rfl
                      have hcz16_1 : w5.cell? ⟨gb266, 1, none⟩ = some (.int .i64 a0_1) := (blk_cell BK266.out 1).trans rfl
                      have hcz16_2 : w5.cell? ⟨gb266, 2, none⟩ = some (.int .i64 a0_2) := (blk_cell BK266.out 2).trans rfl
                      have hcz16_3 : w5.cell? ⟨gb266, 3, none⟩ = some (.int .i64 a0_3) := (blk_cell BK266.out 3).trans rfl
                      have hcz16_4 : w5.cell? ⟨gb266, 4, none⟩ = some (.int .i64 a0_4) := (blk_cell BK266.out 4).trans rfl
                      have hcz16_5 : w5.cell? ⟨gb266, 5, none⟩ = some (.int .i64 a0_5) := (blk_cell BK266.out 5).trans rfl
                      have hcz16_6 : w5.cell? ⟨gb266, 6, none⟩ = some (.int .i64 a0_6) := (blk_cell BK266.out 6).trans rfl
                      have hcz16_7 : w5.cell? ⟨gb266, 7, none⟩ = some (.int .i64 a0_7) := (blk_cell BK266.out 7).trans rfl
                      have hcz16_8 : w5.cell? ⟨gb266, 8, none⟩ = some (.string a0_8) := (blk_cell BK266.out 8).trans rfl
                      have hcz16_9 : w5.cell? ⟨gb266, 9, none⟩ = some (.string a0_9) := (blk_cell BK266.out 9).trans rfl
                      have hcz16_10 : w5.cell? ⟨gb266, 10, none⟩ = some (.slice A0_10 l0_10.length c0_10) := (blk_cell BK266.out 10).trans rfl
                      have hcz16_11 : w5.cell? ⟨gb266, 11, none⟩ = some (.slice A0_11 l0_11.length c0_11) := (blk_cell BK266.out 11).trans rfl
                      have hfz16_0 := blk_frozen BK266.out 0
                      have hfz16_1 := blk_frozen BK266.out 1
                      have hfz16_2 := blk_frozen BK266.out 2
                      have hfz16_3 := blk_frozen BK266.out 3
                      have hfz16_4 := blk_frozen BK266.out 4
                      have hfz16_5 := blk_frozen BK266.out 5
                      have hfz16_6 := blk_frozen BK266.out 6
                      have hfz16_7 := blk_frozen BK266.out 7
                      have hfz16_8 := blk_frozen BK266.out 8
                      have hfz16_9 := blk_frozen BK266.out 9
                      have hfz16_10 := blk_frozen BK266.out 10
                      have hfz16_11 := blk_frozen BK266.out 11
                      have hcz17_0 : w5.cell? ⟨gb267, 0, none⟩ = some (.int .i64 a1_0) := (blk_cell BK267.out 0).trans rfl
                      have hcz17_1 : w5.cell? ⟨gb267, 1, none⟩ = some (.int .i64 a1_1) := (blk_cell BK267.out 1).trans rfl
                      have hcz17_2 : w5.cell? ⟨gb267, 2, none⟩ = some (.int .i64 a1_2) := (blk_cell BK267.out 2).trans rfl
                      have hcz17_3 : w5.cell? ⟨gb267, 3, none⟩ = some (.int .i64 a1_3) := (blk_cell BK267.out 3).trans rfl
                      have hcz17_4 : w5.cell? ⟨gb267, 4, none⟩ = some (.int .i64 a1_4) := (blk_cell BK267.out 4).trans rfl
                      have hcz17_5 : w5.cell? ⟨gb267, 5, none⟩ = some (.int .i64 a1_5) := (blk_cell BK267.out 5).trans rfl
                      have hcz17_6 : w5.cell? ⟨gb267, 6, none⟩ = some (.int .i64 a1_6) := (blk_cell BK267.out 6).trans rfl
                      have hcz17_7 : w5.cell? ⟨gb267, 7, none⟩ = some (.int .i64 a1_7) := (blk_cell BK267.out 7).trans rfl
                      have hcz17_8 : w5.cell? ⟨gb267, 8, none⟩ = some (.string a1_8) := (blk_cell BK267.out 8).trans rfl
                      have hcz17_9 : w5.cell? ⟨gb267, 9, none⟩ = some (.string a1_9) := (blk_cell BK267.out 9).trans rfl
                      have hcz17_10 : w5.cell? ⟨gb267, 10, none⟩ = some (.slice A1_10 l1_10.length c1_10) := (blk_cell BK267.out 10).trans rfl
                      have hcz17_11 : w5.cell? ⟨gb267, 11, none⟩ = some (.slice A1_11 l1_11.length c1_11) := (blk_cell BK267.out 11).trans rfl
                      have hfz17_0 := blk_frozen BK267.out 0
                      have hfz17_1 := blk_frozen BK267.out 1
                      have hfz17_2 := blk_frozen BK267.out 2
                      have hfz17_3 := blk_frozen BK267.out 3
                      have hfz17_4 := blk_frozen BK267.out 4
                      have hfz17_5 := blk_frozen BK267.out 5
                      have hfz17_6 := blk_frozen BK267.out 6
                      have hfz17_7 := blk_frozen BK267.out 7
                      have hfz17_8 := blk_frozen BK267.out 8
                      have hfz17_9 := blk_frozen BK267.out 9
                      have hfz17_10 := blk_frozen BK267.out 10
                      have hfz17_11 := blk_frozen BK267.out 11
                      go_wp2
                      go_meet
                      case rel => exact ⟨_, ((a0_9.toList != a1_9.toList)), (by first | rfl | (simp; done) | (simp [*]; done) | exact congrArg (fun b => Ending.returned (Value.bool b)) (Ch.bne_nil _)), H', ⟨by first | omega | exact Nat.le_refl _⟩, ⟨by (with_reducible repeat (first | refine blk_drewN ?_ _ | refine blk_drew ?_ | refine blk_alloc ?_ _)); exact BK266.out⟩, ⟨by (with_reducible repeat (first | refine blk_drewN ?_ _ | refine blk_drew ?_ | refine blk_alloc ?_ _)); exact BK267.out⟩, ⟨by repeat (first | (with_reducible first | exact HB.out | apply below_alloc | apply pw_below_drewN | apply below_drew1 | refine below_set ?_ GE266.out | refine below_set ?_ GE267.out) | exact HB.out)⟩⟩
                    · rw [if_neg c14] at H
                      have c14b0 : (a0_8.toList == a1_8.toList) = false := beq_eq_false_iff_ne.mpr c14
                      have c14b1 : (a0_8.toList != a1_8.toList) = true := bne_iff_ne.mpr c14
                      have H' := Aside0.mk H
                      clear H
                      have hnb18 := NB266_267.out
                      have hnc18 := NB267_266.out
                      have hcz19_0 : w5.cell? ⟨gb266, 0, none⟩ = some (.int .i64 a0_0) := (blk_cell BK266.out 0).trans rfl
                      have hcz19_1 : w5.cell? ⟨gb266, 1, none⟩ = some (.int .i64 a0_1) := (blk_cell BK266.out 1).trans rfl
                      have hcz19_2 : w5.cell? ⟨gb266, 2, none⟩ = some (.int .i64 a0_2) := (blk_cell BK266.out 2).trans rfl
                      have hcz19_3 : w5.cell? ⟨gb266, 3, none⟩ = some (.int .i64 a0_3) := (blk_cell BK266.out 3).trans rfl
                      have hcz19_4 : w5.cell? ⟨gb266, 4, none⟩ = some (.int .i64 a0_4) := (blk_cell BK266.out 4).trans rfl
                      have hcz19_5 : w5.cell? ⟨gb266, 5, none⟩ = some (.int .i64 a0_5) := (blk_cell BK266.out 5).trans rfl
                      have hcz19_6 : w5.cell? ⟨gb266, 6, none⟩ = some (.int .i64 a0_6) := (blk_cell BK266.out 6).trans rfl
                      have hcz19_7 : w5.cell? ⟨gb266, 7, none⟩ = some (.int .i64 a0_7) := (blk_cell BK266.out 7).trans rfl
                      have hcz19_8 : w5.cell? ⟨gb266, 8, none⟩ = some (.string a0_8) := (blk_cell BK266.out 8).trans rfl
                      have hcz19_9 : w5.cell? ⟨gb266, 9, none⟩ = some (.string a0_9) := (blk_cell BK266.out 9).trans rfl
                      have hcz19_10 : w5.cell? ⟨gb266, 10, none⟩ = some (.slice A0_10 l0_10.length c0_10) := (blk_cell BK266.out 10).trans rfl
                      have hcz19_11 : w5.cell? ⟨gb266, 11, none⟩ = some (.slice A0_11 l0_11.length c0_11) := (blk_cell BK266.out 11).trans rfl
                      have hfz19_0 := blk_frozen BK266.out 0
                      have hfz19_1 := blk_frozen BK266.out 1
                      have hfz19_2 := blk_frozen BK266.out 2
                      have hfz19_3 := blk_frozen BK266.out 3
                      have hfz19_4 := blk_frozen BK266.out 4
                      have hfz19_5 := blk_frozen BK266.out 5
                      have hfz19_6 := blk_frozen BK266.out 6
                      have hfz19_7 := blk_frozen BK266.out 7
                      have hfz19_8 := blk_frozen BK266.out 8
                      have hfz19_9 := blk_frozen BK266.out 9
                      have hfz19_10 := blk_frozen BK266.out 10
                      have hfz19_11 := blk_frozen BK266.out 11
                      have hcz20_0 : w5.cell? ⟨gb267, 0, none⟩ = some (.int .i64 a1_0) := (blk_cell BK267.out 0).trans rfl
                      have hcz20_1 : w5.cell? ⟨gb267, 1, none⟩ = some (.int .i64 a1_1) := (blk_cell BK267.out 1).trans rfl
                      have hcz20_2 : w5.cell? ⟨gb267, 2, none⟩ = some (.int .i64 a1_2) := (blk_cell BK267.out 2).trans rfl
                      have hcz20_3 : w5.cell? ⟨gb267, 3, none⟩ = some (.int .i64 a1_3) := (blk_cell BK267.out 3).trans rfl
                      have hcz20_4 : w5.cell? ⟨gb267, 4, none⟩ = some (.int .i64 a1_4) := (blk_cell BK267.out 4).trans rfl
                      have hcz20_5 : w5.cell? ⟨gb267, 5, none⟩ = some (.int .i64 a1_5) := (blk_cell BK267.out 5).trans rfl
                      have hcz20_6 : w5.cell? ⟨gb267, 6, none⟩ = some (.int .i64 a1_6) := (blk_cell BK267.out 6).trans rfl
                      have hcz20_7 : w5.cell? ⟨gb267, 7, none⟩ = some (.int .i64 a1_7) := (blk_cell BK267.out 7).trans rfl
                      have hcz20_8 : w5.cell? ⟨gb267, 8, none⟩ = some (.string a1_8) := (blk_cell BK267.out 8).trans rfl
                      have hcz20_9 : w5.cell? ⟨gb267, 9, none⟩ = some (.string a1_9) := (blk_cell BK267.out 9).trans rfl
                      have hcz20_10 : w5.cell? ⟨gb267, 10, none⟩ = some (.slice A1_10 l1_10.length c1_10) := (blk_cell BK267.out 10).trans rfl
                      have hcz20_11 : w5.cell? ⟨gb267, 11, none⟩ = some (.slice A1_11 l1_11.length c1_11) := (blk_cell BK267.out 11).trans rfl
                      have hfz20_0 := blk_frozen BK267.out 0
                      have hfz20_1 := blk_frozen BK267.out 1
                      have hfz20_2 := blk_frozen BK267.out 2
                      have hfz20_3 := blk_frozen BK267.out 3
                      have hfz20_4 := blk_frozen BK267.out 4
                      have hfz20_5 := blk_frozen BK267.out 5
                      have hfz20_6 := blk_frozen BK267.out 6
                      have hfz20_7 := blk_frozen BK267.out 7
                      have hfz20_8 := blk_frozen BK267.out 8
                      have hfz20_9 := blk_frozen BK267.out 9
                      have hfz20_10 := blk_frozen BK267.out 10
                      have hfz20_11 := blk_frozen BK267.out 11
                      go_wp2
                      go_meet
                      case rel => exact ⟨_, (true), (by first | rfl | (simp; done) | (simp [*]; done) | exact congrArg (fun b => Ending.returned (Value.bool b)) (Ch.bne_nil _)), H', ⟨by first | omega | exact Nat.le_refl _⟩, ⟨by (with_reducible repeat (first | refine blk_drewN ?_ _ | refine blk_drew ?_ | refine blk_alloc ?_ _)); exact BK266.out⟩, ⟨by (with_reducible repeat (first | refine blk_drewN ?_ _ | refine blk_drew ?_ | refine blk_alloc ?_ _)); exact BK267.out⟩, ⟨by repeat (first | (with_reducible first | exact HB.out | apply below_alloc | apply pw_below_drewN | apply below_drew1 | refine below_set ?_ GE266.out | refine below_set ?_ GE267.out) | exact HB.out)⟩⟩
                  · rw [if_neg c13] at H
                    have c13b0 : (a0_7 == a1_7) = false := beq_eq_false_iff_ne.mpr c13
                    have c13b1 : (a0_7 != a1_7) = true := bne_iff_ne.mpr c13
                    have H' := Aside0.mk H
                    clear H
                    have hnb21 := NB266_267.out
                    have hnc21 := NB267_266.out
                    have hcz22_0 : w5.cell? ⟨gb266, 0, none⟩ = some (.int .i64 a0_0) := (blk_cell BK266.out 0).trans rfl
                    have hcz22_1 : w5.cell? ⟨gb266, 1, none⟩ = some (.int .i64 a0_1) := (blk_cell BK266.out 1).trans rfl
                    have hcz22_2 : w5.cell? ⟨gb266, 2, none⟩ = some (.int .i64 a0_2) := (blk_cell BK266.out 2).trans rfl
                    have hcz22_3 : w5.cell? ⟨gb266, 3, none⟩ = some (.int .i64 a0_3) := (blk_cell BK266.out 3).trans rfl
                    have hcz22_4 : w5.cell? ⟨gb266, 4, none⟩ = some (.int .i64 a0_4) := (blk_cell BK266.out 4).trans rfl
                    have hcz22_5 : w5.cell? ⟨gb266, 5, none⟩ = some (.int .i64 a0_5) := (blk_cell BK266.out 5).trans rfl
                    have hcz22_6 : w5.cell? ⟨gb266, 6, none⟩ = some (.int .i64 a0_6) := (blk_cell BK266.out 6).trans rfl
                    have hcz22_7 : w5.cell? ⟨gb266, 7, none⟩ = some (.int .i64 a0_7) := (blk_cell BK266.out 7).trans rfl
                    have hcz22_8 : w5.cell? ⟨gb266, 8, none⟩ = some (.string a0_8) := (blk_cell BK266.out 8).trans rfl
                    have hcz22_9 : w5.cell? ⟨gb266, 9, none⟩ = some (.string a0_9) := (blk_cell BK266.out 9).trans rfl
                    have hcz22_10 : w5.cell? ⟨gb266, 10, none⟩ = some (.slice A0_10 l0_10.length c0_10) := (blk_cell BK266.out 10).trans rfl
                    have hcz22_11 : w5.cell? ⟨gb266, 11, none⟩ = some (.slice A0_11 l0_11.length c0_11) := (blk_cell BK266.out 11).trans rfl
                    have hfz22_0 := blk_frozen BK266.out 0
                    have hfz22_1 := blk_frozen BK266.out 1
                    have hfz22_2 := blk_frozen BK266.out 2
                    have hfz22_3 := blk_frozen BK266.out 3
                    have hfz22_4 := blk_frozen BK266.out 4
                    have hfz22_5 := blk_frozen BK266.out 5
                    have hfz22_6 := blk_frozen BK266.out 6
                    have hfz22_7 := blk_frozen BK266.out 7
                    have hfz22_8 := blk_frozen BK266.out 8
                    have hfz22_9 := blk_frozen BK266.out 9
                    have hfz22_10 := blk_frozen BK266.out 10
                    have hfz22_11 := blk_frozen BK266.out 11
                    have hcz23_0 : w5.cell? ⟨gb267, 0, none⟩ = some (.int .i64 a1_0) := (blk_cell BK267.out 0).trans rfl
                    have hcz23_1 : w5.cell? ⟨gb267, 1, none⟩ = some (.int .i64 a1_1) := (blk_cell BK267.out 1).trans rfl
                    have hcz23_2 : w5.cell? ⟨gb267, 2, none⟩ = some (.int .i64 a1_2) := (blk_cell BK267.out 2).trans rfl
                    have hcz23_3 : w5.cell? ⟨gb267, 3, none⟩ = some (.int .i64 a1_3) := (blk_cell BK267.out 3).trans rfl
                    have hcz23_4 : w5.cell? ⟨gb267, 4, none⟩ = some (.int .i64 a1_4) := (blk_cell BK267.out 4).trans rfl
                    have hcz23_5 : w5.cell? ⟨gb267, 5, none⟩ = some (.int .i64 a1_5) := (blk_cell BK267.out 5).trans rfl
                    have hcz23_6 : w5.cell? ⟨gb267, 6, none⟩ = some (.int .i64 a1_6) := (blk_cell BK267.out 6).trans rfl
                    have hcz23_7 : w5.cell? ⟨gb267, 7, none⟩ = some (.int .i64 a1_7) := (blk_cell BK267.out 7).trans rfl
                    have hcz23_8 : w5.cell? ⟨gb267, 8, none⟩ = some (.string a1_8) := (blk_cell BK267.out 8).trans rfl
                    have hcz23_9 : w5.cell? ⟨gb267, 9, none⟩ = some (.string a1_9) := (blk_cell BK267.out 9).trans rfl
                    have hcz23_10 : w5.cell? ⟨gb267, 10, none⟩ = some (.slice A1_10 l1_10.length c1_10) := (blk_cell BK267.out 10).trans rfl
                    have hcz23_11 : w5.cell? ⟨gb267, 11, none⟩ = some (.slice A1_11 l1_11.length c1_11) := (blk_cell BK267.out 11).trans rfl
                    have hfz23_0 := blk_frozen BK267.out 0
                    have hfz23_1 := blk_frozen BK267.out 1
                    have hfz23_2 := blk_frozen BK267.out 2
                    have hfz23_3 := blk_frozen BK267.out 3
                    have hfz23_4 := blk_frozen BK267.out 4
                    have hfz23_5 := blk_frozen BK267.out 5
                    have hfz23_6 := blk_frozen BK267.out 6
                    have hfz23_7 := blk_frozen BK267.out 7
                    have hfz23_8 := blk_frozen BK267.out 8
                    have hfz23_9 := blk_frozen BK267.out 9
                    have hfz23_10 := blk_frozen BK267.out 10
                    have hfz23_11 := blk_frozen BK267.out 11
                    go_wp2
                    go_meet
                    case rel => exact ⟨_, (true), (by first | rfl | (simp; done) | (simp [*]; done) | exact congrArg (fun b => Ending.returned (Value.bool b)) (Ch.bne_nil _)), H', ⟨by first | omega | exact Nat.le_refl _⟩, ⟨by (with_reducible repeat (first | refine blk_drewN ?_ _ | refine blk_drew ?_ | refine blk_alloc ?_ _)); exact BK266.out⟩, ⟨by (with_reducible repeat (first | refine blk_drewN ?_ _ | refine blk_drew ?_ | refine blk_alloc ?_ _)); exact BK267.out⟩, ⟨by repeat (first | (with_reducible first | exact HB.out | apply below_alloc | apply pw_below_drewN | apply below_drew1 | refine below_set ?_ GE266.out | refine below_set ?_ GE267.out) | exact HB.out)⟩⟩
                · rw [if_neg c12] at H
                  have c12b0 : (a0_6 == a1_6) = false := beq_eq_false_iff_ne.mpr c12
                  have c12b1 : (a0_6 != a1_6) = true := bne_iff_ne.mpr c12
                  have H' := Aside0.mk H
                  clear H
                  have hnb24 := NB266_267.out
                  have hnc24 := NB267_266.out
                  have hcz25_0 : w5.cell? ⟨gb266, 0, none⟩ = some (.int .i64 a0_0) := (blk_cell BK266.out 0).trans rfl
                  have hcz25_1 : w5.cell? ⟨gb266, 1, none⟩ = some (.int .i64 a0_1) := (blk_cell BK266.out 1).trans rfl
                  have hcz25_2 : w5.cell? ⟨gb266, 2, none⟩ = some (.int .i64 a0_2) := (blk_cell BK266.out 2).trans rfl
                  have hcz25_3 : w5.cell? ⟨gb266, 3, none⟩ = some (.int .i64 a0_3) := (blk_cell BK266.out 3).trans rfl
                  have hcz25_4 : w5.cell? ⟨gb266, 4, none⟩ = some (.int .i64 a0_4) := (blk_cell BK266.out 4).trans rfl
                  have hcz25_5 : w5.cell? ⟨gb266, 5, none⟩ = some (.int .i64 a0_5) := (blk_cell BK266.out 5).trans rfl
                  have hcz25_6 : w5.cell? ⟨gb266, 6, none⟩ = some (.int .i64 a0_6) := (blk_cell BK266.out 6).trans rfl
                  have hcz25_7 : w5.cell? ⟨gb266, 7, none⟩ = some (.int .i64 a0_7) := (blk_cell BK266.out 7).trans rfl
                  have hcz25_8 : w5.cell? ⟨gb266, 8, none⟩ = some (.string a0_8) := (blk_cell BK266.out 8).trans rfl
                  have hcz25_9 : w5.cell? ⟨gb266, 9, none⟩ = some (.string a0_9) := (blk_cell BK266.out 9).trans rfl
                  have hcz25_10 : w5.cell? ⟨gb266, 10, none⟩ = some (.slice A0_10 l0_10.length c0_10) := (blk_cell BK266.out 10).trans rfl
                  have hcz25_11 : w5.cell? ⟨gb266, 11, none⟩ = some (.slice A0_11 l0_11.length c0_11) := (blk_cell BK266.out 11).trans rfl
                  have hfz25_0 := blk_frozen BK266.out 0
                  have hfz25_1 := blk_frozen BK266.out 1
                  have hfz25_2 := blk_frozen BK266.out 2
                  have hfz25_3 := blk_frozen BK266.out 3
                  have hfz25_4 := blk_frozen BK266.out 4
                  have hfz25_5 := blk_frozen BK266.out 5
                  have hfz25_6 := blk_frozen BK266.out 6
                  have hfz25_7 := blk_frozen BK266.out 7
                  have hfz25_8 := blk_frozen BK266.out 8
                  have hfz25_9 := blk_frozen BK266.out 9
                  have hfz25_10 := blk_frozen BK266.out 10
                  have hfz25_11 := blk_frozen BK266.out 11
                  have hcz26_0 : w5.cell? ⟨gb267, 0, none⟩ = some (.int .i64 a1_0) := (blk_cell BK267.out 0).trans rfl
                  have hcz26_1 : w5.cell? ⟨gb267, 1, none⟩ = some (.int .i64 a1_1) := (blk_cell BK267.out 1).trans rfl
                  have hcz26_2 : w5.cell? ⟨gb267, 2, none⟩ = some (.int .i64 a1_2) := (blk_cell BK267.out 2).trans rfl
                  have hcz26_3 : w5.cell? ⟨gb267, 3, none⟩ = some (.int .i64 a1_3) := (blk_cell BK267.out 3).trans rfl
                  have hcz26_4 : w5.cell? ⟨gb267, 4, none⟩ = some (.int .i64 a1_4) := (blk_cell BK267.out 4).trans rfl
                  have hcz26_5 : w5.cell? ⟨gb267, 5, none⟩ = some (.int .i64 a1_5) := (blk_cell BK267.out 5).trans rfl
                  have hcz26_6 : w5.cell? ⟨gb267, 6, none⟩ = some (.int .i64 a1_6) := (blk_cell BK267.out 6).trans rfl
                  have hcz26_7 : w5.cell? ⟨gb267, 7, none⟩ = some (.int .i64 a1_7) := (blk_cell BK267.out 7).trans rfl
                  have hcz26_8 : w5.cell? ⟨gb267, 8, none⟩ = some (.string a1_8) := (blk_cell BK267.out 8).trans rfl
                  have hcz26_9 : w5.cell? ⟨gb267, 9, none⟩ = some (.string a1_9) := (blk_cell BK267.out 9).trans rfl
                  have hcz26_10 : w5.cell? ⟨gb267, 10, none⟩ = some (.slice A1_10 l1_10.length c1_10) := (blk_cell BK267.out 10).trans rfl
                  have hcz26_11 : w5.cell? ⟨gb267, 11, none⟩ = some (.slice A1_11 l1_11.length c1_11) := (blk_cell BK267.out 11).trans rfl
                  have hfz26_0 := blk_frozen BK267.out 0
                  have hfz26_1 := blk_frozen BK267.out 1
                  have hfz26_2 := blk_frozen BK267.out 2
                  have hfz26_3 := blk_frozen BK267.out 3
                  have hfz26_4 := blk_frozen BK267.out 4
                  have hfz26_5 := blk_frozen BK267.out 5
                  have hfz26_6 := blk_frozen BK267.out 6
                  have hfz26_7 := blk_frozen BK267.out 7
                  have hfz26_8 := blk_frozen BK267.out 8
                  have hfz26_9 := blk_frozen BK267.out 9
                  have hfz26_10 := blk_frozen BK267.out 10
                  have hfz26_11 := blk_frozen BK267.out 11
                  go_wp2
                  go_meet
                  case rel => exact ⟨_, (true), (by first | rfl | (simp; done) | (simp [*]; done) | exact congrArg (fun b => Ending.returned (Value.bool b)) (Ch.bne_nil _)), H', ⟨by first | omega | exact Nat.le_refl _⟩, ⟨by (with_reducible repeat (first | refine blk_drewN ?_ _ | refine blk_drew ?_ | refine blk_alloc ?_ _)); exact BK266.out⟩, ⟨by (with_reducible repeat (first | refine blk_drewN ?_ _ | refine blk_drew ?_ | refine blk_alloc ?_ _)); exact BK267.out⟩, ⟨by repeat (first | (with_reducible first | exact HB.out | apply below_alloc | apply pw_below_drewN | apply below_drew1 | refine below_set ?_ GE266.out | refine below_set ?_ GE267.out) | exact HB.out)⟩⟩
              · rw [if_neg c11] at H
                have c11b0 : (a0_5 == a1_5) = false := beq_eq_false_iff_ne.mpr c11
                have c11b1 : (a0_5 != a1_5) = true := bne_iff_ne.mpr c11
                have H' := Aside0.mk H
                clear H
                have hnb27 := NB266_267.out
                have hnc27 := NB267_266.out
                have hcz28_0 : w5.cell? ⟨gb266, 0, none⟩ = some (.int .i64 a0_0) := (blk_cell BK266.out 0).trans rfl
                have hcz28_1 : w5.cell? ⟨gb266, 1, none⟩ = some (.int .i64 a0_1) := (blk_cell BK266.out 1).trans rfl
                have hcz28_2 : w5.cell? ⟨gb266, 2, none⟩ = some (.int .i64 a0_2) := (blk_cell BK266.out 2).trans rfl
                have hcz28_3 : w5.cell? ⟨gb266, 3, none⟩ = some (.int .i64 a0_3) := (blk_cell BK266.out 3).trans rfl
                have hcz28_4 : w5.cell? ⟨gb266, 4, none⟩ = some (.int .i64 a0_4) := (blk_cell BK266.out 4).trans rfl
                have hcz28_5 : w5.cell? ⟨gb266, 5, none⟩ = some (.int .i64 a0_5) := (blk_cell BK266.out 5).trans rfl
                have hcz28_6 : w5.cell? ⟨gb266, 6, none⟩ = some (.int .i64 a0_6) := (blk_cell BK266.out 6).trans rfl
                have hcz28_7 : w5.cell? ⟨gb266, 7, none⟩ = some (.int .i64 a0_7) := (blk_cell BK266.out 7).trans rfl
                have hcz28_8 : w5.cell? ⟨gb266, 8, none⟩ = some (.string a0_8) := (blk_cell BK266.out 8).trans rfl
                have hcz28_9 : w5.cell? ⟨gb266, 9, none⟩ = some (.string a0_9) := (blk_cell BK266.out 9).trans rfl
                have hcz28_10 : w5.cell? ⟨gb266, 10, none⟩ = some (.slice A0_10 l0_10.length c0_10) := (blk_cell BK266.out 10).trans rfl
                have hcz28_11 : w5.cell? ⟨gb266, 11, none⟩ = some (.slice A0_11 l0_11.length c0_11) := (blk_cell BK266.out 11).trans rfl
                have hfz28_0 := blk_frozen BK266.out 0
                have hfz28_1 := blk_frozen BK266.out 1
                have hfz28_2 := blk_frozen BK266.out 2
                have hfz28_3 := blk_frozen BK266.out 3
                have hfz28_4 := blk_frozen BK266.out 4
                have hfz28_5 := blk_frozen BK266.out 5
                have hfz28_6 := blk_frozen BK266.out 6
                have hfz28_7 := blk_frozen BK266.out 7
                have hfz28_8 := blk_frozen BK266.out 8
                have hfz28_9 := blk_frozen BK266.out 9
                have hfz28_10 := blk_frozen BK266.out 10
                have hfz28_11 := blk_frozen BK266.out 11
                have hcz29_0 : w5.cell? ⟨gb267, 0, none⟩ = some (.int .i64 a1_0) := (blk_cell BK267.out 0).trans rfl
                have hcz29_1 : w5.cell? ⟨gb267, 1, none⟩ = some (.int .i64 a1_1) := (blk_cell BK267.out 1).trans rfl
                have hcz29_2 : w5.cell? ⟨gb267, 2, none⟩ = some (.int .i64 a1_2) := (blk_cell BK267.out 2).trans rfl
                have hcz29_3 : w5.cell? ⟨gb267, 3, none⟩ = some (.int .i64 a1_3) := (blk_cell BK267.out 3).trans rfl
                have hcz29_4 : w5.cell? ⟨gb267, 4, none⟩ = some (.int .i64 a1_4) := (blk_cell BK267.out 4).trans rfl
                have hcz29_5 : w5.cell? ⟨gb267, 5, none⟩ = some (.int .i64 a1_5) := (blk_cell BK267.out 5).trans rfl
                have hcz29_6 : w5.cell? ⟨gb267, 6, none⟩ = some (.int .i64 a1_6) := (blk_cell BK267.out 6).trans rfl
                have hcz29_7 : w5.cell? ⟨gb267, 7, none⟩ = some (.int .i64 a1_7) := (blk_cell BK267.out 7).trans rfl
                have hcz29_8 : w5.cell? ⟨gb267, 8, none⟩ = some (.string a1_8) := (blk_cell BK267.out 8).trans rfl
                have hcz29_9 : w5.cell? ⟨gb267, 9, none⟩ = some (.string a1_9) := (blk_cell BK267.out 9).trans rfl
                have hcz29_10 : w5.cell? ⟨gb267, 10, none⟩ = some (.slice A1_10 l1_10.length c1_10) := (blk_cell BK267.out 10).trans rfl
                have hcz29_11 : w5.cell? ⟨gb267, 11, none⟩ = some (.slice A1_11 l1_11.length c1_11) := (blk_cell BK267.out 11).trans rfl
                have hfz29_0 := blk_frozen BK267.out 0
                have hfz29_1 := blk_frozen BK267.out 1
                have hfz29_2 := blk_frozen BK267.out 2
                have hfz29_3 := blk_frozen BK267.out 3
                have hfz29_4 := blk_frozen BK267.out 4
                have hfz29_5 := blk_frozen BK267.out 5
                have hfz29_6 := blk_frozen BK267.out 6
                have hfz29_7 := blk_frozen BK267.out 7
                have hfz29_8 := blk_frozen BK267.out 8
                have hfz29_9 := blk_frozen BK267.out 9
                have hfz29_10 := blk_frozen BK267.out 10
                have hfz29_11 := blk_frozen BK267.out 11
                go_wp2
                go_meet
                case rel => exact ⟨_, (true), (by first | rfl | (simp; done) | (simp [*]; done) | exact congrArg (fun b => Ending.returned (Value.bool b)) (Ch.bne_nil _)), H', ⟨by first | omega | exact Nat.le_refl _⟩, ⟨by (with_reducible repeat (first | refine blk_drewN ?_ _ | refine blk_drew ?_ | refine blk_alloc ?_ _)); exact BK266.out⟩, ⟨by (with_reducible repeat (first | refine blk_drewN ?_ _ | refine blk_drew ?_ | refine blk_alloc ?_ _)); exact BK267.out⟩, ⟨by repeat (first | (with_reducible first | exact HB.out | apply below_alloc | apply pw_below_drewN | apply below_drew1 | refine below_set ?_ GE266.out | refine below_set ?_ GE267.out) | exact HB.out)⟩⟩
            · rw [if_neg c10] at H
              have c10b0 : (a0_4 == a1_4) = false := beq_eq_false_iff_ne.mpr c10
              have c10b1 : (a0_4 != a1_4) = true := bne_iff_ne.mpr c10
              have H' := Aside0.mk H
              clear H
              have hnb30 := NB266_267.out
              have hnc30 := NB267_266.out
              have hcz31_0 : w5.cell? ⟨gb266, 0, none⟩ = some (.int .i64 a0_0) := (blk_cell BK266.out 0).trans rfl
              have hcz31_1 : w5.cell? ⟨gb266, 1, none⟩ = some (.int .i64 a0_1) := (blk_cell BK266.out 1).trans rfl
              have hcz31_2 : w5.cell? ⟨gb266, 2, none⟩ = some (.int .i64 a0_2) := (blk_cell BK266.out 2).trans rfl
              have hcz31_3 : w5.cell? ⟨gb266, 3, none⟩ = some (.int .i64 a0_3) := (blk_cell BK266.out 3).trans rfl
              have hcz31_4 : w5.cell? ⟨gb266, 4, none⟩ = some (.int .i64 a0_4) := (blk_cell BK266.out 4).trans rfl
              have hcz31_5 : w5.cell? ⟨gb266, 5, none⟩ = some (.int .i64 a0_5) := (blk_cell BK266.out 5).trans rfl
              have hcz31_6 : w5.cell? ⟨gb266, 6, none⟩ = some (.int .i64 a0_6) := (blk_cell BK266.out 6).trans rfl
              have hcz31_7 : w5.cell? ⟨gb266, 7, none⟩ = some (.int .i64 a0_7) := (blk_cell BK266.out 7).trans rfl
              have hcz31_8 : w5.cell? ⟨gb266, 8, none⟩ = some (.string a0_8) := (blk_cell BK266.out 8).trans rfl
              have hcz31_9 : w5.cell? ⟨gb266, 9, none⟩ = some (.string a0_9) := (blk_cell BK266.out 9).trans rfl
              have hcz31_10 : w5.cell? ⟨gb266, 10, none⟩ = some (.slice A0_10 l0_10.length c0_10) := (blk_cell BK266.out 10).trans rfl
              have hcz31_11 : w5.cell? ⟨gb266, 11, none⟩ = some (.slice A0_11 l0_11.length c0_11) := (blk_cell BK266.out 11).trans rfl
              have hfz31_0 := blk_frozen BK266.out 0
              have hfz31_1 := blk_frozen BK266.out 1
              have hfz31_2 := blk_frozen BK266.out 2
              have hfz31_3 := blk_frozen BK266.out 3
              have hfz31_4 := blk_frozen BK266.out 4
              have hfz31_5 := blk_frozen BK266.out 5
              have hfz31_6 := blk_frozen BK266.out 6
              have hfz31_7 := blk_frozen BK266.out 7
              have hfz31_8 := blk_frozen BK266.out 8
              have hfz31_9 := blk_frozen BK266.out 9
              have hfz31_10 := blk_frozen BK266.out 10
              have hfz31_11 := blk_frozen BK266.out 11
              have hcz32_0 : w5.cell? ⟨gb267, 0, none⟩ = some (.int .i64 a1_0) := (blk_cell BK267.out 0).trans rfl
              have hcz32_1 : w5.cell? ⟨gb267, 1, none⟩ = some (.int .i64 a1_1) := (blk_cell BK267.out 1).trans rfl
              have hcz32_2 : w5.cell? ⟨gb267, 2, none⟩ = some (.int .i64 a1_2) := (blk_cell BK267.out 2).trans rfl
              have hcz32_3 : w5.cell? ⟨gb267, 3, none⟩ = some (.int .i64 a1_3) := (blk_cell BK267.out 3).trans rfl
              have hcz32_4 : w5.cell? ⟨gb267, 4, none⟩ = some (.int .i64 a1_4) := (blk_cell BK267.out 4).trans rfl
              have hcz32_5 : w5.cell? ⟨gb267, 5, none⟩ = some (.int .i64 a1_5) := (blk_cell BK267.out 5).trans rfl
              have hcz32_6 : w5.cell? ⟨gb267, 6, none⟩ = some (.int .i64 a1_6) := (blk_cell BK267.out 6).trans rfl
              have hcz32_7 : w5.cell? ⟨gb267, 7, none⟩ = some (.int .i64 a1_7) := (blk_cell BK267.out 7).trans rfl
              have hcz32_8 : w5.cell? ⟨gb267, 8, none⟩ = some (.string a1_8) := (blk_cell BK267.out 8).trans rfl
              have hcz32_9 : w5.cell? ⟨gb267, 9, none⟩ = some (.string a1_9) := (blk_cell BK267.out 9).trans rfl
              have hcz32_10 : w5.cell? ⟨gb267, 10, none⟩ = some (.slice A1_10 l1_10.length c1_10) := (blk_cell BK267.out 10).trans rfl
              have hcz32_11 : w5.cell? ⟨gb267, 11, none⟩ = some (.slice A1_11 l1_11.length c1_11) := (blk_cell BK267.out 11).trans rfl
              have hfz32_0 := blk_frozen BK267.out 0
              have hfz32_1 := blk_frozen BK267.out 1
              have hfz32_2 := blk_frozen BK267.out 2
              have hfz32_3 := blk_frozen BK267.out 3
              have hfz32_4 := blk_frozen BK267.out 4
              have hfz32_5 := blk_frozen BK267.out 5
              have hfz32_6 := blk_frozen BK267.out 6
              have hfz32_7 := blk_frozen BK267.out 7
              have hfz32_8 := blk_frozen BK267.out 8
              have hfz32_9 := blk_frozen BK267.out 9
              have hfz32_10 := blk_frozen BK267.out 10
              have hfz32_11 := blk_frozen BK267.out 11
              go_wp2
              go_meet
              case rel => exact ⟨_, (true), (by first | rfl | (simp; done) | (simp [*]; done) | exact congrArg (fun b => Ending.returned (Value.bool b)) (Ch.bne_nil _)), H', ⟨by first | omega | exact Nat.le_refl _⟩, ⟨by (with_reducible repeat (first | refine blk_drewN ?_ _ | refine blk_drew ?_ | refine blk_alloc ?_ _)); exact BK266.out⟩, ⟨by (with_reducible repeat (first | refine blk_drewN ?_ _ | refine blk_drew ?_ | refine blk_alloc ?_ _)); exact BK267.out⟩, ⟨by repeat (first | (with_reducible first | exact HB.out | apply below_alloc | apply pw_below_drewN | apply below_drew1 | refine below_set ?_ GE266.out | refine below_set ?_ GE267.out) | exact HB.out)⟩⟩
          · rw [if_neg c9] at H
            have c9b0 : (a0_3 == a1_3) = false := beq_eq_false_iff_ne.mpr c9
            have c9b1 : (a0_3 != a1_3) = true := bne_iff_ne.mpr c9
            have H' := Aside0.mk H
            clear H
            have hnb33 := NB266_267.out
            have hnc33 := NB267_266.out
            have hcz34_0 : w5.cell? ⟨gb266, 0, none⟩ = some (.int .i64 a0_0) := (blk_cell BK266.out 0).trans rfl
            have hcz34_1 : w5.cell? ⟨gb266, 1, none⟩ = some (.int .i64 a0_1) := (blk_cell BK266.out 1).trans rfl
            have hcz34_2 : w5.cell? ⟨gb266, 2, none⟩ = some (.int .i64 a0_2) := (blk_cell BK266.out 2).trans rfl
            have hcz34_3 : w5.cell? ⟨gb266, 3, none⟩ = some (.int .i64 a0_3) := (blk_cell BK266.out 3).trans rfl
            have hcz34_4 : w5.cell? ⟨gb266, 4, none⟩ = some (.int .i64 a0_4) := (blk_cell BK266.out 4).trans rfl
            have hcz34_5 : w5.cell? ⟨gb266, 5, none⟩ = some (.int .i64 a0_5) := (blk_cell BK266.out 5).trans rfl
            have hcz34_6 : w5.cell? ⟨gb266, 6, none⟩ = some (.int .i64 a0_6) := (blk_cell BK266.out 6).trans rfl
            have hcz34_7 : w5.cell? ⟨gb266, 7, none⟩ = some (.int .i64 a0_7) := (blk_cell BK266.out 7).trans rfl
            have hcz34_8 : w5.cell? ⟨gb266, 8, none⟩ = some (.string a0_8) := (blk_cell BK266.out 8).trans rfl
            have hcz34_9 : w5.cell? ⟨gb266, 9, none⟩ = some (.string a0_9) := (blk_cell BK266.out 9).trans rfl
            have hcz34_10 : w5.cell? ⟨gb266, 10, none⟩ = some (.slice A0_10 l0_10.length c0_10) := (blk_cell BK266.out 10).trans rfl
            have hcz34_11 : w5.cell? ⟨gb266, 11, none⟩ = some (.slice A0_11 l0_11.length c0_11) := (blk_cell BK266.out 11).trans rfl
            have hfz34_0 := blk_frozen BK266.out 0
            have hfz34_1 := blk_frozen BK266.out 1
            have hfz34_2 := blk_frozen BK266.out 2
            have hfz34_3 := blk_frozen BK266.out 3
            have hfz34_4 := blk_frozen BK266.out 4
            have hfz34_5 := blk_frozen BK266.out 5
            have hfz34_6 := blk_frozen BK266.out 6
            have hfz34_7 := blk_frozen BK266.out 7
            have hfz34_8 := blk_frozen BK266.out 8
            have hfz34_9 := blk_frozen BK266.out 9
            have hfz34_10 := blk_frozen BK266.out 10
            have hfz34_11 := blk_frozen BK266.out 11
            have hcz35_0 : w5.cell? ⟨gb267, 0, none⟩ = some (.int .i64 a1_0) := (blk_cell BK267.out 0).trans rfl
            have hcz35_1 : w5.cell? ⟨gb267, 1, none⟩ = some (.int .i64 a1_1) := (blk_cell BK267.out 1).trans rfl
            have hcz35_2 : w5.cell? ⟨gb267, 2, none⟩ = some (.int .i64 a1_2) := (blk_cell BK267.out 2).trans rfl
            have hcz35_3 : w5.cell? ⟨gb267, 3, none⟩ = some (.int .i64 a1_3) := (blk_cell BK267.out 3).trans rfl
            have hcz35_4 : w5.cell? ⟨gb267, 4, none⟩ = some (.int .i64 a1_4) := (blk_cell BK267.out 4).trans rfl
            have hcz35_5 : w5.cell? ⟨gb267, 5, none⟩ = some (.int .i64 a1_5) := (blk_cell BK267.out 5).trans rfl
            have hcz35_6 : w5.cell? ⟨gb267, 6, none⟩ = some (.int .i64 a1_6) := (blk_cell BK267.out 6).trans rfl
            have hcz35_7 : w5.cell? ⟨gb267, 7, none⟩ = some (.int .i64 a1_7) := (blk_cell BK267.out 7).trans rfl
            have hcz35_8 : w5.cell? ⟨gb267, 8, none⟩ = some (.string a1_8) := (blk_cell BK267.out 8).trans rfl
            have hcz35_9 : w5.cell? ⟨gb267, 9, none⟩ = some (.string a1_9) := (blk_cell BK267.out 9).trans rfl
            have hcz35_10 : w5.cell? ⟨gb267, 10, none⟩ = some (.slice A1_10 l1_10.length c1_10) := (blk_cell BK267.out 10).trans rfl
            have hcz35_11 : w5.cell? ⟨gb267, 11, none⟩ = some (.slice A1_11 l1_11.length c1_11) := (blk_cell BK267.out 11).trans rfl
            have hfz35_0 := blk_frozen BK267.out 0
            have hfz35_1 := blk_frozen BK267.out 1
            have hfz35_2 := blk_frozen BK267.out 2
            have hfz35_3 := blk_frozen BK267.out 3
            have hfz35_4 := blk_frozen BK267.out 4
            have hfz35_5 := blk_frozen BK267.out 5
            have hfz35_6 := blk_frozen BK267.out 6
            have hfz35_7 := blk_frozen BK267.out 7
            have hfz35_8 := blk_frozen BK267.out 8
            have hfz35_9 := blk_frozen BK267.out 9
            have hfz35_10 := blk_frozen BK267.out 10
            have hfz35_11 := blk_frozen BK267.out 11
            go_wp2
            go_meet
            case rel => exact ⟨_, (true), (by first | rfl | (simp; done) | (simp [*]; done) | exact congrArg (fun b => Ending.returned (Value.bool b)) (Ch.bne_nil _)), H', ⟨by first | omega | exact Nat.le_refl _⟩, ⟨by (with_reducible repeat (first | refine blk_drewN ?_ _ | refine blk_drew ?_ | refine blk_alloc ?_ _)); exact BK266.out⟩, ⟨by (with_reducible repeat (first | refine blk_drewN ?_ _ | refine blk_drew ?_ | refine blk_alloc ?_ _)); exact BK267.out⟩, ⟨by repeat (first | (with_reducible first | exact HB.out | apply below_alloc | apply pw_below_drewN | apply below_drew1 | refine below_set ?_ GE266.out | refine below_set ?_ GE267.out) | exact HB.out)⟩⟩
        · rw [if_neg c8] at H
          have c8b0 : (a0_2 == a1_2) = false := beq_eq_false_iff_ne.mpr c8
          have c8b1 : (a0_2 != a1_2) = true := bne_iff_ne.mpr c8
          have H' := Aside0.mk H
          clear H
          have hnb36 := NB266_267.out
          have hnc36 := NB267_266.out
          have hcz37_0 : w5.cell? ⟨gb266, 0, none⟩ = some (.int .i64 a0_0) := (blk_cell BK266.out 0).trans rfl
          have hcz37_1 : w5.cell? ⟨gb266, 1, none⟩ = some (.int .i64 a0_1) := (blk_cell BK266.out 1).trans rfl
          have hcz37_2 : w5.cell? ⟨gb266, 2, none⟩ = some (.int .i64 a0_2) := (blk_cell BK266.out 2).trans rfl
          have hcz37_3 : w5.cell? ⟨gb266, 3, none⟩ = some (.int .i64 a0_3) := (blk_cell BK266.out 3).trans rfl
          have hcz37_4 : w5.cell? ⟨gb266, 4, none⟩ = some (.int .i64 a0_4) := (blk_cell BK266.out 4).trans rfl
          have hcz37_5 : w5.cell? ⟨gb266, 5, none⟩ = some (.int .i64 a0_5) := (blk_cell BK266.out 5).trans rfl
          have hcz37_6 : w5.cell? ⟨gb266, 6, none⟩ = some (.int .i64 a0_6) := (blk_cell BK266.out 6).trans rfl
          have hcz37_7 : w5.cell? ⟨gb266, 7, none⟩ = some (.int .i64 a0_7) := (blk_cell BK266.out 7).trans rfl
          have hcz37_8 : w5.cell? ⟨gb266, 8, none⟩ = some (.string a0_8) := (blk_cell BK266.out 8).trans rfl
          have hcz37_9 : w5.cell? ⟨gb266, 9, none⟩ = some (.string a0_9) := (blk_cell BK266.out 9).trans rfl
          have hcz37_10 : w5.cell? ⟨gb266, 10, none⟩ = some (.slice A0_10 l0_10.length c0_10) := (blk_cell BK266.out 10).trans rfl
          have hcz37_11 : w5.cell? ⟨gb266, 11, none⟩ = some (.slice A0_11 l0_11.length c0_11) := (blk_cell BK266.out 11).trans rfl
          have hfz37_0 := blk_frozen BK266.out 0
          have hfz37_1 := blk_frozen BK266.out 1
          have hfz37_2 := blk_frozen BK266.out 2
          have hfz37_3 := blk_frozen BK266.out 3
          have hfz37_4 := blk_frozen BK266.out 4
          have hfz37_5 := blk_frozen BK266.out 5
          have hfz37_6 := blk_frozen BK266.out 6
          have hfz37_7 := blk_frozen BK266.out 7
          have hfz37_8 := blk_frozen BK266.out 8
          have hfz37_9 := blk_frozen BK266.out 9
          have hfz37_10 := blk_frozen BK266.out 10
          have hfz37_11 := blk_frozen BK266.out 11
          have hcz38_0 : w5.cell? ⟨gb267, 0, none⟩ = some (.int .i64 a1_0) := (blk_cell BK267.out 0).trans rfl
          have hcz38_1 : w5.cell? ⟨gb267, 1, none⟩ = some (.int .i64 a1_1) := (blk_cell BK267.out 1).trans rfl
          have hcz38_2 : w5.cell? ⟨gb267, 2, none⟩ = some (.int .i64 a1_2) := (blk_cell BK267.out 2).trans rfl
          have hcz38_3 : w5.cell? ⟨gb267, 3, none⟩ = some (.int .i64 a1_3) := (blk_cell BK267.out 3).trans rfl
          have hcz38_4 : w5.cell? ⟨gb267, 4, none⟩ = some (.int .i64 a1_4) := (blk_cell BK267.out 4).trans rfl
          have hcz38_5 : w5.cell? ⟨gb267, 5, none⟩ = some (.int .i64 a1_5) := (blk_cell BK267.out 5).trans rfl
          have hcz38_6 : w5.cell? ⟨gb267, 6, none⟩ = some (.int .i64 a1_6) := (blk_cell BK267.out 6).trans rfl
          have hcz38_7 : w5.cell? ⟨gb267, 7, none⟩ = some (.int .i64 a1_7) := (blk_cell BK267.out 7).trans rfl
          have hcz38_8 : w5.cell? ⟨gb267, 8, none⟩ = some (.string a1_8) := (blk_cell BK267.out 8).trans rfl
          have hcz38_9 : w5.cell? ⟨gb267, 9, none⟩ = some (.string a1_9) := (blk_cell BK267.out 9).trans rfl
          have hcz38_10 : w5.cell? ⟨gb267, 10, none⟩ = some (.slice A1_10 l1_10.length c1_10) := (blk_cell BK267.out 10).trans rfl
          have hcz38_11 : w5.cell? ⟨gb267, 11, none⟩ = some (.slice A1_11 l1_11.length c1_11) := (blk_cell BK267.out 11).trans rfl
          have hfz38_0 := blk_frozen BK267.out 0
          have hfz38_1 := blk_frozen BK267.out 1
          have hfz38_2 := blk_frozen BK267.out 2
          have hfz38_3 := blk_frozen BK267.out 3
          have hfz38_4 := blk_frozen BK267.out 4
          have hfz38_5 := blk_frozen BK267.out 5
          have hfz38_6 := blk_frozen BK267.out 6
          have hfz38_7 := blk_frozen BK267.out 7
          have hfz38_8 := blk_frozen BK267.out 8
          have hfz38_9 := blk_frozen BK267.out 9
          have hfz38_10 := blk_frozen BK267.out 10
          have hfz38_11 := blk_frozen BK267.out 11
          go_wp2
          go_meet
          case rel => exact ⟨_, (true), (by first | rfl | (simp; done) | (simp [*]; done) | exact congrArg (fun b => Ending.returned (Value.bool b)) (Ch.bne_nil _)), H', ⟨by first | omega | exact Nat.le_refl _⟩, ⟨by (with_reducible repeat (first | refine blk_drewN ?_ _ | refine blk_drew ?_ | refine blk_alloc ?_ _)); exact BK266.out⟩, ⟨by (with_reducible repeat (first | refine blk_drewN ?_ _ | refine blk_drew ?_ | refine blk_alloc ?_ _)); exact BK267.out⟩, ⟨by repeat (first | (with_reducible first | exact HB.out | apply below_alloc | apply pw_below_drewN | apply below_drew1 | refine below_set ?_ GE266.out | refine below_set ?_ GE267.out) | exact HB.out)⟩⟩
      · rw [if_neg c7] at H
        have c7b0 : (a0_1 == a1_1) = false := beq_eq_false_iff_ne.mpr c7
        have c7b1 : (a0_1 != a1_1) = true := bne_iff_ne.mpr c7
        have H' := Aside0.mk H
        clear H
        have hnb39 := NB266_267.out
        have hnc39 := NB267_266.out
        have hcz40_0 : w5.cell? ⟨gb266, 0, none⟩ = some (.int .i64 a0_0) := (blk_cell BK266.out 0).trans rfl
        have hcz40_1 : w5.cell? ⟨gb266, 1, none⟩ = some (.int .i64 a0_1) := (blk_cell BK266.out 1).trans rfl
        have hcz40_2 : w5.cell? ⟨gb266, 2, none⟩ = some (.int .i64 a0_2) := (blk_cell BK266.out 2).trans rfl
        have hcz40_3 : w5.cell? ⟨gb266, 3, none⟩ = some (.int .i64 a0_3) := (blk_cell BK266.out 3).trans rfl
        have hcz40_4 : w5.cell? ⟨gb266, 4, none⟩ = some (.int .i64 a0_4) := (blk_cell BK266.out 4).trans rfl
        have hcz40_5 : w5.cell? ⟨gb266, 5, none⟩ = some (.int .i64 a0_5) := (blk_cell BK266.out 5).trans rfl
        have hcz40_6 : w5.cell? ⟨gb266, 6, none⟩ = some (.int .i64 a0_6) := (blk_cell BK266.out 6).trans rfl
        have hcz40_7 : w5.cell? ⟨gb266, 7, none⟩ = some (.int .i64 a0_7) := (blk_cell BK266.out 7).trans rfl
        have hcz40_8 : w5.cell? ⟨gb266, 8, none⟩ = some (.string a0_8) := (blk_cell BK266.out 8).trans rfl
        have hcz40_9 : w5.cell? ⟨gb266, 9, none⟩ = some (.string a0_9) := (blk_cell BK266.out 9).trans rfl
        have hcz40_10 : w5.cell? ⟨gb266, 10, none⟩ = some (.slice A0_10 l0_10.length c0_10) := (blk_cell BK266.out 10).trans rfl
        have hcz40_11 : w5.cell? ⟨gb266, 11, none⟩ = some (.slice A0_11 l0_11.length c0_11) := (blk_cell BK266.out 11).trans rfl
        have hfz40_0 := blk_frozen BK266.out 0
        have hfz40_1 := blk_frozen BK266.out 1
        have hfz40_2 := blk_frozen BK266.out 2
        have hfz40_3 := blk_frozen BK266.out 3
        have hfz40_4 := blk_frozen BK266.out 4
        have hfz40_5 := blk_frozen BK266.out 5
        have hfz40_6 := blk_frozen BK266.out 6
        have hfz40_7 := blk_frozen BK266.out 7
        have hfz40_8 := blk_frozen BK266.out 8
        have hfz40_9 := blk_frozen BK266.out 9
        have hfz40_10 := blk_frozen BK266.out 10
        have hfz40_11 := blk_frozen BK266.out 11
        have hcz41_0 : w5.cell? ⟨gb267, 0, none⟩ = some (.int .i64 a1_0) := (blk_cell BK267.out 0).trans rfl
        have hcz41_1 : w5.cell? ⟨gb267, 1, none⟩ = some (.int .i64 a1_1) := (blk_cell BK267.out 1).trans rfl
        have hcz41_2 : w5.cell? ⟨gb267, 2, none⟩ = some (.int .i64 a1_2) := (blk_cell BK267.out 2).trans rfl
        have hcz41_3 : w5.cell? ⟨gb267, 3, none⟩ = some (.int .i64 a1_3) := (blk_cell BK267.out 3).trans rfl
        have hcz41_4 : w5.cell? ⟨gb267, 4, none⟩ = some (.int .i64 a1_4) := (blk_cell BK267.out 4).trans rfl
        have hcz41_5 : w5.cell? ⟨gb267, 5, none⟩ = some (.int .i64 a1_5) := (blk_cell BK267.out 5).trans rfl
        have hcz41_6 : w5.cell? ⟨gb267, 6, none⟩ = some (.int .i64 a1_6) := (blk_cell BK267.out 6).trans rfl
        have hcz41_7 : w5.cell? ⟨gb267, 7, none⟩ = some (.int .i64 a1_7) := (blk_cell BK267.out 7).trans rfl
        have hcz41_8 : w5.cell? ⟨gb267, 8, none⟩ = some (.string a1_8) := (blk_cell BK267.out 8).trans rfl
        have hcz41_9 : w5.cell? ⟨gb267, 9, none⟩ = some (.string a1_9) := (blk_cell BK267.out 9).trans rfl
        have hcz41_10 : w5.cell? ⟨gb267, 10, none⟩ = some (.slice A1_10 l1_10.length c1_10) := (blk_cell BK267.out 10).trans rfl
        have hcz41_11 : w5.cell? ⟨gb267, 11, none⟩ = some (.slice A1_11 l1_11.length c1_11) := (blk_cell BK267.out 11).trans rfl
        have hfz41_0 := blk_frozen BK267.out 0
        have hfz41_1 := blk_frozen BK267.out 1
        have hfz41_2 := blk_frozen BK267.out 2
        have hfz41_3 := blk_frozen BK267.out 3
        have hfz41_4 := blk_frozen BK267.out 4
        have hfz41_5 := blk_frozen BK267.out 5
        have hfz41_6 := blk_frozen BK267.out 6
        have hfz41_7 := blk_frozen BK267.out 7
        have hfz41_8 := blk_frozen BK267.out 8
        have hfz41_9 := blk_frozen BK267.out 9
        have hfz41_10 := blk_frozen BK267.out 10
        have hfz41_11 := blk_frozen BK267.out 11
        go_wp2
        go_meet
        case rel => exact ⟨_, (true), (by first | rfl | (simp; done) | (simp [*]; done) | exact congrArg (fun b => Ending.returned (Value.bool b)) (Ch.bne_nil _)), H', ⟨by first | omega | exact Nat.le_refl _⟩, ⟨by (with_reducible repeat (first | refine blk_drewN ?_ _ | refine blk_drew ?_ | refine blk_alloc ?_ _)); exact BK266.out⟩, ⟨by (with_reducible repeat (first | refine blk_drewN ?_ _ | refine blk_drew ?_ | refine blk_alloc ?_ _)); exact BK267.out⟩, ⟨by repeat (first | (with_reducible first | exact HB.out | apply below_alloc | apply pw_below_drewN | apply below_drew1 | refine below_set ?_ GE266.out | refine below_set ?_ GE267.out) | exact HB.out)⟩⟩
    · rw [if_neg c6] at H
      have c6b0 : (a0_0 == a1_0) = false := beq_eq_false_iff_ne.mpr c6
      have c6b1 : (a0_0 != a1_0) = true := bne_iff_ne.mpr c6
      (first | rw [c6b0] | (simp only [i64_w, i32_w]; rw [c6b0]) | skip)
      have H' := Aside0.mk H
      clear H
      have hnb42 := NB266_267.out
      have hnc42 := NB267_266.out
      have hcz43_0 : w5.cell? ⟨gb266, 0, none⟩ = some (.int .i64 a0_0) := (blk_cell BK266.out 0).trans rfl
      have hcz43_1 : w5.cell? ⟨gb266, 1, none⟩ = some (.int .i64 a0_1) := (blk_cell BK266.out 1).trans rfl
      have hcz43_2 : w5.cell? ⟨gb266, 2, none⟩ = some (.int .i64 a0_2) := (blk_cell BK266.out 2).trans rfl
      have hcz43_3 : w5.cell? ⟨gb266, 3, none⟩ = some (.int .i64 a0_3) := (blk_cell BK266.out 3).trans rfl
      have hcz43_4 : w5.cell? ⟨gb266, 4, none⟩ = some (.int .i64 a0_4) := (blk_cell BK266.out 4).trans rfl
      have hcz43_5 : w5.cell? ⟨gb266, 5, none⟩ = some (.int .i64 a0_5) := (blk_cell BK266.out 5).trans rfl
      have hcz43_6 : w5.cell? ⟨gb266, 6, none⟩ = some (.int .i64 a0_6) := (blk_cell BK266.out 6).trans rfl
      have hcz43_7 : w5.cell? ⟨gb266, 7, none⟩ = some (.int .i64 a0_7) := (blk_cell BK266.out 7).trans rfl
      have hcz43_8 : w5.cell? ⟨gb266, 8, none⟩ = some (.string a0_8) := (blk_cell BK266.out 8).trans rfl
      have hcz43_9 : w5.cell? ⟨gb266, 9, none⟩ = some (.string a0_9) := (blk_cell BK266.out 9).trans rfl
      have hcz43_10 : w5.cell? ⟨gb266, 10, none⟩ = some (.slice A0_10 l0_10.length c0_10) := (blk_cell BK266.out 10).trans rfl
      have hcz43_11 : w5.cell? ⟨gb266, 11, none⟩ = some (.slice A0_11 l0_11.length c0_11) := (blk_cell BK266.out 11).trans rfl
      have hfz43_0 := blk_frozen BK266.out 0
      have hfz43_1 := blk_frozen BK266.out 1
      have hfz43_2 := blk_frozen BK266.out 2
      have hfz43_3 := blk_frozen BK266.out 3
      have hfz43_4 := blk_frozen BK266.out 4
      have hfz43_5 := blk_frozen BK266.out 5
      have hfz43_6 := blk_frozen BK266.out 6
      have hfz43_7 := blk_frozen BK266.out 7
      have hfz43_8 := blk_frozen BK266.out 8
      have hfz43_9 := blk_frozen BK266.out 9
      have hfz43_10 := blk_frozen BK266.out 10
      have hfz43_11 := blk_frozen BK266.out 11
      have hcz44_0 : w5.cell? ⟨gb267, 0, none⟩ = some (.int .i64 a1_0) := (blk_cell BK267.out 0).trans rfl
      have hcz44_1 : w5.cell? ⟨gb267, 1, none⟩ = some (.int .i64 a1_1) := (blk_cell BK267.out 1).trans rfl
      have hcz44_2 : w5.cell? ⟨gb267, 2, none⟩ = some (.int .i64 a1_2) := (blk_cell BK267.out 2).trans rfl
      have hcz44_3 : w5.cell? ⟨gb267, 3, none⟩ = some (.int .i64 a1_3) := (blk_cell BK267.out 3).trans rfl
      have hcz44_4 : w5.cell? ⟨gb267, 4, none⟩ = some (.int .i64 a1_4) := (blk_cell BK267.out 4).trans rfl
      have hcz44_5 : w5.cell? ⟨gb267, 5, none⟩ = some (.int .i64 a1_5) := (blk_cell BK267.out 5).trans rfl
      have hcz44_6 : w5.cell? ⟨gb267, 6, none⟩ = some (.int .i64 a1_6) := (blk_cell BK267.out 6).trans rfl
      have hcz44_7 : w5.cell? ⟨gb267, 7, none⟩ = some (.int .i64 a1_7) := (blk_cell BK267.out 7).trans rfl
      have hcz44_8 : w5.cell? ⟨gb267, 8, none⟩ = some (.string a1_8) := (blk_cell BK267.out 8).trans rfl
      have hcz44_9 : w5.cell? ⟨gb267, 9, none⟩ = some (.string a1_9) := (blk_cell BK267.out 9).trans rfl
      have hcz44_10 : w5.cell? ⟨gb267, 10, none⟩ = some (.slice A1_10 l1_10.length c1_10) := (blk_cell BK267.out 10).trans rfl
      have hcz44_11 : w5.cell? ⟨gb267, 11, none⟩ = some (.slice A1_11 l1_11.length c1_11) := (blk_cell BK267.out 11).trans rfl
      have hfz44_0 := blk_frozen BK267.out 0
      have hfz44_1 := blk_frozen BK267.out 1
      have hfz44_2 := blk_frozen BK267.out 2
      have hfz44_3 := blk_frozen BK267.out 3
      have hfz44_4 := blk_frozen BK267.out 4
      have hfz44_5 := blk_frozen BK267.out 5
      have hfz44_6 := blk_frozen BK267.out 6
      have hfz44_7 := blk_frozen BK267.out 7
      have hfz44_8 := blk_frozen BK267.out 8
      have hfz44_9 := blk_frozen BK267.out 9
      have hfz44_10 := blk_frozen BK267.out 10
      have hfz44_11 := blk_frozen BK267.out 11
      go_wp2
      go_meet
      case rel => exact ⟨_, (true), (by first | rfl | (simp; done) | (simp [*]; done) | exact congrArg (fun b => Ending.returned (Value.bool b)) (Ch.bne_nil _)), H', ⟨by first | omega | exact Nat.le_refl _⟩, ⟨by (with_reducible repeat (first | refine blk_drewN ?_ _ | refine blk_drew ?_ | refine blk_alloc ?_ _)); exact BK266.out⟩, ⟨by (with_reducible repeat (first | refine blk_drewN ?_ _ | refine blk_drew ?_ | refine blk_alloc ?_ _)); exact BK267.out⟩, ⟨by repeat (first | (with_reducible first | exact HB.out | apply below_alloc | apply pw_below_drewN | apply below_drew1 | refine below_set ?_ GE266.out | refine below_set ?_ GE267.out) | exact HB.out)⟩⟩
  case rest =>
    clear HC3
    try clear c1
    try clear c2
    try clear p2
    try clear c3
    try clear c4
    try clear c6
    try clear c6b0
    try clear c6b1
    try clear c7
    try clear c7b0
    try clear c7b1
    try clear c8
    try clear c8b0
    try clear c8b1
    try clear c9
    try clear c9b0
    try clear c9b1
    try clear c10
    try clear c10b0
    try clear c10b1
    try clear c11
    try clear c11b0
    try clear c11b1
    try clear c12
    try clear c12b0
    try clear c12b1
    try clear c13
    try clear c13b0
    try clear c13b1
    try clear c14
    try clear c14b0
    try clear c14b1
    try clear c15
    try clear c18
    try clear c21
    try clear c24
    try clear c27
    try clear c30
    try clear c33
    try clear c36
    try clear c39
    try clear c42
    try clear hcz16_0
    try clear hcz16_1
    try clear hcz16_10
    try clear hcz16_11
    try clear hcz16_2
    try clear hcz16_3
    try clear hcz16_4
    try clear hcz16_5
    try clear hcz16_6
    try clear hcz16_7
    try clear hcz16_8
    try clear hcz16_9
    try clear hcz17_0
    try clear hcz17_1
    try clear hcz17_10
    try clear hcz17_11
    try clear hcz17_2
    try clear hcz17_3
    try clear hcz17_4
    try clear hcz17_5
    try clear hcz17_6
    try clear hcz17_7
    try clear hcz17_8
    try clear hcz17_9
    try clear hcz19_0
    try clear hcz19_1
    try clear hcz19_10
    try clear hcz19_11
    try clear hcz19_2
    try clear hcz19_3
    try clear hcz19_4
    try clear hcz19_5
    try clear hcz19_6
    try clear hcz19_7
    try clear hcz19_8
    try clear hcz19_9
    try clear hcz20_0
    try clear hcz20_1
    try clear hcz20_10
    try clear hcz20_11
    try clear hcz20_2
    try clear hcz20_3
    try clear hcz20_4
    try clear hcz20_5
    try clear hcz20_6
    try clear hcz20_7
    try clear hcz20_8
    try clear hcz20_9
    try clear hcz22_0
    try clear hcz22_1
    try clear hcz22_10
    try clear hcz22_11
    try clear hcz22_2
    try clear hcz22_3
    try clear hcz22_4
    try clear hcz22_5
    try clear hcz22_6
    try clear hcz22_7
    try clear hcz22_8
    try clear hcz22_9
    try clear hcz23_0
    try clear hcz23_1
    try clear hcz23_10
    try clear hcz23_11
    try clear hcz23_2
    try clear hcz23_3
    try clear hcz23_4
    try clear hcz23_5
    try clear hcz23_6
    try clear hcz23_7
    try clear hcz23_8
    try clear hcz23_9
    try clear hcz25_0
    try clear hcz25_1
    try clear hcz25_10
    try clear hcz25_11
    try clear hcz25_2
    try clear hcz25_3
    try clear hcz25_4
    try clear hcz25_5
    try clear hcz25_6
    try clear hcz25_7
    try clear hcz25_8
    try clear hcz25_9
    try clear hcz26_0
    try clear hcz26_1
    try clear hcz26_10
    try clear hcz26_11
    try clear hcz26_2
    try clear hcz26_3
    try clear hcz26_4
    try clear hcz26_5
    try clear hcz26_6
    try clear hcz26_7
    try clear hcz26_8
    try clear hcz26_9
    try clear hcz28_0
    try clear hcz28_1
    try clear hcz28_10
    try clear hcz28_11
    try clear hcz28_2
    try clear hcz28_3
    try clear hcz28_4
    try clear hcz28_5
    try clear hcz28_6
    try clear hcz28_7
    try clear hcz28_8
    try clear hcz28_9
    try clear hcz29_0
    try clear hcz29_1
    try clear hcz29_10
    try clear hcz29_11
    try clear hcz29_2
    try clear hcz29_3
    try clear hcz29_4
    try clear hcz29_5
    try clear hcz29_6
    try clear hcz29_7
    try clear hcz29_8
    try clear hcz29_9
    try clear hcz31_0
    try clear hcz31_1
    try clear hcz31_10
    try clear hcz31_11
    try clear hcz31_2
    try clear hcz31_3
    try clear hcz31_4
    try clear hcz31_5
    try clear hcz31_6
    try clear hcz31_7
    try clear hcz31_8
    try clear hcz31_9
    try clear hcz32_0
    try clear hcz32_1
    try clear hcz32_10
    try clear hcz32_11
    try clear hcz32_2
    try clear hcz32_3
    try clear hcz32_4
    try clear hcz32_5
    try clear hcz32_6
    try clear hcz32_7
    try clear hcz32_8
    try clear hcz32_9
    try clear hcz34_0
    try clear hcz34_1
    try clear hcz34_10
    try clear hcz34_11
    try clear hcz34_2
    try clear hcz34_3
    try clear hcz34_4
    try clear hcz34_5
    try clear hcz34_6
    try clear hcz34_7
    try clear hcz34_8
    try clear hcz34_9
    try clear hcz35_0
    try clear hcz35_1
    try clear hcz35_10
    try clear hcz35_11
    try clear hcz35_2
    try clear hcz35_3
    try clear hcz35_4
    try clear hcz35_5
    try clear hcz35_6
    try clear hcz35_7
    try clear hcz35_8
    try clear hcz35_9
    try clear hcz37_0
    try clear hcz37_1
    try clear hcz37_10
    try clear hcz37_11
    try clear hcz37_2
    try clear hcz37_3
    try clear hcz37_4
    try clear hcz37_5
    try clear hcz37_6
    try clear hcz37_7
    try clear hcz37_8
    try clear hcz37_9
    try clear hcz38_0
    try clear hcz38_1
    try clear hcz38_10
    try clear hcz38_11
    try clear hcz38_2
    try clear hcz38_3
    try clear hcz38_4
    try clear hcz38_5
    try clear hcz38_6
    try clear hcz38_7
    try clear hcz38_8
    try clear hcz38_9
    try clear hcz40_0
    try clear hcz40_1
    try clear hcz40_10
    try clear hcz40_11
    try clear hcz40_2
    try clear hcz40_3
    try clear hcz40_4
    try clear hcz40_5
    try clear hcz40_6
    try clear hcz40_7
    try clear hcz40_8
    try clear hcz40_9
    try clear hcz41_0
    try clear hcz41_1
    try clear hcz41_10
    try clear hcz41_11
    try clear hcz41_2
    try clear hcz41_3
    try clear hcz41_4
    try clear hcz41_5
    try clear hcz41_6
    try clear hcz41_7
    try clear hcz41_8
    try clear hcz41_9
    try clear hcz43_0
    try clear hcz43_1
    try clear hcz43_10
    try clear hcz43_11
    try clear hcz43_2
    try clear hcz43_3
    try clear hcz43_4
    try clear hcz43_5
    try clear hcz43_6
    try clear hcz43_7
    try clear hcz43_8
    try clear hcz43_9
    try clear hcz44_0
    try clear hcz44_1
    try clear hcz44_10
    try clear hcz44_11
    try clear hcz44_2
    try clear hcz44_3
    try clear hcz44_4
    try clear hcz44_5
    try clear hcz44_6
    try clear hcz44_7
    try clear hcz44_8
    try clear hcz44_9
    try clear hfz16_0
    try clear hfz16_1
    try clear hfz16_10
    try clear hfz16_11
    try clear hfz16_2
    try clear hfz16_3
    try clear hfz16_4
    try clear hfz16_5
    try clear hfz16_6
    try clear hfz16_7
    try clear hfz16_8
    try clear hfz16_9
    try clear hfz17_0
    try clear hfz17_1
    try clear hfz17_10
    try clear hfz17_11
    try clear hfz17_2
    try clear hfz17_3
    try clear hfz17_4
    try clear hfz17_5
    try clear hfz17_6
    try clear hfz17_7
    try clear hfz17_8
    try clear hfz17_9
    try clear hfz19_0
    try clear hfz19_1
    try clear hfz19_10
    try clear hfz19_11
    try clear hfz19_2
    try clear hfz19_3
    try clear hfz19_4
    try clear hfz19_5
    try clear hfz19_6
    try clear hfz19_7
    try clear hfz19_8
    try clear hfz19_9
    try clear hfz20_0
    try clear hfz20_1
    try clear hfz20_10
    try clear hfz20_11
    try clear hfz20_2
    try clear hfz20_3
    try clear hfz20_4
    try clear hfz20_5
    try clear hfz20_6
    try clear hfz20_7
    try clear hfz20_8
    try clear hfz20_9
    try clear hfz22_0
    try clear hfz22_1
    try clear hfz22_10
    try clear hfz22_11
    try clear hfz22_2
    try clear hfz22_3
    try clear hfz22_4
    try clear hfz22_5
    try clear hfz22_6
    try clear hfz22_7
    try clear hfz22_8
    try clear hfz22_9
    try clear hfz23_0
    try clear hfz23_1
    try clear hfz23_10
    try clear hfz23_11
    try clear hfz23_2
    try clear hfz23_3
    try clear hfz23_4
    try clear hfz23_5
    try clear hfz23_6
    try clear hfz23_7
    try clear hfz23_8
    try clear hfz23_9
    try clear hfz25_0
    try clear hfz25_1
    try clear hfz25_10
    try clear hfz25_11
    try clear hfz25_2
    try clear hfz25_3
    try clear hfz25_4
    try clear hfz25_5
    try clear hfz25_6
    try clear hfz25_7
    try clear hfz25_8
    try clear hfz25_9
    try clear hfz26_0
    try clear hfz26_1
    try clear hfz26_10
    try clear hfz26_11
    try clear hfz26_2
    try clear hfz26_3
    try clear hfz26_4
    try clear hfz26_5
    try clear hfz26_6
    try clear hfz26_7
    try clear hfz26_8
    try clear hfz26_9
    try clear hfz28_0
    try clear hfz28_1
    try clear hfz28_10
    try clear hfz28_11
    try clear hfz28_2
    try clear hfz28_3
    try clear hfz28_4
    try clear hfz28_5
    try clear hfz28_6
    try clear hfz28_7
    try clear hfz28_8
    try clear hfz28_9
    try clear hfz29_0
    try clear hfz29_1
    try clear hfz29_10
    try clear hfz29_11
    try clear hfz29_2
    try clear hfz29_3
    try clear hfz29_4
    try clear hfz29_5
    try clear hfz29_6
    try clear hfz29_7
    try clear hfz29_8
    try clear hfz29_9
    try clear hfz31_0
    try clear hfz31_1
    try clear hfz31_10
    try clear hfz31_11
    try clear hfz31_2
    try clear hfz31_3
    try clear hfz31_4
    try clear hfz31_5
    try clear hfz31_6
    try clear hfz31_7
    try clear hfz31_8
    try clear hfz31_9
    try clear hfz32_0
    try clear hfz32_1
    try clear hfz32_10
    try clear hfz32_11
    try clear hfz32_2
    try clear hfz32_3
    try clear hfz32_4
    try clear hfz32_5
    try clear hfz32_6
    try clear hfz32_7
    try clear hfz32_8
    try clear hfz32_9
    try clear hfz34_0
    try clear hfz34_1
    try clear hfz34_10
    try clear hfz34_11
    try clear hfz34_2
    try clear hfz34_3
    try clear hfz34_4
    try clear hfz34_5
    try clear hfz34_6
    try clear hfz34_7
    try clear hfz34_8
    try clear hfz34_9
    try clear hfz35_0
    try clear hfz35_1
    try clear hfz35_10
    try clear hfz35_11
    try clear hfz35_2
    try clear hfz35_3
    try clear hfz35_4
    try clear hfz35_5
    try clear hfz35_6
    try clear hfz35_7
    try clear hfz35_8
    try clear hfz35_9
    try clear hfz37_0
    try clear hfz37_1
    try clear hfz37_10
    try clear hfz37_11
    try clear hfz37_2
    try clear hfz37_3
    try clear hfz37_4
    try clear hfz37_5
    try clear hfz37_6
    try clear hfz37_7
    try clear hfz37_8
    try clear hfz37_9
    try clear hfz38_0
    try clear hfz38_1
    try clear hfz38_10
    try clear hfz38_11
    try clear hfz38_2
    try clear hfz38_3
    try clear hfz38_4
    try clear hfz38_5
    try clear hfz38_6
    try clear hfz38_7
    try clear hfz38_8
    try clear hfz38_9
    try clear hfz40_0
    try clear hfz40_1
    try clear hfz40_10
    try clear hfz40_11
    try clear hfz40_2
    try clear hfz40_3
    try clear hfz40_4
    try clear hfz40_5
    try clear hfz40_6
    try clear hfz40_7
    try clear hfz40_8
    try clear hfz40_9
    try clear hfz41_0
    try clear hfz41_1
    try clear hfz41_10
    try clear hfz41_11
    try clear hfz41_2
    try clear hfz41_3
    try clear hfz41_4
    try clear hfz41_5
    try clear hfz41_6
    try clear hfz41_7
    try clear hfz41_8
    try clear hfz41_9
    try clear hfz43_0
    try clear hfz43_1
    try clear hfz43_10
    try clear hfz43_11
    try clear hfz43_2
    try clear hfz43_3
    try clear hfz43_4
    try clear hfz43_5
    try clear hfz43_6
    try clear hfz43_7
    try clear hfz43_8
    try clear hfz43_9
    try clear hfz44_0
    try clear hfz44_1
    try clear hfz44_10
    try clear hfz44_11
    try clear hfz44_2
    try clear hfz44_3
    try clear hfz44_4
    try clear hfz44_5
    try clear hfz44_6
    try clear hfz44_7
    try clear hfz44_8
    try clear hfz44_9
    obtain ⟨kq, x72_2, rfl, HA, HJ2, BK266, BK267, HB⟩ := hcut
    cases kq with
    | zero => exact absurd HA.out (by simp [jobshellref31_SameReq.j0])
    | succ kj2 =>
      have H := HA.out
      clear HA
      simp only [jobshellref31_SameReq.j0] at H
      by_cases c45 : x72_2 = true
      · subst c45
        have H1 : (some false) = some r := by rw [if_pos rfl] at H; exact H
        clear H
        have H := H1
        clear H1
        obtain rfl := Option.some.inj H
        go_wp2
        go_ret
        exact ⟨by first | rfl | (simp [errW_none, errW_some] <;> rfl) | (simp [*, errW_none, errW_some] <;> rfl), by repeat (first | (with_reducible first | exact HB.out | apply below_alloc | apply pw_below_drewN | apply below_drew1 | refine below_set ?_ GE266.out | refine below_set ?_ GE267.out) | exact HB.out)⟩
      · replace c45 := Bool.eq_false_iff.mpr c45
        subst c45
        have H1 : ((jobshellref31_Texts.f kj2 l0_10 l1_10).bind fun t268 => (if t268 = true then ((jobshellref31_Texts.f kj2 l0_11 l1_11).bind fun t269 => (some t269)) else (some false))) = some r := by rw [if_neg (show ¬ (false = true) by decide)] at H; exact H
        clear H
        have H := H1
        clear H1
        replace H := Option.bind_eq_some_iff.mp H
        obtain ⟨t268, A460, H⟩ := H
        replace H : (if t268 = true then ((jobshellref31_Texts.f kj2 l0_11 l1_11).bind fun t269 => (some t269)) else (some false)) = some r := H
        have A46 := Aside0.mk A460
        clear A460
        by_cases c47 : t268 = true
        · subst c47
          have H1 : ((jobshellref31_Texts.f kj2 l0_11 l1_11).bind fun t269 => (some t269)) = some r := by rw [if_pos rfl] at H; exact H
          clear H
          have H := H1
          clear H1
          replace H := Option.bind_eq_some_iff.mp H
          obtain ⟨t269, A480, H⟩ := H
          replace H : (some t269) = some r := H
          have A48 := Aside0.mk A480
          clear A480
          obtain rfl := Option.some.inj H
          have hnb49 := NB266_267.out
          have hnc49 := NB267_266.out
          have hcz50_0 : wc.cell? ⟨gb266, 0, none⟩ = some (.int .i64 a0_0) := (blk_cell BK266.out 0).trans rfl
          have hcz50_1 : wc.cell? ⟨gb266, 1, none⟩ = some (.int .i64 a0_1) := (blk_cell BK266.out 1).trans rfl
          have hcz50_2 : wc.cell? ⟨gb266, 2, none⟩ = some (.int .i64 a0_2) := (blk_cell BK266.out 2).trans rfl
          have hcz50_3 : wc.cell? ⟨gb266, 3, none⟩ = some (.int .i64 a0_3) := (blk_cell BK266.out 3).trans rfl
          have hcz50_4 : wc.cell? ⟨gb266, 4, none⟩ = some (.int .i64 a0_4) := (blk_cell BK266.out 4).trans rfl
          have hcz50_5 : wc.cell? ⟨gb266, 5, none⟩ = some (.int .i64 a0_5) := (blk_cell BK266.out 5).trans rfl
          have hcz50_6 : wc.cell? ⟨gb266, 6, none⟩ = some (.int .i64 a0_6) := (blk_cell BK266.out 6).trans rfl
          have hcz50_7 : wc.cell? ⟨gb266, 7, none⟩ = some (.int .i64 a0_7) := (blk_cell BK266.out 7).trans rfl
          have hcz50_8 : wc.cell? ⟨gb266, 8, none⟩ = some (.string a0_8) := (blk_cell BK266.out 8).trans rfl
          have hcz50_9 : wc.cell? ⟨gb266, 9, none⟩ = some (.string a0_9) := (blk_cell BK266.out 9).trans rfl
          have hcz50_10 : wc.cell? ⟨gb266, 10, none⟩ = some (.slice A0_10 l0_10.length c0_10) := (blk_cell BK266.out 10).trans rfl
          have hcz50_11 : wc.cell? ⟨gb266, 11, none⟩ = some (.slice A0_11 l0_11.length c0_11) := (blk_cell BK266.out 11).trans rfl
          have hfz50_0 := blk_frozen BK266.out 0
          have hfz50_1 := blk_frozen BK266.out 1
          have hfz50_2 := blk_frozen BK266.out 2
          have hfz50_3 := blk_frozen BK266.out 3
          have hfz50_4 := blk_frozen BK266.out 4
          have hfz50_5 := blk_frozen BK266.out 5
          have hfz50_6 := blk_frozen BK266.out 6
          have hfz50_7 := blk_frozen BK266.out 7
          have hfz50_8 := blk_frozen BK266.out 8
          have hfz50_9 := blk_frozen BK266.out 9
          have hfz50_10 := blk_frozen BK266.out 10
          have hfz50_11 := blk_frozen BK266.out 11
          have hcz51_0 : wc.cell? ⟨gb267, 0, none⟩ = some (.int .i64 a1_0) := (blk_cell BK267.out 0).trans rfl
          have hcz51_1 : wc.cell? ⟨gb267, 1, none⟩ = some (.int .i64 a1_1) := (blk_cell BK267.out 1).trans rfl
          have hcz51_2 : wc.cell? ⟨gb267, 2, none⟩ = some (.int .i64 a1_2) := (blk_cell BK267.out 2).trans rfl
          have hcz51_3 : wc.cell? ⟨gb267, 3, none⟩ = some (.int .i64 a1_3) := (blk_cell BK267.out 3).trans rfl
          have hcz51_4 : wc.cell? ⟨gb267, 4, none⟩ = some (.int .i64 a1_4) := (blk_cell BK267.out 4).trans rfl
          have hcz51_5 : wc.cell? ⟨gb267, 5, none⟩ = some (.int .i64 a1_5) := (blk_cell BK267.out 5).trans rfl
          have hcz51_6 : wc.cell? ⟨gb267, 6, none⟩ = some (.int .i64 a1_6) := (blk_cell BK267.out 6).trans rfl
          have hcz51_7 : wc.cell? ⟨gb267, 7, none⟩ = some (.int .i64 a1_7) := (blk_cell BK267.out 7).trans rfl
          have hcz51_8 : wc.cell? ⟨gb267, 8, none⟩ = some (.string a1_8) := (blk_cell BK267.out 8).trans rfl
          have hcz51_9 : wc.cell? ⟨gb267, 9, none⟩ = some (.string a1_9) := (blk_cell BK267.out 9).trans rfl
          have hcz51_10 : wc.cell? ⟨gb267, 10, none⟩ = some (.slice A1_10 l1_10.length c1_10) := (blk_cell BK267.out 10).trans rfl
          have hcz51_11 : wc.cell? ⟨gb267, 11, none⟩ = some (.slice A1_11 l1_11.length c1_11) := (blk_cell BK267.out 11).trans rfl
          have hfz51_0 := blk_frozen BK267.out 0
          have hfz51_1 := blk_frozen BK267.out 1
          have hfz51_2 := blk_frozen BK267.out 2
          have hfz51_3 := blk_frozen BK267.out 3
          have hfz51_4 := blk_frozen BK267.out 4
          have hfz51_5 := blk_frozen BK267.out 5
          have hfz51_6 := blk_frozen BK267.out 6
          have hfz51_7 := blk_frozen BK267.out 7
          have hfz51_8 := blk_frozen BK267.out 8
          have hfz51_9 := blk_frozen BK267.out 9
          have hfz51_10 := blk_frozen BK267.out 10
          have hfz51_11 := blk_frozen BK267.out 11
          go_wp2_with (first | ((with_reducible refine gate_callee (f := 41) rfl ?_); refine goesL_ (some 77) rfl rfl Tryd.func41 (by kernel_rfl) rfl #[.slice A0_10 l0_10.length c0_10, .slice A1_10 l1_10.length c1_10] rfl (by (try simp only [List.map_toArray, List.map_cons, List.map_nil]); first | done | rfl | (simp only [List.length_drop, List.length_take]; rfl)) ?_; (with_reducible refine (jobshellref31_Texts.calls kj2 _ _ l0_10 _ _ l1_10 true _ ?side1 ?side2 ?side3 ?side4 A46.out).mono ?_); (case side1 => repeat (first | exact (Kd.C_below HR0_10.out HB.out) | (with_reducible refine Kd.C_alloc ?_ _) | (with_reducible refine Kd.C_drewN ?_ _) | (with_reducible refine Kd.C_drew ?_))); (case side2 => exact HC0_10.out); (case side3 => repeat (first | exact (Kd.C_below HR1_10.out HB.out) | (with_reducible refine Kd.C_alloc ?_ _) | (with_reducible refine Kd.C_drewN ?_ _) | (with_reducible refine Kd.C_drew ?_))); (case side4 => exact HC1_10.out); rintro e w' ⟨rfl, ⟨nd, rfl⟩⟩; refine ⟨_, rfl, ?_⟩) | (go_at_call 41; (with_reducible refine (jobshellref31_Texts.calls kj2 _ _ l0_11 _ _ l1_11 t269 _ ?side1 ?side2 ?side3 ?side4 A48.out).mono ?_); (case side1 => repeat (first | exact (Kd.C_below HR0_11.out (by repeat (first | (with_reducible first | exact HB.out | apply below_alloc | apply pw_below_drewN | apply below_drew1 | refine below_set ?_ GE266.out | refine below_set ?_ GE267.out) | exact HB.out))) | (with_reducible refine Kd.C_alloc ?_ _) | (with_reducible refine Kd.C_drewN ?_ _) | (with_reducible refine Kd.C_drew ?_))); (case side2 => exact HC0_11.out); (case side3 => repeat (first | exact (Kd.C_below HR1_11.out (by repeat (first | (with_reducible first | exact HB.out | apply below_alloc | apply pw_below_drewN | apply below_drew1 | refine below_set ?_ GE266.out | refine below_set ?_ GE267.out) | exact HB.out))) | (with_reducible refine Kd.C_alloc ?_ _) | (with_reducible refine Kd.C_drewN ?_ _) | (with_reducible refine Kd.C_drew ?_))); (case side4 => exact HC1_11.out); rintro e w' ⟨rfl, ⟨nd, rfl⟩⟩))
          go_ret
          exact ⟨by first | rfl | (simp [errW_none, errW_some] <;> rfl) | (simp [*, errW_none, errW_some] <;> rfl), by repeat (first | (with_reducible first | exact HB.out | apply below_alloc | apply pw_below_drewN | apply below_drew1 | refine below_set ?_ GE266.out | refine below_set ?_ GE267.out) | exact HB.out)⟩
        · replace c47 := Bool.eq_false_iff.mpr c47
          subst c47
          have H1 : (some false) = some r := by rw [if_neg (show ¬ (false = true) by decide)] at H; exact H
          clear H
          have H := H1
          clear H1
          obtain rfl := Option.some.inj H
          have hnb52 := NB266_267.out
          have hnc52 := NB267_266.out
          have hcz53_0 : wc.cell? ⟨gb266, 0, none⟩ = some (.int .i64 a0_0) := (blk_cell BK266.out 0).trans rfl
          have hcz53_1 : wc.cell? ⟨gb266, 1, none⟩ = some (.int .i64 a0_1) := (blk_cell BK266.out 1).trans rfl
          have hcz53_2 : wc.cell? ⟨gb266, 2, none⟩ = some (.int .i64 a0_2) := (blk_cell BK266.out 2).trans rfl
          have hcz53_3 : wc.cell? ⟨gb266, 3, none⟩ = some (.int .i64 a0_3) := (blk_cell BK266.out 3).trans rfl
          have hcz53_4 : wc.cell? ⟨gb266, 4, none⟩ = some (.int .i64 a0_4) := (blk_cell BK266.out 4).trans rfl
          have hcz53_5 : wc.cell? ⟨gb266, 5, none⟩ = some (.int .i64 a0_5) := (blk_cell BK266.out 5).trans rfl
          have hcz53_6 : wc.cell? ⟨gb266, 6, none⟩ = some (.int .i64 a0_6) := (blk_cell BK266.out 6).trans rfl
          have hcz53_7 : wc.cell? ⟨gb266, 7, none⟩ = some (.int .i64 a0_7) := (blk_cell BK266.out 7).trans rfl
          have hcz53_8 : wc.cell? ⟨gb266, 8, none⟩ = some (.string a0_8) := (blk_cell BK266.out 8).trans rfl
          have hcz53_9 : wc.cell? ⟨gb266, 9, none⟩ = some (.string a0_9) := (blk_cell BK266.out 9).trans rfl
          have hcz53_10 : wc.cell? ⟨gb266, 10, none⟩ = some (.slice A0_10 l0_10.length c0_10) := (blk_cell BK266.out 10).trans rfl
          have hcz53_11 : wc.cell? ⟨gb266, 11, none⟩ = some (.slice A0_11 l0_11.length c0_11) := (blk_cell BK266.out 11).trans rfl
          have hfz53_0 := blk_frozen BK266.out 0
          have hfz53_1 := blk_frozen BK266.out 1
          have hfz53_2 := blk_frozen BK266.out 2
          have hfz53_3 := blk_frozen BK266.out 3
          have hfz53_4 := blk_frozen BK266.out 4
          have hfz53_5 := blk_frozen BK266.out 5
          have hfz53_6 := blk_frozen BK266.out 6
          have hfz53_7 := blk_frozen BK266.out 7
          have hfz53_8 := blk_frozen BK266.out 8
          have hfz53_9 := blk_frozen BK266.out 9
          have hfz53_10 := blk_frozen BK266.out 10
          have hfz53_11 := blk_frozen BK266.out 11
          have hcz54_0 : wc.cell? ⟨gb267, 0, none⟩ = some (.int .i64 a1_0) := (blk_cell BK267.out 0).trans rfl
          have hcz54_1 : wc.cell? ⟨gb267, 1, none⟩ = some (.int .i64 a1_1) := (blk_cell BK267.out 1).trans rfl
          have hcz54_2 : wc.cell? ⟨gb267, 2, none⟩ = some (.int .i64 a1_2) := (blk_cell BK267.out 2).trans rfl
          have hcz54_3 : wc.cell? ⟨gb267, 3, none⟩ = some (.int .i64 a1_3) := (blk_cell BK267.out 3).trans rfl
          have hcz54_4 : wc.cell? ⟨gb267, 4, none⟩ = some (.int .i64 a1_4) := (blk_cell BK267.out 4).trans rfl
          have hcz54_5 : wc.cell? ⟨gb267, 5, none⟩ = some (.int .i64 a1_5) := (blk_cell BK267.out 5).trans rfl
          have hcz54_6 : wc.cell? ⟨gb267, 6, none⟩ = some (.int .i64 a1_6) := (blk_cell BK267.out 6).trans rfl
          have hcz54_7 : wc.cell? ⟨gb267, 7, none⟩ = some (.int .i64 a1_7) := (blk_cell BK267.out 7).trans rfl
          have hcz54_8 : wc.cell? ⟨gb267, 8, none⟩ = some (.string a1_8) := (blk_cell BK267.out 8).trans rfl
          have hcz54_9 : wc.cell? ⟨gb267, 9, none⟩ = some (.string a1_9) := (blk_cell BK267.out 9).trans rfl
          have hcz54_10 : wc.cell? ⟨gb267, 10, none⟩ = some (.slice A1_10 l1_10.length c1_10) := (blk_cell BK267.out 10).trans rfl
          have hcz54_11 : wc.cell? ⟨gb267, 11, none⟩ = some (.slice A1_11 l1_11.length c1_11) := (blk_cell BK267.out 11).trans rfl
          have hfz54_0 := blk_frozen BK267.out 0
          have hfz54_1 := blk_frozen BK267.out 1
          have hfz54_2 := blk_frozen BK267.out 2
          have hfz54_3 := blk_frozen BK267.out 3
          have hfz54_4 := blk_frozen BK267.out 4
          have hfz54_5 := blk_frozen BK267.out 5
          have hfz54_6 := blk_frozen BK267.out 6
          have hfz54_7 := blk_frozen BK267.out 7
          have hfz54_8 := blk_frozen BK267.out 8
          have hfz54_9 := blk_frozen BK267.out 9
          have hfz54_10 := blk_frozen BK267.out 10
          have hfz54_11 := blk_frozen BK267.out 11
          go_wp2_with (first | ((with_reducible refine gate_callee (f := 41) rfl ?_); refine goesL_ (some 77) rfl rfl Tryd.func41 (by kernel_rfl) rfl #[.slice A0_10 l0_10.length c0_10, .slice A1_10 l1_10.length c1_10] rfl (by (try simp only [List.map_toArray, List.map_cons, List.map_nil]); first | done | rfl | (simp only [List.length_drop, List.length_take]; rfl)) ?_; (with_reducible refine (jobshellref31_Texts.calls kj2 _ _ l0_10 _ _ l1_10 false _ ?side1 ?side2 ?side3 ?side4 A46.out).mono ?_); (case side1 => repeat (first | exact (Kd.C_below HR0_10.out HB.out) | (with_reducible refine Kd.C_alloc ?_ _) | (with_reducible refine Kd.C_drewN ?_ _) | (with_reducible refine Kd.C_drew ?_))); (case side2 => exact HC0_10.out); (case side3 => repeat (first | exact (Kd.C_below HR1_10.out HB.out) | (with_reducible refine Kd.C_alloc ?_ _) | (with_reducible refine Kd.C_drewN ?_ _) | (with_reducible refine Kd.C_drew ?_))); (case side4 => exact HC1_10.out); rintro e w' ⟨rfl, ⟨nd, rfl⟩⟩; refine ⟨_, rfl, ?_⟩))
          go_ret
          exact ⟨by first | rfl | (simp [errW_none, errW_some] <;> rfl) | (simp [*, errW_none, errW_some] <;> rfl), by repeat (first | (with_reducible first | exact HB.out | apply below_alloc | apply pw_below_drewN | apply below_drew1 | refine below_set ?_ GE266.out | refine below_set ?_ GE267.out) | exact HB.out)⟩

end Go.Proofs.YtphgcpoefpogfaaDoor.PS

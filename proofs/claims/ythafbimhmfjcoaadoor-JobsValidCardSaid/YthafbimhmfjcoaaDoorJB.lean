/- A kind of jobs whose two inner rows lie apart (the print's own kind does not tell that). -/
import Derived.Test.YthafbimhmfjcoaaDoorPVx0
import Derived.Test.YthafbimhmfjcoaaDoorPVx1
import Derived.ArgAppend
import Derived.Deep.Upon
import Derived.Test.YthafbimhmfjcoaaDoorJA
import Derived.Test.YthafbimhmfjcoaaDoorPVy1
namespace Go.Proofs.YthafbimhmfjcoaaDoor.PV
set_option linter.unusedVariables false
set_option linter.unusedSimpArgs false
open Go.RowKit Go.Proofs.YthafbimhmfjcoaaDoorW.PrintWords Go.Proofs.YthafbimhmfjcoaaDoorW.PrintLast Go.Proofs.YthafbimhmfjcoaaDoorW.PrintMore
def sep {α β : Type} (a : Kd α) (b : Kd β) : Kd (α × β) where
  sz := a.sz + b.sz
  E := a.E ++ b.E
  K := fun w x cs => ∃ c0 c1, cs = c0 ++ c1 ∧ a.K w x.1 c0 ∧ b.K w x.2 c1
  M := fun w base ok x cs => ∃ c0 c1, ∃ g : Nat → Prop, cs = c0 ++ c1 ∧ a.M w base (fun k => ok k ∧ g k) x.1 c0 ∧ b.M w base (fun k => ok k ∧ ¬ g k) x.2 c1
  K_len := (Kd.pair a b).K_len
  K_one := (Kd.pair a b).K_one
  K_below := (Kd.pair a b).K_below
  K_of_M := by
    rintro w base ok x cs ⟨c0, c1, g, rfl, h0, h1⟩
    exact ⟨c0, c1, rfl, a.K_of_M h0, b.K_of_M h1⟩
  M_mono := by
    rintro w base ok ok' x cs hok ⟨c0, c1, g, rfl, h0, h1⟩
    exact ⟨c0, c1, g, rfl, a.M_mono (fun k hk => ⟨hok k hk.1, hk.2⟩) h0, b.M_mono (fun k hk => ⟨hok k hk.1, hk.2⟩) h1⟩
  M_bound := by
    rintro w base ok x cs ⟨c0, c1, g, rfl, h0, h1⟩
    refine ⟨c0, c1, g, rfl, a.M_mono ?_ (a.M_bound h0), b.M_mono ?_ (b.M_bound h1)⟩
    · rintro k ⟨h2, h3, h4, q, hq, hc⟩
      exact ⟨⟨h2.1, h3, h4, q, List.mem_append_left _ hq, hc⟩, h2.2⟩
    · rintro k ⟨h2, h3, h4, q, hq, hc⟩
      exact ⟨⟨h2.1, h3, h4, q, List.mem_append_right _ hq, hc⟩, h2.2⟩
  M_move := by
    rintro w w1 base ok x cs hm ⟨c0, c1, g, rfl, h0, h1⟩
    exact ⟨c0, c1, g, rfl, a.M_move (fun k hk => hm k hk.1) h0, b.M_move (fun k hk => hm k hk.1) h1⟩
  M_lower := by
    rintro w base base' ok x cs hb ⟨c0, c1, g, rfl, h0, h1⟩
    exact ⟨c0, c1, g, rfl, a.M_lower hb h0, b.M_lower hb h1⟩
abbrev Jb := S35
def kJ : Kd Jb := Kd.iso (Kd.pair (Kd.int .i64) (Kd.pair (Kd.int .i64) (Kd.pair (Kd.int .i64) (sep (Kd.slice 3 (Kd.int .i64)) (Kd.pair (Kd.slice 3 (Kd.int .i64)) (Kd.pair Kd.string Kd.bool)))))) (fun x : Jb => (x.f0, x.f1, x.f2, x.f3, x.f4, x.f5, x.f6))
theorem kJ_openM {w : World} {base : Nat} {ok : Nat → Prop} {x : Jb} {cs : List Value} (h : kJ.M w base ok x cs) : ∃ v3 v4, ∃ g : Nat → Prop, cs = [.int .i64 x.f0, .int .i64 x.f1, .int .i64 x.f2, v3, v4, .string x.f5, .bool x.f6] ∧ (Kd.int .i64).R 3 w base (fun k => ok k ∧ g k) v3 x.f3 ∧ (Kd.int .i64).R 3 w base (fun k => ok k ∧ ¬ g k) v4 x.f4 := by
  obtain ⟨_, _, rfl, rfl, ⟨_, _, rfl, rfl, ⟨_, _, rfl, rfl, ⟨_, _, g, rfl, ⟨v3, rfl, g3⟩, ⟨_, _, rfl, ⟨v4, rfl, g4⟩, ⟨_, _, rfl, rfl, rfl⟩⟩⟩⟩⟩⟩ := h
  exact ⟨v3, v4, g, rfl, g3, g4⟩
theorem kJ_mkM (w : World) (base : Nat) (ok : Nat → Prop) (x : Jb) {v3 : Value} (g3 : (Kd.int .i64).R 3 w base ok v3 x.f3) {v4 : Value} (g4 : (Kd.int .i64).R 3 w base ok v4 x.f4) (hne : ∀ k, v3.ownBlock = some k → some k ≠ v4.ownBlock) : kJ.M w base ok x [.int .i64 x.f0, .int .i64 x.f1, .int .i64 x.f2, v3, v4, .string x.f5, .bool x.f6] := ⟨[.int .i64 x.f0], [.int .i64 x.f1, .int .i64 x.f2, v3, v4, .string x.f5, .bool x.f6], rfl, rfl, ⟨[.int .i64 x.f1], [.int .i64 x.f2, v3, v4, .string x.f5, .bool x.f6], rfl, rfl, ⟨[.int .i64 x.f2], [v3, v4, .string x.f5, .bool x.f6], rfl, rfl, ⟨[v3], [v4, .string x.f5, .bool x.f6], (fun k => some k = v3.ownBlock), rfl, ⟨v3, rfl, Kd.R_reok rfl g3 (fun k hk => ⟨g3.1 k hk, hk.symm⟩)⟩, ⟨[v4], [.string x.f5, .bool x.f6], rfl, ⟨v4, rfl, Kd.R_reok rfl g4 (fun k hk => ⟨g4.1 k hk, fun he => hne k he.symm hk.symm⟩)⟩, ⟨[.string x.f5], [.bool x.f6], rfl, rfl, rfl⟩⟩⟩⟩⟩⟩
end Go.Proofs.YthafbimhmfjcoaaDoor.PV
/- The program's 'own' walked to the kind kJ: the walk is the print's, with that one word more. -/
namespace Go.Proofs.YthafbimhmfjcoaaDoor.PV
set_option linter.unusedVariables false
set_option linter.unusedSimpArgs false
open Go.RowKit Go.Proofs.YthafbimhmfjcoaaDoorW.PrintWords Go.Proofs.YthafbimhmfjcoaaDoorW.PrintLast Go.Proofs.YthafbimhmfjcoaaDoorW.PrintMore
set_option maxHeartbeats 8000000 in
set_option maxRecDepth 100000 in
theorem own_sep (k : Nat) (A0 : Option Addr) (c0 : Nat) (l0 : List (S35)) (r : List (S35)) (w : World) (hr0 : Kd.C k35 w A0 l0.length l0) (hc0 : l0.length ≤ c0) (h : jobs_own.f k l0 = some r) (hG : Gl w) :
    Calls Tryd.prog 27 #[.slice A0 l0.length c0] w fun e w' => ∃ v0_ : Value, e = .returned (v0_) ∧ Kd.S kJ 35 w' w.heap.size (fun _ => True) v0_ r ∧ Below w.heap.size w w' := by
  have HG := Aside0.mk hG
  clear hG
  have hu35 := Tryd.underlying35
  have HR0 := Aside0.mk hr0
  have HC0 := Aside0.mk hc0
  clear hr0 hc0
  have HB := Aside0.mk (Below.refl w.heap.size w)
  have H : (jobs_own.l0 k ([] : List (S35)) l0 (l0.length : Int) 0) = some r := h
  clear h
  have H' := Aside0.mk H
  clear H
  go_enter Tryd.func27, Tryd.ntmps27
  go_wp2
  go_loopg [3, 8] k (fun kq v3 v8 w' => ∃ (x3_1 : List (S35)) (x8_1 : Int), v8 = .int .i64 x8_1 ∧ Aside0 (jobs_own.l0 kq x3_1 l0 (l0.length : Int) x8_1 = some r) ∧ Aside0 (kq ≤ k) ∧ Aside0 (Kd.S kJ 35 w' w.heap.size (fun _ => True) v3 x3_1) ∧ Aside0 (Below w.heap.size w w'))
  case atStart => exact ⟨(([] : List (S35))), (0), (by first | rfl | (simp; done) | (simp [*]; done)), H', ⟨Nat.le_refl _⟩, ⟨by first | exact Kd.S_nil _ _ _ _ _ | exact Kd.N_nil _ _ _ _ _ | exact Kd.V_nil _ _ _ _ _ | exact Kd.Q_nil _ _ _ _ _ | exact Kd.R_nil _ _ _ _ _⟩, ⟨by repeat (first | (with_reducible first | exact HB.out | apply below_alloc | apply pw_below_drewN | apply below_drew1) | exact HB.out)⟩⟩
  case round =>
    clear H'
    obtain ⟨x3_1, x8_1, rfl, HA, HK1, HO_3, HB⟩ := hrel
    cases gk with
    | zero => exact absurd HA.out (by simp [jobs_own.l0])
    | succ k1 =>
      have H := HA.out
      clear HA
      simp only [jobs_own.l0] at H
      by_cases c2 : x8_1 < (l0.length : Int)
      rotate_left
      · rw [if_neg c2] at H
        have c2b0 : decide (x8_1 < (l0.length : Int)) = false := decide_eq_false c2
        clear c2
        obtain rfl := Option.some.inj H
        go_wp2
        go_ret
        exact ⟨_, by first | rfl | (simp [*]; done), by (with_reducible repeat (first | apply Kd.S_alloc | apply Kd.S_drewN | apply Kd.S_drew)); exact HO_3.out, by repeat (first | (with_reducible first | exact HB.out | apply below_alloc | apply pw_below_drewN | apply below_drew1) | exact HB.out)⟩
      rw [if_pos c2] at H
      have c2b0 : decide (x8_1 < (l0.length : Int)) = true := decide_eq_true c2
      clear c2
      by_cases c3 : 0 ≤ x8_1
      rotate_left
      · rw [if_neg c3] at H
        exact absurd H (by simp)
      rw [if_pos c3] at H
      have c3b0 : decide (0 ≤ x8_1) = true := decide_eq_true c3
      clear c3
      by_cases c4 : x8_1 < (l0.length : Int)
      rotate_left
      · rw [if_neg c4] at H
        exact absurd H (by simp)
      rw [if_pos c4] at H
      have c4b0 : decide (x8_1 < (l0.length : Int)) = true := decide_eq_true c4
      clear c4
      obtain ⟨y107, hy107⟩ : ∃ y_ : List Int, y_ = (([] : List Int)) := ⟨_, rfl⟩
      replace H : (if y107.length + ((rd_T35 l0 x8_1).f3).length < 17592186044416 then ((some (([] : List Int) : List Int)).bind fun y113 => (if y113.length + ((rd_T35 l0 x8_1).f4).length < 17592186044416 then (if x3_1.length < 1466015503701 then (jobs_own.l0 k1 (x3_1 ++ [(⟨(rd_T35 l0 x8_1).f0, (rd_T35 l0 x8_1).f1, (rd_T35 l0 x8_1).f2, (y107 ++ ((rd_T35 l0 x8_1).f3)), (y113 ++ ((rd_T35 l0 x8_1).f4)), (rd_T35 l0 x8_1).f5, (rd_T35 l0 x8_1).f6⟩ : S35)]) l0 (l0.length : Int) (wrap64 (x8_1 + 1))) else (none)) else (none))) else (none)) = some r := by first | (rw [hy107]; with_reducible exact H) | (have H2_ := (Option.bind_some _ _).symm.trans H; rw [hy107]; with_reducible exact H2_) | (have H2_ := (Option.bind_some _ _).symm.trans H; with_reducible exact H2_) | with_reducible exact H | (rw [hy107]; exact H) | exact H
      have Ny107 := Aside0.mk hy107
      clear hy107
      by_cases c5 : y107.length + ((rd_T35 l0 x8_1).f3).length < 17592186044416
      rotate_left
      · rw [if_neg c5] at H
        exact absurd H (by simp)
      rw [if_pos c5] at H
      have LMc5 := Aside0.mk c5
      clear c5
      obtain ⟨y110, hy110⟩ : ∃ y_ : List Int, y_ = (y107 ++ ((rd_T35 l0 x8_1).f3)) := ⟨_, rfl⟩
      replace H : ((some (([] : List Int) : List Int)).bind fun y113 => (if y113.length + ((rd_T35 l0 x8_1).f4).length < 17592186044416 then (if x3_1.length < 1466015503701 then (jobs_own.l0 k1 (x3_1 ++ [(⟨(rd_T35 l0 x8_1).f0, (rd_T35 l0 x8_1).f1, (rd_T35 l0 x8_1).f2, y110, (y113 ++ ((rd_T35 l0 x8_1).f4)), (rd_T35 l0 x8_1).f5, (rd_T35 l0 x8_1).f6⟩ : S35)]) l0 (l0.length : Int) (wrap64 (x8_1 + 1))) else (none)) else (none))) = some r := by first | (rw [hy110]; with_reducible exact H) | (have H2_ := (Option.bind_some _ _).symm.trans H; rw [hy110]; with_reducible exact H2_) | (have H2_ := (Option.bind_some _ _).symm.trans H; with_reducible exact H2_) | with_reducible exact H | (rw [hy110]; exact H) | exact H
      have Ny110 := Aside0.mk hy110
      clear hy110
      obtain ⟨y113, hy113⟩ : ∃ y_ : List Int, y_ = (([] : List Int)) := ⟨_, rfl⟩
      replace H : (if y113.length + ((rd_T35 l0 x8_1).f4).length < 17592186044416 then (if x3_1.length < 1466015503701 then (jobs_own.l0 k1 (x3_1 ++ [(⟨(rd_T35 l0 x8_1).f0, (rd_T35 l0 x8_1).f1, (rd_T35 l0 x8_1).f2, y110, (y113 ++ ((rd_T35 l0 x8_1).f4)), (rd_T35 l0 x8_1).f5, (rd_T35 l0 x8_1).f6⟩ : S35)]) l0 (l0.length : Int) (wrap64 (x8_1 + 1))) else (none)) else (none)) = some r := by first | (rw [hy113]; with_reducible exact H) | (have H2_ := (Option.bind_some _ _).symm.trans H; rw [hy113]; with_reducible exact H2_) | (have H2_ := (Option.bind_some _ _).symm.trans H; with_reducible exact H2_) | with_reducible exact H | (rw [hy113]; exact H) | exact H
      have Ny113 := Aside0.mk hy113
      clear hy113
      by_cases c6 : y113.length + ((rd_T35 l0 x8_1).f4).length < 17592186044416
      rotate_left
      · rw [if_neg c6] at H
        exact absurd H (by simp)
      rw [if_pos c6] at H
      have LMc6 := Aside0.mk c6
      clear c6
      obtain ⟨y116, hy116⟩ : ∃ y_ : List Int, y_ = (y113 ++ ((rd_T35 l0 x8_1).f4)) := ⟨_, rfl⟩
      replace H : (if x3_1.length < 1466015503701 then (jobs_own.l0 k1 (x3_1 ++ [(⟨(rd_T35 l0 x8_1).f0, (rd_T35 l0 x8_1).f1, (rd_T35 l0 x8_1).f2, y110, y116, (rd_T35 l0 x8_1).f5, (rd_T35 l0 x8_1).f6⟩ : S35)]) l0 (l0.length : Int) (wrap64 (x8_1 + 1))) else (none)) = some r := by first | (rw [hy116]; with_reducible exact H) | (have H2_ := (Option.bind_some _ _).symm.trans H; rw [hy116]; with_reducible exact H2_) | (have H2_ := (Option.bind_some _ _).symm.trans H; with_reducible exact H2_) | with_reducible exact H | (rw [hy116]; exact H) | exact H
      have Ny116 := Aside0.mk hy116
      clear hy116
      by_cases c7 : x3_1.length < 1466015503701
      rotate_left
      · rw [if_neg c7] at H
        exact absurd H (by simp)
      rw [if_pos c7] at H
      have LMc7 := Aside0.mk c7
      clear c7
      obtain ⟨y119, hy119⟩ : ∃ y_ : List (S35), y_ = (x3_1 ++ [(⟨(rd_T35 l0 x8_1).f0, (rd_T35 l0 x8_1).f1, (rd_T35 l0 x8_1).f2, y110, y116, (rd_T35 l0 x8_1).f5, (rd_T35 l0 x8_1).f6⟩ : S35)]) := ⟨_, rfl⟩
      replace H : (jobs_own.l0 k1 y119 l0 (l0.length : Int) (wrap64 (x8_1 + 1))) = some r := by first | (rw [hy119]; with_reducible exact H) | (have H2_ := (Option.bind_some _ _).symm.trans H; rw [hy119]; with_reducible exact H2_) | (have H2_ := (Option.bind_some _ _).symm.trans H; with_reducible exact H2_) | with_reducible exact H | (rw [hy119]; exact H) | exact H
      have Ny119 := Aside0.mk hy119
      clear hy119
      have H' := Aside0.mk H
      clear H
      have p105 : 0 ≤ (x8_1 : Int) := of_decide_eq_true (by with_reducible assumption)
      have q105 : x8_1 < (l0.length : Int) := of_decide_eq_true (by with_reducible assumption)
      obtain ⟨ad105, A105_3, c105_3, A105_4, c105_4, e105, hx105_0, hx105_1, hx105_2, hx105_3, hx105_4, hx105_5, hx105_6, hl105_3, hi105_3, hl105_4, hi105_4⟩ := at_T35 HR0.out x8_1 p105 q105
      cases e105
      replace hx105_0 := (HB.out.cell (World.block_lt_of_cell? w _ hx105_0)).trans hx105_0
      replace hx105_1 := (HB.out.cell (World.block_lt_of_cell? w _ hx105_1)).trans hx105_1
      replace hx105_2 := (HB.out.cell (World.block_lt_of_cell? w _ hx105_2)).trans hx105_2
      replace hx105_3 := (HB.out.cell (World.block_lt_of_cell? w _ hx105_3)).trans hx105_3
      replace hx105_4 := (HB.out.cell (World.block_lt_of_cell? w _ hx105_4)).trans hx105_4
      replace hx105_5 := (HB.out.cell (World.block_lt_of_cell? w _ hx105_5)).trans hx105_5
      replace hx105_6 := (HB.out.cell (World.block_lt_of_cell? w _ hx105_6)).trans hx105_6
      have HR105_3 := Aside0.mk hi105_3
      have HC105_3 := Aside0.mk hl105_3
      clear hi105_3 hl105_3
      have HR105_4 := Aside0.mk hi105_4
      have HC105_4 := Aside0.mk hl105_4
      clear hi105_4 hl105_4
      replace p105 := eq_true p105
      replace q105 := eq_true q105
      go_wp2_with (first | ((with_reducible refine gate_dst (N := 5) rfl ?_); refine box_event ?hg (N := 5) ?hd (cs := #[.int .i64 0, .int .i64 0, .int .i64 0, .slice none 0 0, .slice none 0 0, .string (⟨#[]⟩ : ByteArray), .bool false]) (t := 35) ?hr ?_; (case hd => rfl); (case hg => rfl); (case hr => first | (go_simp; done) | (go_simp; rfl)); intro gb106 hg w8 hbox hb; have n0_ := Aside0.mk (Kd.S_below (Kd.S_elderB (by (with_reducible repeat (first | apply Kd.S_alloc | apply Kd.S_drewN | apply Kd.S_drew)); exact HO_3.out) gb106 (Nat.le_of_eq hg.symm)) hb); have n1_ := Aside0.mk (below_step (by repeat (first | (with_reducible first | exact HB.out | apply below_alloc | apply pw_below_drewN | apply below_drew1) | exact HB.out)) hb); have n2_ := Aside0.mk (hbox); have n3_ := Aside0.mk ((by rw [hg]; exact (below_size (by repeat (first | (with_reducible first | exact HB.out | apply below_alloc | apply pw_below_drewN | apply below_drew1) | exact HB.out))) : w.heap.size ≤ gb106)); have n4_ := n3_; clear HO_3; clear HB; have HO_3 := n0_; have HB := n1_; have BK106 := n2_; have GW106 := n3_; have GE106 := n4_; clear n0_ n1_ n2_ n3_ n4_; clear hb hbox hg; have hcz9_0 : w8.cell? ⟨gb106, 0, none⟩ = some (.int .i64 0) := (blk_cell BK106.out 0).trans rfl; have hcz9_1 : w8.cell? ⟨gb106, 1, none⟩ = some (.int .i64 0) := (blk_cell BK106.out 1).trans rfl; have hcz9_2 : w8.cell? ⟨gb106, 2, none⟩ = some (.int .i64 0) := (blk_cell BK106.out 2).trans rfl; have hcz9_3 : w8.cell? ⟨gb106, 3, none⟩ = some (.slice none 0 0) := (blk_cell BK106.out 3).trans rfl; have hcz9_4 : w8.cell? ⟨gb106, 4, none⟩ = some (.slice none 0 0) := (blk_cell BK106.out 4).trans rfl; have hcz9_5 : w8.cell? ⟨gb106, 5, none⟩ = some (.string (⟨#[]⟩ : ByteArray)) := (blk_cell BK106.out 5).trans rfl; have hcz9_6 : w8.cell? ⟨gb106, 6, none⟩ = some (.bool false) := (blk_cell BK106.out 6).trans rfl; obtain ⟨_, _, _, _, _, _, _, hfz9_0, hfz9_1, hfz9_2, hfz9_3, hfz9_4, hfz9_5, hfz9_6⟩ := cells7 BK106.out) | ((with_reducible refine gate_dst (N := 12) rfl ?_); refine Kd.R_lit (Kd.int .i64) _ 3 ?hg (N := 12) ?hd (xs := ([] : List Int)) (inner := []) (ok := fun _ => True) (okp := fun _ => True) ?hr ?hp (fun _ hk => hk) trivial (Below.refl _ _) (Nat.le_refl _) (by simp) ?_; (case hd => rfl); (case hg => rfl); (case hr => first | (go_simp; done) | (go_simp; rfl)); (case hp => exact (Reps.none _ _)); intro v108 w10 ho11 hb hg_ hnew_; clear hg_ hnew_; (first | rw [← Ny107.out] at ho11 | (simp only [Int.reduceToNat] at ho11; rw [← Ny107.out] at ho11)); have n0_ := Aside0.mk (Kd.S_elder' (by (with_reducible repeat (first | apply Kd.S_alloc | apply Kd.S_drewN | apply Kd.S_drew)); exact (Kd.S_mono (Kd.S_far (p := ⟨gb106, 6, none⟩) (Kd.S_far (p := ⟨gb106, 5, none⟩) (Kd.S_far (p := ⟨gb106, 4, none⟩) (Kd.S_far (p := ⟨gb106, 3, none⟩) (Kd.S_far (p := ⟨gb106, 2, none⟩) (Kd.S_far (p := ⟨gb106, 1, none⟩) (Kd.S_far (p := ⟨gb106, 0, none⟩) (Kd.S_mono HO_3.out (fun k_ hk => (⟨hk, by first | exact hk.2 | exact hk.2.2 | exact hk.2.1⟩ : _ ∧ k_ ≠ gb106))) (fun _ hk => hk.2) (.int .i64 ((rd_T35 l0 x8_1).f0))) (fun _ hk => hk.2) (.int .i64 ((rd_T35 l0 x8_1).f1))) (fun _ hk => hk.2) (.int .i64 ((rd_T35 l0 x8_1).f2))) (fun _ hk => hk.2) (.slice A105_3 ((rd_T35 l0 x8_1).f3).length c105_3)) (fun _ hk => hk.2) (.slice A105_4 ((rd_T35 l0 x8_1).f4).length c105_4)) (fun _ hk => hk.2) (.string ((rd_T35 l0 x8_1).f5))) (fun _ hk => hk.2) (.bool ((rd_T35 l0 x8_1).f6))) (fun _ h_ => h_.1))) (Kd.R_base ho11) hb); have n1_ := Aside0.mk (Kd.R_lower ho11 (below_size (by repeat (first | (with_reducible first | exact HB.out | apply below_alloc | apply pw_below_drewN | apply below_drew1 | refine below_set ?_ GE106.out) | exact HB.out)))); have n2_ := Aside0.mk (blk_below (g := gb106) (o := .cells #[.int .i64 ((rd_T35 l0 x8_1).f0), .int .i64 ((rd_T35 l0 x8_1).f1), .int .i64 ((rd_T35 l0 x8_1).f2), .slice A105_3 ((rd_T35 l0 x8_1).f3).length c105_3, .slice A105_4 ((rd_T35 l0 x8_1).f4).length c105_4, .string ((rd_T35 l0 x8_1).f5), .bool ((rd_T35 l0 x8_1).f6)] 35 (0, 0)) (by (with_reducible repeat (first | refine blk_drewN ?_ _ | refine blk_drew ?_ | refine blk_alloc ?_ _)); refine blk_put (cs := #[.int .i64 ((rd_T35 l0 x8_1).f0), .int .i64 ((rd_T35 l0 x8_1).f1), .int .i64 ((rd_T35 l0 x8_1).f2), .slice A105_3 ((rd_T35 l0 x8_1).f3).length c105_3, .slice A105_4 ((rd_T35 l0 x8_1).f4).length c105_4, .string ((rd_T35 l0 x8_1).f5), .bool false]) ?_ 6 _ rfl; (with_reducible repeat (first | refine blk_drewN ?_ _ | refine blk_drew ?_ | refine blk_alloc ?_ _)); refine blk_put (cs := #[.int .i64 ((rd_T35 l0 x8_1).f0), .int .i64 ((rd_T35 l0 x8_1).f1), .int .i64 ((rd_T35 l0 x8_1).f2), .slice A105_3 ((rd_T35 l0 x8_1).f3).length c105_3, .slice A105_4 ((rd_T35 l0 x8_1).f4).length c105_4, .string (⟨#[]⟩ : ByteArray), .bool false]) ?_ 5 _ rfl; (with_reducible repeat (first | refine blk_drewN ?_ _ | refine blk_drew ?_ | refine blk_alloc ?_ _)); refine blk_put (cs := #[.int .i64 ((rd_T35 l0 x8_1).f0), .int .i64 ((rd_T35 l0 x8_1).f1), .int .i64 ((rd_T35 l0 x8_1).f2), .slice A105_3 ((rd_T35 l0 x8_1).f3).length c105_3, .slice none 0 0, .string (⟨#[]⟩ : ByteArray), .bool false]) ?_ 4 _ rfl; (with_reducible repeat (first | refine blk_drewN ?_ _ | refine blk_drew ?_ | refine blk_alloc ?_ _)); refine blk_put (cs := #[.int .i64 ((rd_T35 l0 x8_1).f0), .int .i64 ((rd_T35 l0 x8_1).f1), .int .i64 ((rd_T35 l0 x8_1).f2), .slice none 0 0, .slice none 0 0, .string (⟨#[]⟩ : ByteArray), .bool false]) ?_ 3 _ rfl; (with_reducible repeat (first | refine blk_drewN ?_ _ | refine blk_drew ?_ | refine blk_alloc ?_ _)); refine blk_put (cs := #[.int .i64 ((rd_T35 l0 x8_1).f0), .int .i64 ((rd_T35 l0 x8_1).f1), .int .i64 0, .slice none 0 0, .slice none 0 0, .string (⟨#[]⟩ : ByteArray), .bool false]) ?_ 2 _ rfl; (with_reducible repeat (first | refine blk_drewN ?_ _ | refine blk_drew ?_ | refine blk_alloc ?_ _)); refine blk_put (cs := #[.int .i64 ((rd_T35 l0 x8_1).f0), .int .i64 0, .int .i64 0, .slice none 0 0, .slice none 0 0, .string (⟨#[]⟩ : ByteArray), .bool false]) ?_ 1 _ rfl; (with_reducible repeat (first | refine blk_drewN ?_ _ | refine blk_drew ?_ | refine blk_alloc ?_ _)); refine blk_put (cs := #[.int .i64 0, .int .i64 0, .int .i64 0, .slice none 0 0, .slice none 0 0, .string (⟨#[]⟩ : ByteArray), .bool false]) ?_ 0 _ rfl; (with_reducible repeat (first | refine blk_drewN ?_ _ | refine blk_drew ?_ | refine blk_alloc ?_ _)); exact BK106.out) hb); have n3_ := Aside0.mk (below_step (by repeat (first | (with_reducible first | exact HB.out | apply below_alloc | apply pw_below_drewN | apply below_drew1 | refine below_set ?_ GE106.out) | exact HB.out)) hb); clear HO_3; clear BK106; clear HB; have HO_3 := n0_; have HO109 := n1_; have BK106 := n2_; have HB := n3_; clear n0_ n1_ n2_ n3_; clear hb ho11; have hcz12_0 : w10.cell? ⟨gb106, 0, none⟩ = some (.int .i64 ((rd_T35 l0 x8_1).f0)) := (blk_cell BK106.out 0).trans rfl; have hcz12_1 : w10.cell? ⟨gb106, 1, none⟩ = some (.int .i64 ((rd_T35 l0 x8_1).f1)) := (blk_cell BK106.out 1).trans rfl; have hcz12_2 : w10.cell? ⟨gb106, 2, none⟩ = some (.int .i64 ((rd_T35 l0 x8_1).f2)) := (blk_cell BK106.out 2).trans rfl; have hcz12_3 : w10.cell? ⟨gb106, 3, none⟩ = some (.slice A105_3 ((rd_T35 l0 x8_1).f3).length c105_3) := (blk_cell BK106.out 3).trans rfl; have hcz12_4 : w10.cell? ⟨gb106, 4, none⟩ = some (.slice A105_4 ((rd_T35 l0 x8_1).f4).length c105_4) := (blk_cell BK106.out 4).trans rfl; have hcz12_5 : w10.cell? ⟨gb106, 5, none⟩ = some (.string ((rd_T35 l0 x8_1).f5)) := (blk_cell BK106.out 5).trans rfl; have hcz12_6 : w10.cell? ⟨gb106, 6, none⟩ = some (.bool ((rd_T35 l0 x8_1).f6)) := (blk_cell BK106.out 6).trans rfl; obtain ⟨_, _, _, _, _, _, _, hfz12_0, hfz12_1, hfz12_2, hfz12_3, hfz12_4, hfz12_5, hfz12_6⟩ := cells7 BK106.out) | ((with_reducible refine gate_builtin (b := .append) (xs := #[.tmp 12, .tmp 14]) rfl ?_); at_builtin; refine Kd.R_append_rows (Kd.int .i64) (w0 := w) w.heap.size rfl (.tmp 12) (.tmp 14) 23 3 (.int .i64 0) 8 rfl Tryd.underlying23 info3 rfl (by decide) (by omega) v108 y107 ((rd_T35 l0 x8_1).f3) _ _ _ (fun _ => True) (fun _ => False) rfl rfl ?aO ?aR (fun _ _ h => h) (fun _ h => h.elim) ?aF ?aB ?aS ?aL ?_; (case aR => repeat (first | exact (Kd.C_below HR105_3.out HB.out) | (with_reducible refine Kd.C_alloc ?_ _) | (with_reducible refine Kd.C_drewN ?_ _) | (with_reducible refine Kd.C_drew ?_))); (case aB => exact (by repeat (first | (with_reducible first | exact HB.out | apply below_alloc | apply pw_below_drewN | apply below_drew1 | refine below_set ?_ GE106.out) | exact HB.out))); (case aF => exact (fun _ _ => trivial)); (case aO => exact (by (with_reducible repeat (first | apply Kd.R_alloc | apply Kd.R_drewN | apply Kd.R_drew)); exact HO109.out)); (case aS => exact (below_size (by repeat (first | (with_reducible first | exact HB.out | apply below_alloc | apply pw_below_drewN | apply below_drew1 | refine below_set ?_ GE106.out) | exact HB.out)))); (case aL => have := LMc5.out; omega); intro v111 w13 ho hb hg hat; rw [← Ny110.out] at ho; have n0_ := Aside0.mk (Kd.S_after (ok := (fun k_ => k_ ≠ gb106)) (by (with_reducible repeat (first | apply Kd.S_alloc | apply Kd.S_drewN | apply Kd.S_drew)); exact Kd.S_mono HO_3.out (fun _ hk => ⟨hk.1.2, hk.2⟩)) hg hat); have n1_ := Aside0.mk (blk_grown (g := gb106) (o := .cells #[.int .i64 ((rd_T35 l0 x8_1).f0), .int .i64 ((rd_T35 l0 x8_1).f1), .int .i64 ((rd_T35 l0 x8_1).f2), .slice A105_3 ((rd_T35 l0 x8_1).f3).length c105_3, .slice A105_4 ((rd_T35 l0 x8_1).f4).length c105_4, .string ((rd_T35 l0 x8_1).f5), .bool ((rd_T35 l0 x8_1).f6)] 35 (0, 0)) (by (with_reducible repeat (first | refine blk_drewN ?_ _ | refine blk_drew ?_ | refine blk_alloc ?_ _)); exact BK106.out) hg (Kd.R_ne HO109.out BK106.out (by decide))); have n2_ := Aside0.mk (hb); have n3_ := Aside0.mk (ho); clear HO_3; clear BK106; clear HB; clear HO109; have HO_3 := n0_; have BK106 := n1_; have HB := n2_; have HO112 := n3_; clear n0_ n1_ n2_ n3_; clear ho hb hg hat; obtain ⟨Ao14, co14, eo14⟩ := Kd.R_slice HO112.out; subst eo14; have hcz15_0 : w13.cell? ⟨gb106, 0, none⟩ = some (.int .i64 ((rd_T35 l0 x8_1).f0)) := (blk_cell BK106.out 0).trans rfl; have hcz15_1 : w13.cell? ⟨gb106, 1, none⟩ = some (.int .i64 ((rd_T35 l0 x8_1).f1)) := (blk_cell BK106.out 1).trans rfl; have hcz15_2 : w13.cell? ⟨gb106, 2, none⟩ = some (.int .i64 ((rd_T35 l0 x8_1).f2)) := (blk_cell BK106.out 2).trans rfl; have hcz15_3 : w13.cell? ⟨gb106, 3, none⟩ = some (.slice A105_3 ((rd_T35 l0 x8_1).f3).length c105_3) := (blk_cell BK106.out 3).trans rfl; have hcz15_4 : w13.cell? ⟨gb106, 4, none⟩ = some (.slice A105_4 ((rd_T35 l0 x8_1).f4).length c105_4) := (blk_cell BK106.out 4).trans rfl; have hcz15_5 : w13.cell? ⟨gb106, 5, none⟩ = some (.string ((rd_T35 l0 x8_1).f5)) := (blk_cell BK106.out 5).trans rfl; have hcz15_6 : w13.cell? ⟨gb106, 6, none⟩ = some (.bool ((rd_T35 l0 x8_1).f6)) := (blk_cell BK106.out 6).trans rfl; obtain ⟨_, _, _, _, _, _, _, hfz15_0, hfz15_1, hfz15_2, hfz15_3, hfz15_4, hfz15_5, hfz15_6⟩ := cells7 BK106.out) | ((with_reducible refine gate_dst (N := 17) rfl ?_); refine Kd.R_lit (Kd.int .i64) _ 3 ?hg (N := 17) ?hd (xs := ([] : List Int)) (inner := []) (ok := fun _ => True) (okp := fun _ => True) ?hr ?hp (fun _ hk => hk) trivial (Below.refl _ _) (Nat.le_refl _) (by simp) ?_; (case hd => rfl); (case hg => rfl); (case hr => first | (go_simp; done) | (go_simp; rfl)); (case hp => exact (Reps.none _ _)); intro v114 w16 ho17 hb hg_ hnew_; clear hg_ hnew_; (first | rw [← Ny113.out] at ho17 | (simp only [Int.reduceToNat] at ho17; rw [← Ny113.out] at ho17)); have n0_ := Aside0.mk (Kd.S_elder' (by (with_reducible repeat (first | apply Kd.S_alloc | apply Kd.S_drewN | apply Kd.S_drew)); exact (Kd.S_mono (Kd.S_far (p := ⟨gb106, 3, none⟩) (Kd.S_mono HO_3.out (fun k_ hk => (⟨hk, hk.1⟩ : _ ∧ k_ ≠ gb106))) (fun _ hk => hk.2) (.slice Ao14 y110.length co14)) (fun _ h_ => h_.1))) (Kd.R_base ho17) hb); have n1_ := Aside0.mk (Kd.R_elder' (by (with_reducible repeat (first | apply Kd.R_alloc | apply Kd.R_drewN | apply Kd.R_drew)); exact (Kd.R_mono (Kd.R_far (p := ⟨gb106, 3, none⟩) (Kd.R_types HO112.out BK106.out (by decide)) (fun _ hk => hk.2) (.slice Ao14 y110.length co14)) (fun _ h_ => h_.1))) (Kd.R_base ho17) hb); have n2_ := Aside0.mk (Kd.R_lower (Kd.R_new' ho17 (Kd.R_lt (by (with_reducible repeat (first | apply Kd.R_alloc | apply Kd.R_drewN | apply Kd.R_drew)); exact (Kd.R_mono (Kd.R_far (p := ⟨gb106, 3, none⟩) (Kd.R_types HO112.out BK106.out (by decide)) (fun _ hk => hk.2) (.slice Ao14 y110.length co14)) (fun _ h_ => h_.1))))) (below_size (by repeat (first | (with_reducible first | exact HB.out | apply below_alloc | apply pw_below_drewN | apply below_drew1 | refine below_set ?_ GE106.out) | exact HB.out)))); have n3_ := Aside0.mk (blk_below (g := gb106) (o := .cells #[.int .i64 ((rd_T35 l0 x8_1).f0), .int .i64 ((rd_T35 l0 x8_1).f1), .int .i64 ((rd_T35 l0 x8_1).f2), .slice Ao14 y110.length co14, .slice A105_4 ((rd_T35 l0 x8_1).f4).length c105_4, .string ((rd_T35 l0 x8_1).f5), .bool ((rd_T35 l0 x8_1).f6)] 35 (0, 0)) (by (with_reducible repeat (first | refine blk_drewN ?_ _ | refine blk_drew ?_ | refine blk_alloc ?_ _)); refine blk_put (cs := #[.int .i64 ((rd_T35 l0 x8_1).f0), .int .i64 ((rd_T35 l0 x8_1).f1), .int .i64 ((rd_T35 l0 x8_1).f2), .slice A105_3 ((rd_T35 l0 x8_1).f3).length c105_3, .slice A105_4 ((rd_T35 l0 x8_1).f4).length c105_4, .string ((rd_T35 l0 x8_1).f5), .bool ((rd_T35 l0 x8_1).f6)]) ?_ 3 _ rfl; (with_reducible repeat (first | refine blk_drewN ?_ _ | refine blk_drew ?_ | refine blk_alloc ?_ _)); exact BK106.out) hb); have n4_ := Aside0.mk (below_step (by repeat (first | (with_reducible first | exact HB.out | apply below_alloc | apply pw_below_drewN | apply below_drew1 | refine below_set ?_ GE106.out) | exact HB.out)) hb); clear HO_3; clear HO112; clear BK106; clear HB; have HO_3 := n0_; have HO112 := n1_; have HO115 := n2_; have BK106 := n3_; have HB := n4_; clear n0_ n1_ n2_ n3_ n4_; clear hb ho17; have hcz18_0 : w16.cell? ⟨gb106, 0, none⟩ = some (.int .i64 ((rd_T35 l0 x8_1).f0)) := (blk_cell BK106.out 0).trans rfl; have hcz18_1 : w16.cell? ⟨gb106, 1, none⟩ = some (.int .i64 ((rd_T35 l0 x8_1).f1)) := (blk_cell BK106.out 1).trans rfl; have hcz18_2 : w16.cell? ⟨gb106, 2, none⟩ = some (.int .i64 ((rd_T35 l0 x8_1).f2)) := (blk_cell BK106.out 2).trans rfl; have hcz18_3 : w16.cell? ⟨gb106, 3, none⟩ = some (.slice Ao14 y110.length co14) := (blk_cell BK106.out 3).trans rfl; have hcz18_4 : w16.cell? ⟨gb106, 4, none⟩ = some (.slice A105_4 ((rd_T35 l0 x8_1).f4).length c105_4) := (blk_cell BK106.out 4).trans rfl; have hcz18_5 : w16.cell? ⟨gb106, 5, none⟩ = some (.string ((rd_T35 l0 x8_1).f5)) := (blk_cell BK106.out 5).trans rfl; have hcz18_6 : w16.cell? ⟨gb106, 6, none⟩ = some (.bool ((rd_T35 l0 x8_1).f6)) := (blk_cell BK106.out 6).trans rfl; obtain ⟨_, _, _, _, _, _, _, hfz18_0, hfz18_1, hfz18_2, hfz18_3, hfz18_4, hfz18_5, hfz18_6⟩ := cells7 BK106.out) | ((with_reducible refine gate_builtin (b := .append) (xs := #[.tmp 17, .tmp 19]) rfl ?_); at_builtin; refine Kd.R_append_rows (Kd.int .i64) (w0 := w) w.heap.size rfl (.tmp 17) (.tmp 19) 23 3 (.int .i64 0) 8 rfl Tryd.underlying23 info3 rfl (by decide) (by omega) v114 y113 ((rd_T35 l0 x8_1).f4) _ _ _ (fun k_ => some k_ ≠ (.slice Ao14 y110.length co14 : Value).ownBlock) (fun _ => False) rfl rfl ?aO ?aR (fun _ _ h => h) (fun _ h => h.elim) ?aF ?aB ?aS ?aL ?_; (case aR => repeat (first | exact (Kd.C_below HR105_4.out HB.out) | (with_reducible refine Kd.C_alloc ?_ _) | (with_reducible refine Kd.C_drewN ?_ _) | (with_reducible refine Kd.C_drew ?_))); (case aB => exact (by repeat (first | (with_reducible first | exact HB.out | apply below_alloc | apply pw_below_drewN | apply below_drew1 | refine below_set ?_ GE106.out) | exact HB.out))); (case aF => exact (fun k_ hk => Kd.fresh' (Kd.R_lt (by (with_reducible repeat (first | apply Kd.R_alloc | apply Kd.R_drewN | apply Kd.R_drew)); exact HO112.out)) k_ hk)); (case aO => exact (by (with_reducible repeat (first | apply Kd.R_alloc | apply Kd.R_drewN | apply Kd.R_drew)); exact Kd.R_mono HO115.out (fun _ hk => hk.2))); (case aS => exact (below_size (by repeat (first | (with_reducible first | exact HB.out | apply below_alloc | apply pw_below_drewN | apply below_drew1 | refine below_set ?_ GE106.out) | exact HB.out)))); (case aL => have := LMc6.out; omega); intro v117 w19 ho hb hg hat; rw [← Ny116.out] at ho; have n0_ := Aside0.mk (Kd.S_after (ok := (fun k_ => some k_ ≠ (.slice Ao14 y110.length co14 : Value).ownBlock ∧ k_ ≠ gb106)) (by (with_reducible repeat (first | apply Kd.S_alloc | apply Kd.S_drewN | apply Kd.S_drew)); exact Kd.S_mono HO_3.out (fun _ hk => ⟨⟨hk.1.2, hk.1.1⟩, hk.2⟩)) hg hat); have n1_ := Aside0.mk (blk_grown (g := gb106) (o := .cells #[.int .i64 ((rd_T35 l0 x8_1).f0), .int .i64 ((rd_T35 l0 x8_1).f1), .int .i64 ((rd_T35 l0 x8_1).f2), .slice Ao14 y110.length co14, .slice A105_4 ((rd_T35 l0 x8_1).f4).length c105_4, .string ((rd_T35 l0 x8_1).f5), .bool ((rd_T35 l0 x8_1).f6)] 35 (0, 0)) (by (with_reducible repeat (first | refine blk_drewN ?_ _ | refine blk_drew ?_ | refine blk_alloc ?_ _)); exact BK106.out) hg (Kd.R_ne HO115.out BK106.out (by decide))); have n2_ := Aside0.mk (Kd.R_after (ok := (fun _ => True)) (by (with_reducible repeat (first | apply Kd.R_alloc | apply Kd.R_drewN | apply Kd.R_drew)); exact HO112.out) hg hat); have n3_ := Aside0.mk (hb); have n4_ := Aside0.mk (ho); clear HO_3; clear BK106; clear HO112; clear HB; clear HO115; have HO_3 := n0_; have BK106 := n1_; have HO112 := n2_; have HB := n3_; have HO118 := n4_; clear n0_ n1_ n2_ n3_ n4_; clear ho hb hg hat; obtain ⟨Ao20, co20, eo20⟩ := Kd.R_slice HO118.out; subst eo20; have hcz21_0 : w19.cell? ⟨gb106, 0, none⟩ = some (.int .i64 ((rd_T35 l0 x8_1).f0)) := (blk_cell BK106.out 0).trans rfl; have hcz21_1 : w19.cell? ⟨gb106, 1, none⟩ = some (.int .i64 ((rd_T35 l0 x8_1).f1)) := (blk_cell BK106.out 1).trans rfl; have hcz21_2 : w19.cell? ⟨gb106, 2, none⟩ = some (.int .i64 ((rd_T35 l0 x8_1).f2)) := (blk_cell BK106.out 2).trans rfl; have hcz21_3 : w19.cell? ⟨gb106, 3, none⟩ = some (.slice Ao14 y110.length co14) := (blk_cell BK106.out 3).trans rfl; have hcz21_4 : w19.cell? ⟨gb106, 4, none⟩ = some (.slice A105_4 ((rd_T35 l0 x8_1).f4).length c105_4) := (blk_cell BK106.out 4).trans rfl; have hcz21_5 : w19.cell? ⟨gb106, 5, none⟩ = some (.string ((rd_T35 l0 x8_1).f5)) := (blk_cell BK106.out 5).trans rfl; have hcz21_6 : w19.cell? ⟨gb106, 6, none⟩ = some (.bool ((rd_T35 l0 x8_1).f6)) := (blk_cell BK106.out 6).trans rfl; obtain ⟨_, _, _, _, _, _, _, hfz21_0, hfz21_1, hfz21_2, hfz21_3, hfz21_4, hfz21_5, hfz21_6⟩ := cells7 BK106.out) | ((with_reducible refine gate_store (t := 23) (p := 21) rfl ?_); refine store_event (t := 23) (p := 21) (v := ?vo_w22) (w1 := (w19.setCell ⟨gb106, 4, none⟩ (.slice Ao20 y116.length co20))) ?hg ?ho ?hn ?hr ?_; (case ho => rfl); (case hg => rfl); (case hn => rfl); (case hr => first | (go_simp; done) | (go_simp; rfl)); intro w22 hw; have n0_ : Aside0 (Kd.S kJ 35 w22 w.heap.size (fun k_ => some k_ ≠ (.slice Ao14 y110.length co14 : Value).ownBlock ∧ some k_ ≠ (.slice Ao20 y116.length co20 : Value).ownBlock ∧ k_ ≠ gb106) u3 x3_1) := ⟨(by rw [hw]; exact (by (with_reducible repeat (first | apply Kd.S_alloc | apply Kd.S_drewN | apply Kd.S_drew)); exact Kd.S_mono (Kd.S_far (p := ⟨gb106, 4, none⟩) (Kd.S_mono HO_3.out (fun k_ hk => (⟨hk, hk.1.2⟩ : _ ∧ k_ ≠ gb106))) (fun _ hk => hk.2) (.slice Ao20 y116.length co20)) (fun _ hk => ⟨hk.1.1.1, ⟨hk.1.2, hk.1.1.2⟩⟩)))⟩; have n1_ : Aside0 (Kd.R (Kd.int .i64) 3 w22 w.heap.size (fun k_ => some k_ ≠ (.slice Ao20 y116.length co20 : Value).ownBlock) (.slice Ao14 y110.length co14) y110) := ⟨(by rw [hw]; exact (by (with_reducible repeat (first | apply Kd.R_alloc | apply Kd.R_drewN | apply Kd.R_drew)); exact Kd.R_mono (Kd.R_far (p := ⟨gb106, 4, none⟩) (Kd.R_types HO112.out BK106.out (by decide)) (fun _ hk => hk.2) (.slice Ao20 y116.length co20)) (fun _ hk => hk.1.2)))⟩; have n2_ : Aside0 (Kd.R (Kd.int .i64) 3 w22 w.heap.size (fun k_ => some k_ ≠ (.slice Ao14 y110.length co14 : Value).ownBlock) (.slice Ao20 y116.length co20) y116) := ⟨(by rw [hw]; exact (by (with_reducible repeat (first | apply Kd.R_alloc | apply Kd.R_drewN | apply Kd.R_drew)); exact Kd.R_mono (Kd.R_far (p := ⟨gb106, 4, none⟩) (Kd.R_types HO118.out BK106.out (by decide)) (fun _ hk => hk.2) (.slice Ao20 y116.length co20)) (fun _ hk => hk.1)))⟩; have n3_ : Aside0 (w22.heap[gb106]? = some (.cells #[.int .i64 ((rd_T35 l0 x8_1).f0), .int .i64 ((rd_T35 l0 x8_1).f1), .int .i64 ((rd_T35 l0 x8_1).f2), .slice Ao14 y110.length co14, .slice Ao20 y116.length co20, .string ((rd_T35 l0 x8_1).f5), .bool ((rd_T35 l0 x8_1).f6)] 35 (0, 0))) := ⟨(by rw [hw]; exact (by (with_reducible repeat (first | refine blk_drewN ?_ _ | refine blk_drew ?_ | refine blk_alloc ?_ _)); refine blk_put (cs := #[.int .i64 ((rd_T35 l0 x8_1).f0), .int .i64 ((rd_T35 l0 x8_1).f1), .int .i64 ((rd_T35 l0 x8_1).f2), .slice Ao14 y110.length co14, .slice A105_4 ((rd_T35 l0 x8_1).f4).length c105_4, .string ((rd_T35 l0 x8_1).f5), .bool ((rd_T35 l0 x8_1).f6)]) ?_ 4 _ rfl; (with_reducible repeat (first | refine blk_drewN ?_ _ | refine blk_drew ?_ | refine blk_alloc ?_ _)); exact BK106.out))⟩; have n4_ : Aside0 (Below w.heap.size w w22) := ⟨(by rw [hw]; exact (by repeat (first | (with_reducible first | exact HB.out | apply below_alloc | apply pw_below_drewN | apply below_drew1 | refine below_set ?_ GE106.out) | exact HB.out)))⟩; clear hw; clear HO_3; clear HO112; clear HO118; clear BK106; clear HB; have HO_3 := n0_; have HO112 := n1_; have HO118 := n2_; have BK106 := n3_; have HB := n4_; clear n0_ n1_ n2_ n3_ n4_; have hcz23_0 : w22.cell? ⟨gb106, 0, none⟩ = some (.int .i64 ((rd_T35 l0 x8_1).f0)) := (blk_cell BK106.out 0).trans rfl; have hcz23_1 : w22.cell? ⟨gb106, 1, none⟩ = some (.int .i64 ((rd_T35 l0 x8_1).f1)) := (blk_cell BK106.out 1).trans rfl; have hcz23_2 : w22.cell? ⟨gb106, 2, none⟩ = some (.int .i64 ((rd_T35 l0 x8_1).f2)) := (blk_cell BK106.out 2).trans rfl; have hcz23_3 : w22.cell? ⟨gb106, 3, none⟩ = some (.slice Ao14 y110.length co14) := (blk_cell BK106.out 3).trans rfl; have hcz23_4 : w22.cell? ⟨gb106, 4, none⟩ = some (.slice Ao20 y116.length co20) := (blk_cell BK106.out 4).trans rfl; have hcz23_5 : w22.cell? ⟨gb106, 5, none⟩ = some (.string ((rd_T35 l0 x8_1).f5)) := (blk_cell BK106.out 5).trans rfl; have hcz23_6 : w22.cell? ⟨gb106, 6, none⟩ = some (.bool ((rd_T35 l0 x8_1).f6)) := (blk_cell BK106.out 6).trans rfl; obtain ⟨_, _, _, _, _, _, _, hfz23_0, hfz23_1, hfz23_2, hfz23_3, hfz23_4, hfz23_5, hfz23_6⟩ := cells7 BK106.out) | ((with_reducible refine gate_builtin (b := .append) (xs := #[.tmp 22, .tmp 24]) rfl ?_); at_builtin; refine Kd.S_append kJ (w0 := w) w.heap.size rfl (.tmp 22) (.tmp 24) 22 35 (.agg #[(.int .i64 0), (.int .i64 0), (.int .i64 0), (.slice none 0 0), (.slice none 0 0), (.string ⟨#[]⟩), (.bool false)]) 96 rfl Tryd.underlying22 info35 rfl (by decide) (by omega) u3 x3_1 (⟨(rd_T35 l0 x8_1).f0, (rd_T35 l0 x8_1).f1, (rd_T35 l0 x8_1).f2, y110, y116, (rd_T35 l0 x8_1).f5, (rd_T35 l0 x8_1).f6⟩ : S35) [.int .i64 ((rd_T35 l0 x8_1).f0), .int .i64 ((rd_T35 l0 x8_1).f1), .int .i64 ((rd_T35 l0 x8_1).f2), .slice Ao14 y110.length co14, .slice Ao20 y116.length co20, .string ((rd_T35 l0 x8_1).f5), .bool ((rd_T35 l0 x8_1).f6)] (fun k_ => k_ ≠ gb106) (fun k_ => some k_ = (.slice Ao14 y110.length co14 : Value).ownBlock ∨ some k_ = (.slice Ao20 y116.length co20 : Value).ownBlock) rfl rfl ?aP (fun k_ hk_ => hk_.elim (fun h_ => ((Kd.R_mono (ok' := fun k_ => ((fun k_ => k_ ≠ gb106)) k_ ∧ some k_ ≠ (u3 : Value).ownBlock) (Kd.R_types (Kd.R_apart' (HO112.out) (Kd.S_typed HO_3.out) (by decide)) BK106.out (by decide)) (fun k_ hk => ⟨hk.2, hk.1.2⟩))).1 k_ h_.symm) (fun h_ => ((Kd.R_mono (ok' := fun k_ => ((fun k_ => k_ ≠ gb106)) k_ ∧ some k_ ≠ (u3 : Value).ownBlock) (Kd.R_types (Kd.R_apart' (HO118.out) (Kd.S_typed HO_3.out) (by decide)) BK106.out (by decide)) (fun k_ hk => ⟨hk.2, hk.1.2⟩))).1 k_ h_.symm)) ?aF ?aO ?aB ?aS ?aL ?_; (case aP => exact kJ_mkM _ _ _ (⟨(rd_T35 l0 x8_1).f0, (rd_T35 l0 x8_1).f1, (rd_T35 l0 x8_1).f2, y110, y116, (rd_T35 l0 x8_1).f5, (rd_T35 l0 x8_1).f6⟩ : S35) (Kd.R_mono (Kd.R_tight rfl (Kd.R_mono (ok' := fun k_ => ((fun k_ => k_ ≠ gb106)) k_ ∧ some k_ ≠ (u3 : Value).ownBlock) (Kd.R_types (Kd.R_apart' (HO112.out) (Kd.S_typed HO_3.out) (by decide)) BK106.out (by decide)) (fun k_ hk => ⟨hk.2, hk.1.2⟩))) (fun _ h_ => Or.inl h_)) (Kd.R_mono (Kd.R_tight rfl (Kd.R_mono (ok' := fun k_ => ((fun k_ => k_ ≠ gb106)) k_ ∧ some k_ ≠ (u3 : Value).ownBlock) (Kd.R_types (Kd.R_apart' (HO118.out) (Kd.S_typed HO_3.out) (by decide)) BK106.out (by decide)) (fun k_ hk => ⟨hk.2, hk.1.2⟩))) (fun _ h_ => Or.inr (h_))) (HO112.out.1)); (case aB => exact (by repeat (first | (with_reducible first | exact HB.out | apply below_alloc | apply pw_below_drewN | apply below_drew1 | refine below_set ?_ GE106.out) | exact HB.out))); (case aF => exact (fun k_ hk => Kd.freshB (g := gb106) (o := .cells #[.int .i64 ((rd_T35 l0 x8_1).f0), .int .i64 ((rd_T35 l0 x8_1).f1), .int .i64 ((rd_T35 l0 x8_1).f2), .slice Ao14 y110.length co14, .slice Ao20 y116.length co20, .string ((rd_T35 l0 x8_1).f5), .bool ((rd_T35 l0 x8_1).f6)] 35 (0, 0)) (by (with_reducible repeat (first | refine blk_drewN ?_ _ | refine blk_drew ?_ | refine blk_alloc ?_ _)); exact BK106.out) k_ hk)); (case aO => exact (by (with_reducible repeat (first | apply Kd.S_alloc | apply Kd.S_drewN | apply Kd.S_drew)); exact Kd.S_mono HO_3.out (fun k_ hk => ⟨hk.2.2, fun e_ => e_.elim (fun h_ => hk.1 h_) (fun h_ => hk.2.1 h_)⟩))); (case aS => exact (below_size (by repeat (first | (with_reducible first | exact HB.out | apply below_alloc | apply pw_below_drewN | apply below_drew1 | refine below_set ?_ GE106.out) | exact HB.out)))); (case aL => have := LMc7.out; omega); intro v120 w24 ho hb hg hat; rw [← Ny119.out] at ho; have n0_ := Aside0.mk (blk_grown (g := gb106) (o := .cells #[.int .i64 ((rd_T35 l0 x8_1).f0), .int .i64 ((rd_T35 l0 x8_1).f1), .int .i64 ((rd_T35 l0 x8_1).f2), .slice Ao14 y110.length co14, .slice Ao20 y116.length co20, .string ((rd_T35 l0 x8_1).f5), .bool ((rd_T35 l0 x8_1).f6)] 35 (0, 0)) (by (with_reducible repeat (first | refine blk_drewN ?_ _ | refine blk_drew ?_ | refine blk_alloc ?_ _)); exact BK106.out) hg (Kd.S_away HO_3.out (fun _ hk => hk.2.2))); have n1_ := Aside0.mk (hb); have n2_ := Aside0.mk (ho); clear BK106; clear HB; clear HO_3; clear HO112; clear HO118; have BK106 := n0_; have HB := n1_; have HO121 := n2_; clear n0_ n1_ n2_; clear ho hb hg hat))
      go_roundg k1
      case measure => have := HK1.out; omega
      case rel => exact ⟨(y119), (wrap64 (x8_1 + 1)), (by first | rfl | (simp; done) | (simp [*]; done)), H', ⟨by have := HK1.out; omega⟩, ⟨by (with_reducible repeat (first | apply Kd.S_alloc | apply Kd.S_drewN | apply Kd.S_drew)); exact Kd.S_mono HO121.out (fun _ hk => trivial)⟩, ⟨by repeat (first | (with_reducible first | exact HB.out | apply below_alloc | apply pw_below_drewN | apply below_drew1 | refine below_set ?_ GE106.out) | exact HB.out)⟩⟩
end Go.Proofs.YthafbimhmfjcoaaDoor.PV
/- append onto a slice without spare room (out[:i:i]): a new row, what the elements lead to shared. -/
namespace Go.Proofs.YthafbimhmfjcoaaDoor.PV
set_option linter.unusedVariables false
open Go.RowKit Go.Proofs.YthafbimhmfjcoaaDoorW.PrintWords
theorem full_row {α : Type} (d : Kd α) {W : World} {ok : Nat → Prop} {b : Addr} {n : Nat} {xs : List α} (h : Kd.F d W ok (some b) n xs) :
    ∃ inner, Reps (fun x c => Kd.FK d W ok x c) d.sz xs inner ∧ (∀ j u, inner[j]? = some u → W.cell? (b.add j) = some u) ∧ inner.length = n * d.sz ∧ ∀ u ∈ inner, u.oneCell' = true := by
  obtain ⟨inner, hr, hc⟩ := (Kd.F_rows h).inner_
  have hl : inner.length = n * d.sz := by rw [hr.1, (Kd.F_rows h).1]
  refine ⟨inner, hr, hc, hl, fun u hu => ?_⟩
  obtain ⟨j, hj, rfl⟩ := List.getElem_of_mem hu
  have hs : 0 < d.sz := by
    rcases Nat.eq_zero_or_pos d.sz with h0 | h0
    · rw [h0, Nat.mul_zero] at hl; omega
    · exact h0
  have hq : j / d.sz < xs.length := by
    rw [hr.1] at hj
    exact Nat.div_lt_of_lt_mul (by rw [Nat.mul_comm]; exact hj)
  have hk := hr.2 (j / d.sz) _ (List.getElem?_eq_getElem hq)
  refine d.K_one (Kd.FK_now hk) _ ?_
  have hm : j % d.sz < d.sz := Nat.mod_lt _ hs
  have he : ((inner.drop (j / d.sz * d.sz)).take d.sz)[j % d.sz]? = some inner[j] := by
    rw [List.getElem?_take, if_pos hm, List.getElem?_drop, Nat.mul_comm, Nat.div_add_mod, List.getElem?_eq_getElem hj]
  exact List.mem_of_getElem? he
theorem full_N {α : Type} (d : Kd α) {w0 W : World} (base : Nat) {e : TypeId} {b ad : Addr} {n m : Nat} {xs ys : List α} {ok : Nat → Prop} {ix iy : List Value} {v1 : Value} {w1 : World}
    (HX : Kd.F d W ok (some b) n xs) (HY : Kd.F d W ok (some ad) m ys) (rx : Reps (fun x c => Kd.FK d W ok x c) d.sz xs ix) (ry : Reps (fun x c => Kd.FK d W ok x c) d.sz ys iy)
    (HB : Below base w0 W) (hbase : base ≤ W.heap.size) (hown : w1.ownsRow W.heap.size e d.sz v1 (n + m) (ix ++ iy)) (hg : W.grownBy w1 none) :
    Kd.N d e w1 base (fun k => ok k ∨ W.heap.size ≤ k) v1 (xs ++ ys) ∧ Below base w0 w1 := by
  have hlx : xs.length = n := (Kd.F_rows HX).1
  have hly : ys.length = m := (Kd.F_rows HY).1
  have hr := Kd.reps_append rx ry
  have hl2 : (xs ++ ys).length = n + m := by rw [List.length_append, hlx, hly]
  refine ⟨?_, HB.grown hg hbase (by intro k hk; cases hk)⟩
  have hvb : ∀ k, v1.ownBlock = some k → W.heap.size ≤ k := by
    intro k hk
    rcases hown.2 with ⟨rfl, _⟩ | ⟨g, cap, cur, rfl, hge, _⟩
    · simp [Value.ownBlock] at hk
    · have : g = k := by simpa [Value.ownBlock] using hk
      omega
  refine ⟨fun k hk => .inr (hvb k hk), Kd.chunks d.sz (xs ++ ys).length (ix ++ iy), Kd.chunks_length _ _ _, ⟨fun k hk => hk.symm, ix ++ iy, ?_, Kd.reps_raw hr (fun x c hp => ⟨d.K_len (Kd.FK_now hp), d.K_one (Kd.FK_now hp)⟩)⟩, fun j x c hx hc => ?_⟩
  · rw [Kd.chunks_length, hl2]
    exact own_weaken hown hbase
  · rw [Kd.chunks_get hc]
    refine Kd.FK_mono (Kd.FK_step (Kd.FK_bound (hr.2 j x hx)) (fun k hk hlt => hg.block k hlt (by simp))) (fun k hk => ⟨.inl hk.1, fun he => ?_⟩)
    have := hvb k he.symm
    have := hk.2
    omega
theorem append_full_step {α : Type} {P : Program} {ops : Array Oper} {o : Oper} {a : Act} {Q : Exit → Act → World → Prop} {Kc : Act → World → Prop} (d : Kd α) {w0 W : World} (base : Nat) (hw : Region.wanted o (yielded ops a.tmps) = true) (s x : Operand) (t e : TypeId) (z : Value) (bytes : Nat)
    (ho : o.op = .call { callee := .builtin .append, args := #[s, x], argTypes := #[t, t] })
    (ht : P.underlying t = some (.slice e)) (hinfo : (P.info? e).map (fun i => (i.zero, i.size, i.bytes)) = some (some z, d.sz, bytes)) (hz : z.cells.size = d.sz) (hs0 : 0 < d.sz)
    (b ad : Addr) (n m c : Nat) (xs ys : List α) (ok : Nat → Prop) (hs : a.eval s = .slice (some b) n n) (hx : a.eval x = .slice (some ad) m c)
    (HX : Kd.F d W ok (some b) n xs) (HY : Kd.F d W ok (some ad) m ys) (hm : 0 < m)
    (HB : Below base w0 W) (hbase : base ≤ W.heap.size) (b1 : n + m ≤ maxLen) (b2 : (n + m) * bytes ≤ 140737488355328)
    (h : ∀ v1 w1, Kd.N d e w1 base (fun k => ok k ∨ W.heap.size ≤ k) v1 (xs ++ ys) → Below base w0 w1 → W.grownBy w1 none → (∀ k, v1.ownBlock = some k → W.heap.size ≤ k) → Kc (a.put o.dst v1) w1) :
    if Region.wanted o (yielded ops a.tmps) = true then Oper.wp P o a W Kc Q else Kc (a.put o.dst undef) W := by
  obtain ⟨i0, hi, hzz⟩ := Option.map_eq_some_iff.1 hinfo
  simp only [Prod.mk.injEq] at hzz
  obtain ⟨hz0, hz1, hz2⟩ := hzz
  obtain ⟨ix, rx, cx, lx, ox⟩ := full_row d HX
  obtain ⟨iy, ry, cy, ly, oy⟩ := full_row d HY
  obtain ⟨v1, w1, hrun, r1, r2⟩ := run_append_arg_grows (P := P) W t o.type e i0 z d.sz bytes ht hi hz0 hz1 hz2 hz hs0 b n n ix lx cx ad m c iy ly cy (by omega) b1 b2
  obtain ⟨hN, hB⟩ := full_N d base HX HY rx ry HB hbase r1 r2
  rw [if_pos hw]
  unfold Oper.wp
  simp [execOp, ho, resolve, invoke, builtin, hs, hx, hrun, Result.andThen]
  refine h _ _ hN hB r2 fun k hk => ?_
  rcases r1.2 with ⟨rfl, _⟩ | ⟨g, cap, cur, rfl, hge, _⟩
  · simp [Value.ownBlock] at hk
  · have : g = k := by simpa [Value.ownBlock] using hk
    omega
theorem append_none_step {P : Program} {ops : Array Oper} {o : Oper} {a : Act} {Q : Exit → Act → World → Prop} {Kc : Act → World → Prop} {W : World} (hw : Region.wanted o (yielded ops a.tmps) = true) (s x : Operand) (t e : TypeId) (i0 : TypeInfo)
    (ho : o.op = .call { callee := .builtin .append, args := #[s, x], argTypes := #[t, t] })
    (ht : P.underlying t = some (.slice e)) (hi : P.info? e = some i0) (A ad : Option Addr) (n cap c : Nat) (hle : n ≤ cap) (hs : a.eval s = .slice A n cap) (hx : a.eval x = .slice ad 0 c)
    (h : Kc (a.put o.dst (.slice A n cap)) W) :
    if Region.wanted o (yielded ops a.tmps) = true then Oper.wp P o a W Kc Q else Kc (a.put o.dst undef) W := by
  have hsrc : Src P i0.size t (.slice ad 0 c) 0 [] W := by
    cases ad with
    | none => exact Src.ofNil W ht c
    | some a0 => exact Src.ofSlice W ht a0 0 c [] (by simp) (fun j u hj => by simp at hj) (fun u hu => by cases hu)
  have hrun := run_append_nothing (P := P) W t t o.type e i0 ht hi A n cap hle (.slice ad 0 c) hsrc
  rw [if_pos hw]
  unfold Oper.wp
  simp [execOp, ho, resolve, invoke, builtin, hs, hx, hrun, Result.andThen]
  exact h
end Go.Proofs.YthafbimhmfjcoaaDoor.PV
/- jobs.Update: the statuses after a change, row by row; the job that is lent while they are written. -/
namespace Go.Proofs.YthafbimhmfjcoaaDoor.PV
set_option linter.unusedVariables false
open Go.RowKit Go.Proofs.YthafbimhmfjcoaaDoorW.PrintWords Go.Proofs.YthafbimhmfjcoaaDoor.JP
theorem statsP_len (pid s : Int) : ∀ (ps xs : List Int), (statsP pid s ps xs).length = xs.length
  | [], xs => by simp [statsP]
  | p :: ps, [] => by simp [statsP]
  | p :: ps, x :: xs => by simp [statsP, statsP_len pid s ps xs]
theorem statsP_nil (pid s : Int) : ∀ (xs : List Int), statsP pid s [] xs = xs
  | [] => rfl
  | x :: xs => rfl
theorem statsP_step (pid s : Int) : ∀ (ps xs : List Int) (k : Nat) (hk : k < ps.length), ps.length ≤ xs.length → statsP pid s (ps.take (k + 1)) xs = if ps[k] = pid then (statsP pid s (ps.take k) xs).set k s else statsP pid s (ps.take k) xs
  | p :: ps, [], k, hk, hl => by simp at hl
  | p :: ps, x :: xs, 0, hk, hl => by
    simp only [List.take_succ_cons, List.take_zero, statsP, statsP_nil, List.getElem_cons_zero]
    split <;> simp
  | p :: ps, x :: xs, k + 1, hk, hl => by
    have := statsP_step pid s ps xs k (by simpa using hk) (by simpa using hl)
    simp only [List.take_succ_cons, statsP, List.getElem_cons_succ, this]
    by_cases h : ps[k]'(by simpa using hk) = pid
    · simp only [h, if_true, List.set_cons_succ]
    · simp only [h, if_false]
def Upk (w W : World) (vl : Value) (l : List Jb) (i : Int) (bj : Nat) (x : Jb) (st : List Int) (v3 v4 : Value) : Prop :=
  ∃ oki gg : Nat → Prop, (∃ c, c = [.int .i64 x.f0, .int .i64 x.f1, .int .i64 x.f2, v3, v4, .string x.f5, .bool x.f6] ∧ Kd.H kJ 35 W w.heap.size (fun k => w.heap.size ≤ k ∧ k ≠ bj) vl l i oki c)
    ∧ (Kd.int .i64).R 3 W w.heap.size (fun k => oki k ∧ gg k) v3 x.f3 ∧ (Kd.int .i64).R 3 W w.heap.size (fun k => oki k ∧ ¬ gg k) v4 st
    ∧ W.heap[bj]? = some (.cells #[.int .i64 x.f0, .int .i64 x.f1, .int .i64 x.f2, v3, v4, .string x.f5, .bool x.f6] 35 (0, 0)) ∧ Below w.heap.size w W
    ∧ ∀ k, oki k → (w.heap.size ≤ k ∧ k ≠ bj) ∧ some k ≠ vl.ownBlock
theorem Upk.drewN {w W : World} {vl : Value} {l : List Jb} {i : Int} {bj : Nat} {x : Jb} {st : List Int} {v3 v4 : Value} (h : Upk w W vl l i bj x st v3 v4) (n : Nat) : Upk w (W.drewN n) vl l i bj x st v3 v4 := by
  obtain ⟨oki, gg, ⟨c, hc, hH⟩, h3, h4, hb, hB, ho⟩ := h
  exact ⟨oki, gg, ⟨c, hc, Kd.H_drewN hH n⟩, Kd.R_drewN h3 n, Kd.R_drewN h4 n, blk_drewN hb n, pw_below_drewN hB n, ho⟩
theorem Upk.put {w W : World} {vl : Value} {l : List Jb} {i : Int} {bj : Nat} {x : Jb} {st : List Int} {v3 : Value} {g4 n4 c4 : Nat} (h : Upk w W vl l i bj x st v3 (.slice (some ⟨g4, 0, none⟩) n4 c4)) (k : Nat) (s : Int) :
    Upk w (W.setCell ⟨g4, k, none⟩ (.int .i64 s)) vl l i bj x (st.set k s) v3 (.slice (some ⟨g4, 0, none⟩) n4 c4) := by
  obtain ⟨oki, gg, ⟨c, hc, hH⟩, h3, h4, hb, hB, ho⟩ := h
  have hn4 := (Kd.R_reads' h4).1
  subst hn4
  have h4i := h4.1 g4 (by simp [Value.ownBlock])
  have hge := Kd.R_base h4 g4 (by simp [Value.ownBlock])
  obtain ⟨hp, hg⟩ := Kd.R_put h4 (k : Int) s
  rw [Int.toNat_natCast] at hp hg
  have hj : bj ≠ g4 := fun he => ((hH.1 g4 h4i.1).2) he.symm
  refine ⟨oki, gg, ⟨c, hc, Kd.H_grown hH hg (fun k' hk' => by injection hk' with hk'; exact hk' ▸ h4i.1)⟩, Kd.R_grown h3 hg (fun k' hk' he => ?_), ?_, blk_grown hb hg (fun he => hj (by injection he)), below_set hB hge, ho⟩
  · injection he with he
    subst he
    exact h4i.2 hk'.2
  · exact hp
theorem Upk.read {w W : World} {vl : Value} {l : List Jb} {i : Int} {bj : Nat} {x : Jb} {st : List Int} {v3 v4 : Value} (h : Upk w W vl l i bj x st v3 v4) :
    W.heap[bj]? = some (.cells #[.int .i64 x.f0, .int .i64 x.f1, .int .i64 x.f2, v3, v4, .string x.f5, .bool x.f6] 35 (0, 0)) ∧ Below w.heap.size w W ∧ (∃ A3 c3, v3 = .slice A3 x.f3.length c3 ∧ x.f3.length ≤ c3 ∧ Kd.C (Kd.int .i64) W A3 x.f3.length x.f3) ∧ (∃ A4 c4, v4 = .slice A4 st.length c4 ∧ st.length ≤ c4 ∧ Kd.C (Kd.int .i64) W A4 st.length st) := by
  obtain ⟨oki, gg, ⟨c, hc, hH⟩, h3, h4, hb, hB, ho⟩ := h
  exact ⟨hb, hB, Kd.R_reads h3, Kd.R_reads h4⟩
theorem Upk.row4 {w W : World} {vl : Value} {l : List Jb} {i : Int} {bj : Nat} {x : Jb} {st : List Int} {v3 v4 : Value} (h : Upk w W vl l i bj x st v3 v4) (hp : 0 < st.length) :
    ∃ g4 c4, v4 = .slice (some ⟨g4, 0, none⟩) st.length c4 ∧ (∀ k : Nat, k < st.length → W.cell? ⟨g4, k, none⟩ = some (.int .i64 (rdOf 0 st k)) ∧ W.frozen? ⟨g4, k, none⟩ = false) := by
  obtain ⟨oki, gg, ⟨c, hc, hH⟩, h3, h4, hb, hB, ho⟩ := h
  obtain ⟨g4, c4, rfl, _⟩ := Kd.R_form h4 hp
  refine ⟨g4, c4, rfl, fun k hk => ?_⟩
  have := Kd.R_celln (0 : Int) h4 (k : Int) (by omega) (by omega)
  rwa [Int.toNat_natCast] at this
def Upd2 (w W : World) (vl : Value) (l : List Jb) (bj : Nat) (cs : Array Value) (A3 A4 : Option Addr) (f3 f4 : List Int) : Prop :=
  Kd.N k35 35 W w.heap.size (fun k => w.heap.size ≤ k ∧ k ≠ bj) vl l
    ∧ Kd.F (Kd.int .i64) W (fun k => (w.heap.size ≤ k ∧ k ≠ bj) ∧ some k ≠ vl.ownBlock) A3 f3.length f3 ∧ Kd.F (Kd.int .i64) W (fun k => (w.heap.size ≤ k ∧ k ≠ bj) ∧ some k ≠ vl.ownBlock) A4 f4.length f4
    ∧ W.heap[bj]? = some (.cells cs 35 (0, 0)) ∧ Below w.heap.size w W ∧ w.heap.size ≤ bj
theorem Upk.done {w W : World} {g n cap : Nat} {l : List Jb} {i : Int} {bj : Nat} {x : Jb} {st : List Int} {A3 A4 : Option Addr} {c3 c4 : Nat} (h : Upk w W (.slice (some ⟨g, 0, none⟩) n cap) l i bj x st (.slice A3 x.f3.length c3) (.slice A4 st.length c4)) (hb : w.heap.size ≤ bj) :
    Upd2 w W (.slice (some ⟨g, 0, none⟩) n cap) (l.set i.toNat ⟨x.f0, x.f1, x.f2, x.f3, st, x.f5, x.f6⟩) bj #[.int .i64 x.f0, .int .i64 x.f1, .int .i64 x.f2, .slice A3 x.f3.length c3, .slice A4 st.length c4, .string x.f5, .bool x.f6] A3 A4 x.f3 st := by
  obtain ⟨oki, gg, ⟨c, hc, hH⟩, h3, h4, hbk, hB, ho⟩ := h
  subst hc
  have hS := Kd.H_back hH (kJ_mkM W w.heap.size oki ⟨x.f0, x.f1, x.f2, x.f3, st, x.f5, x.f6⟩ (Kd.R_mono h3 (fun k hk => hk.1)) (Kd.R_mono h4 (fun k hk => hk.1)) (fun k hk he => (h4.1 k he.symm).2 (h3.1 k hk).2)) (fun _ hk => hk)
  have hN := Kd.S_N hS
  exact ⟨hN, Kd.F_mono (Kd.R_F h3) (fun k hk => ho k hk.1), Kd.F_mono (Kd.R_F h4) (fun k hk => ho k hk.1), hbk, hB, hb⟩
theorem Upd2.drewN {w W : World} {vl : Value} {l : List Jb} {bj : Nat} {cs : Array Value} {A3 A4 : Option Addr} {f3 f4 : List Int} (h : Upd2 w W vl l bj cs A3 A4 f3 f4) (n : Nat) : Upd2 w (W.drewN n) vl l bj cs A3 A4 f3 f4 :=
  ⟨Kd.N_drewN h.1 n, Kd.F_drewN h.2.1 n, Kd.F_drewN h.2.2.1 n, blk_drewN h.2.2.2.1 n, pw_below_drewN h.2.2.2.2.1 n, h.2.2.2.2.2⟩
theorem Upd2.drew {w W : World} {vl : Value} {l : List Jb} {bj : Nat} {cs : Array Value} {A3 A4 : Option Addr} {f3 f4 : List Int} (h : Upd2 w W vl l bj cs A3 A4 f3 f4) : Upd2 w W.drew vl l bj cs A3 A4 f3 f4 :=
  ⟨Kd.N_drew h.1, Kd.F_drew h.2.1, Kd.F_drew h.2.2.1, blk_drew h.2.2.2.1, below_drew1 h.2.2.2.2.1, h.2.2.2.2.2⟩
theorem Upd2.put {w W : World} {vl : Value} {l : List Jb} {bj : Nat} {cs : Array Value} {A3 A4 : Option Addr} {f3 f4 : List Int} (h : Upd2 w W vl l bj cs A3 A4 f3 f4) (j : Nat) (u : Value) {cs' : Array Value} (he : cs.setIfInBounds j u = cs') : Upd2 w (W.setCell ⟨bj, j, none⟩ u) vl l bj cs' A3 A4 f3 f4 :=
  ⟨Kd.N_far h.1 (fun k hk => hk.2) u, Kd.F_far h.2.1 (fun k hk => hk.1.2) u, Kd.F_far h.2.2.1 (fun k hk => hk.1.2) u, blk_put h.2.2.2.1 j u he, below_set h.2.2.2.2.1 h.2.2.2.2.2, h.2.2.2.2.2⟩
end Go.Proofs.YthafbimhmfjcoaaDoor.PV
/- jobs.Update, walked. -/
namespace Go.Proofs.YthafbimhmfjcoaaDoor.PV
set_option linter.unusedVariables false
set_option linter.unusedSimpArgs false
open Go.RowKit Go.Proofs.YthafbimhmfjcoaaDoorW.PrintWords Go.Proofs.YthafbimhmfjcoaaDoorW.PrintLast Go.Proofs.YthafbimhmfjcoaaDoorW.PrintMore Go.Proofs.YthafbimhmfjcoaaDoor.JP
set_option maxHeartbeats 8000000 in
set_option maxRecDepth 100000 in
theorem upd_out (k : Nat) (l : List Jb) (pid s : Int) (A : Option Addr) (c : Nat) (w : World) (hC : Kd.C k35 w A l.length l) (hc : l.length ≤ c) (hG : Gl w) (i : Int) (hm : jobs_member.f k l pid = some i) (h : i < 0 ∨ 0 ≤ i ∧ jobs_valid.f k s = some false) :
    Calls Tryd.prog 24 #[.slice A l.length c, .int .i64 pid, .int .i64 s] w fun e w' => e = .returned (.tuple #[.slice A l.length c, .bool false]) ∧ Below w.heap.size w w' := by
  have HC := Aside0.mk hC
  have HL := Aside0.mk hc
  have HG := Aside0.mk hG
  have HM := Aside0.mk hm
  clear hC hc hG hm
  rcases h with h | ⟨h, hv⟩
  · have h' : decide (i < 0) = true := decide_eq_true h
    go_enter Tryd.func24, Tryd.ntmps24
    go_wp2_with (go_at_call 26; refine (jobs_member.calls k A c l pid i _ HC.out HL.out HM.out HG.out).mono ?_; rintro e w1 ⟨rfl, hb⟩)
    go_ret2
    exact ⟨rfl, hb⟩
  · have h' : decide (i < 0) = false := decide_eq_false (by omega)
    have HV := Aside0.mk hv
    clear hv
    go_enter Tryd.func24, Tryd.ntmps24
    go_wp2_with (first | (go_at_call 26; refine (jobs_member.calls k A c l pid i _ HC.out HL.out HM.out HG.out).mono ?_; rintro e w1 ⟨rfl, hb⟩; have HB := Aside0.mk hb; clear hb) | (go_at_call 50; refine (jobs_valid.calls k s false _ HV.out (HG.out.below HB.out)).mono ?_; rintro e w2 ⟨rfl, ⟨nd, rfl⟩⟩))
    go_ret2
    exact ⟨rfl, pw_below_drewN HB.out _⟩
set_option maxHeartbeats 2000000 in
theorem lend_at {w W : World} {g n cap : Nat} {l : List Jb} {i : Int} (hS : Kd.S kJ 35 W w.heap.size (fun _ => True) (.slice (some ⟨g, 0, none⟩) n cap) l) (h0 : 0 ≤ i) (h1 : i < n) (x : Jb) (hx : rd_T35 l i = x) :
    ∃ A3 c3 A4 c4, (W.cell? ⟨g, i.toNat * 7, none⟩ = some (.int .i64 x.f0) ∧ W.cell? ⟨g, i.toNat * 7 + 1, none⟩ = some (.int .i64 x.f1) ∧ W.cell? ⟨g, i.toNat * 7 + 2, none⟩ = some (.int .i64 x.f2) ∧ W.cell? ⟨g, i.toNat * 7 + 3, none⟩ = some (.slice A3 x.f3.length c3) ∧ W.cell? ⟨g, i.toNat * 7 + 4, none⟩ = some (.slice A4 x.f4.length c4) ∧ W.cell? ⟨g, i.toNat * 7 + 5, none⟩ = some (.string x.f5) ∧ W.cell? ⟨g, i.toNat * 7 + 6, none⟩ = some (.bool x.f6)) ∧
      ∀ W1 : World, (∀ k, k < W.heap.size → W1.heap[k]? = W.heap[k]?) → W1.heap[W.heap.size]? = some (.cells #[.int .i64 x.f0, .int .i64 x.f1, .int .i64 x.f2, .slice A3 x.f3.length c3, .slice A4 x.f4.length c4, .string x.f5, .bool x.f6] 35 (0, 0)) → Below w.heap.size w W1 →
        Upk w W1 (.slice (some ⟨g, 0, none⟩) n cap) l i W.heap.size x x.f4 (.slice A3 x.f3.length c3) (.slice A4 x.f4.length c4) := by
  have hS' : Kd.S kJ 35 W w.heap.size (fun k => w.heap.size ≤ k ∧ k ≠ W.heap.size) (.slice (some ⟨g, 0, none⟩) n cap) l := Kd.S_mono (Kd.S_bound hS) (fun k hk => ⟨hk.2.1, by have := hk.2.2.1; omega⟩)
  obtain ⟨oki, cc, hcl, hM, hcc, hoki, hH⟩ := Kd.S_lend hS' z35 i h0 h1
  have hx' : l.getD i.toNat z35 = x := hx
  rw [hx'] at hM
  obtain ⟨v3, v4, gg, rfl, h3, h4⟩ := kJ_openM hM
  obtain ⟨A3, c3, rfl⟩ := Kd.R_slice h3
  obtain ⟨A4, c4, rfl⟩ := Kd.R_slice h4
  have e0 := hcc 0 (.int .i64 x.f0) rfl
  have e1 := hcc 1 (.int .i64 x.f1) rfl
  have e2 := hcc 2 (.int .i64 x.f2) rfl
  have e3 := hcc 3 (.slice A3 x.f3.length c3) rfl
  have e4 := hcc 4 (.slice A4 x.f4.length c4) rfl
  have e5 := hcc 5 (.string x.f5) rfl
  have e6 := hcc 6 (.bool x.f6) rfl
  have h7 : kJ.sz = 7 := rfl
  rw [h7] at e0 e1 e2 e3 e4 e5 e6
  rw [Nat.add_zero] at e0
  refine ⟨A3, c3, A4, c4, ⟨e0, e1, e2, e3, e4, e5, e6⟩, fun W1 hW hb hB => ?_⟩
  exact ⟨oki, gg, ⟨_, rfl, Kd.H_step hH (fun k _ _ hlt => hW k hlt)⟩, Kd.R_step h3 (fun k _ hlt => hW k hlt), Kd.R_step h4 (fun k _ hlt => hW k hlt), hb, hB, fun k hk => ⟨(hoki k hk).1, fun he => (hoki k hk).2 (by simpa [Value.ownBlock] using he)⟩⟩
theorem seven {W : World} {b t : Nat} {a0 a1 a2 a3 a4 a5 a6 : Value} (u0 u1 u2 u3 u4 u5 u6 : Value) (h : W.heap[b]? = some (.cells #[a0, a1, a2, a3, a4, a5, a6] t (0, 0))) :
    (((((((W.setCell ⟨b, 0, none⟩ u0).setCell ⟨b, 1, none⟩ u1).setCell ⟨b, 2, none⟩ u2).setCell ⟨b, 3, none⟩ u3).setCell ⟨b, 4, none⟩ u4).setCell ⟨b, 5, none⟩ u5).setCell ⟨b, 6, none⟩ u6).heap[b]? = some (.cells #[u0, u1, u2, u3, u4, u5, u6] t (0, 0)) := by
  have h0 := blk_put (cs' := #[u0, a1, a2, a3, a4, a5, a6]) h 0 u0 rfl
  have h1 := blk_put (cs' := #[u0, u1, a2, a3, a4, a5, a6]) h0 1 u1 rfl
  have h2 := blk_put (cs' := #[u0, u1, u2, a3, a4, a5, a6]) h1 2 u2 rfl
  have h3 := blk_put (cs' := #[u0, u1, u2, u3, a4, a5, a6]) h2 3 u3 rfl
  have h4 := blk_put (cs' := #[u0, u1, u2, u3, u4, a5, a6]) h3 4 u4 rfl
  have h5 := blk_put (cs' := #[u0, u1, u2, u3, u4, u5, a6]) h4 5 u5 rfl
  have h6 := blk_put (cs' := #[u0, u1, u2, u3, u4, u5, u6]) h5 6 u6 rfl
  exact h6
theorem seven_far {W : World} {b : Nat} (u0 u1 u2 u3 u4 u5 u6 : Value) (k : Nat) (hk : k ≠ b) :
    (((((((W.setCell ⟨b, 0, none⟩ u0).setCell ⟨b, 1, none⟩ u1).setCell ⟨b, 2, none⟩ u2).setCell ⟨b, 3, none⟩ u3).setCell ⟨b, 4, none⟩ u4).setCell ⟨b, 5, none⟩ u5).setCell ⟨b, 6, none⟩ u6).heap[k]? = W.heap[k]? := by
  repeat rw [Below.heap_setCell _ _ _ k hk]
def upd_T21 : Bool × List (List Nat × List Nat) := (true, [([], []), ([], []), ([], []), ([0, 1, 2], [0, 1, 2]), ([], []), ([], []), ([5], [5]), ([4, 6], [4, 6]), ([3, 7], [3, 7]), ([], []), ([9], [9]), ([8, 10, 8], [8, 10]), ([11, 11, 0, 1, 2, 3, 4, 5, 6, 7, 8, 9, 10, 11], [0, 4, 11])])
def upd_B21 : List Nat := [0, 0, 0, 7, 0, 0, 32, 112, 255, 0, 512, 2047, 4095]
theorem upd_tab21 : rtab .any (opsOf Tryd.f24 21) = upd_T21 := by kernel_rfl
theorem upd_bits21 : waitsOk upd_T21.2 upd_B21 = true := by kernel_rfl
end Go.Proofs.YthafbimhmfjcoaaDoor.PV

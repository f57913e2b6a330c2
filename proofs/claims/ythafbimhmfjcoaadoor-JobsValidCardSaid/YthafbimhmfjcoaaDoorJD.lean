/- The closures of jobs.Find and jobs.only over each of them, walked. -/
import Derived.Test.YthafbimhmfjcoaaDoorJA
import Derived.Test.YthafbimhmfjcoaaDoorJJoin
import Derived.Test.YthafbimhmfjcoaaDoorShelf
import Derived.RangeFuncBox
import Derived.Lib.AtoiErrMem
import Derived.Test.YthafbimhmfjcoaaDoorPVy2
import Derived.Test.YthafbimhmfjcoaaDoorPVx15
namespace Go.Proofs.YthafbimhmfjcoaaDoor.PV
set_option linter.unusedVariables false
set_option linter.unusedSimpArgs false
open Go.RowKit Go.Proofs.YthafbimhmfjcoaaDoorW.PrintWords Go.Proofs.YthafbimhmfjcoaaDoorW.PrintLast Go.Proofs.YthafbimhmfjcoaaDoorW.PrintMore Go.Proofs.YthafbimhmfjcoaaDoor.JP
theorem cut_from (s : ByteArray) (m : Nat) : (s.extract m s.size).data.toList = s.data.toList.drop m := by
  rw [ByteArray.data_extract, Array.toList_extract, List.extract_eq_take_drop]
  exact List.take_of_length_le (by rw [List.length_drop]; exact Nat.le_refl _)
set_option maxHeartbeats 2000000 in
set_option maxRecDepth 100000 in
theorem clo1 (j : Jb) (A3 A4 : Option Addr) (c3 c4 Bo Bn : Nat) (ok : Bool) (n : Int) (w : World) (h1 : w.cell? ⟨Bo, 0, none⟩ = some (.bool ok)) (h2 : w.cell? ⟨Bn, 0, none⟩ = some (.int .i64 n)) :
    Calls Tryd.prog 39 #[.agg #[.int .i64 j.f0, .int .i64 j.f1, .int .i64 j.f2, .slice A3 j.f3.length c3, .slice A4 j.f4.length c4, .string j.f5, .bool j.f6], .pointer (some ⟨Bo, 0, none⟩), .pointer (some ⟨Bn, 0, none⟩)] w fun e w' => e = .returned (.bool (ok && decide (j.f0 = n))) ∧ Below w.heap.size w w' := by
  have hb1 : Below w.heap.size w (w.alloc (.cells #[.int .i64 j.f0, .int .i64 j.f1, .int .i64 j.f2, .slice A3 j.f3.length c3, .slice A4 j.f4.length c4, .string j.f5, .bool j.f6] 35)) := (Below.refl _ w).alloc (Nat.le_refl _) _
  have hn := World.alloc_heap_new w (.cells #[.int .i64 j.f0, .int .i64 j.f1, .int .i64 j.f2, .slice A3 j.f3.length c3, .slice A4 j.f4.length c4, .string j.f5, .bool j.f6] 35)
  have hk1 := (hb1.cell (World.block_lt_of_cell? w _ h1)).trans h1
  have hk2 := (hb1.cell (World.block_lt_of_cell? w _ h2)).trans h2
  have hq0 : (w.alloc (.cells #[.int .i64 j.f0, .int .i64 j.f1, .int .i64 j.f2, .slice A3 j.f3.length c3, .slice A4 j.f4.length c4, .string j.f5, .bool j.f6] 35)).cell? ⟨w.heap.size, 0, none⟩ = some (.int .i64 j.f0) := (blk_cell hn 0).trans rfl
  have HB := Aside0.mk hb1
  clear hb1 hn h1 h2
  have hu35 := Tryd.underlying35
  cases ok with
  | false =>
    go_enter Tryd.func39, Tryd.ntmps39
    go_wp2
    go_ret
    exact ⟨by rfl, HB.out⟩
  | true =>
    by_cases he : j.f0 = n
    · have heb : (j.f0 == n) = true := beq_iff_eq.2 he
      have HE := Aside0.mk he
      clear he
      go_enter Tryd.func39, Tryd.ntmps39
      go_wp2
      go_ret
      exact ⟨by rw [decide_eq_true HE.out]; rfl, HB.out⟩
    · have heb : (j.f0 == n) = false := beq_eq_false_iff_ne.2 he
      have HE := Aside0.mk he
      clear he
      go_enter Tryd.func39, Tryd.ntmps39
      go_wp2
      go_ret
      exact ⟨by rw [decide_eq_false HE.out]; rfl, HB.out⟩
set_option maxHeartbeats 2000000 in
set_option maxRecDepth 100000 in
theorem clo2 (j : Jb) (A3 A4 : Option Addr) (c3 c4 Bs : Nat) (s : ByteArray) (hs : 2 ≤ s.size) (hx : j.f5.size < 4294967281) (hsz : s.size < 4294967281) (w : World) (hG : Gl w) (h1 : w.cell? ⟨Bs, 0, none⟩ = some (.string s)) :
    Calls Tryd.prog 40 #[.agg #[.int .i64 j.f0, .int .i64 j.f1, .int .i64 j.f2, .slice A3 j.f3.length c3, .slice A4 j.f4.length c4, .string j.f5, .bool j.f6], .pointer (some ⟨Bs, 0, none⟩)] w fun e w' => e = .returned (.bool (Lib.contains j.f5.data.toList (s.data.toList.drop 2))) ∧ Below w.heap.size w w' := by
  have hb1 : Below w.heap.size w (w.alloc (.cells #[.int .i64 j.f0, .int .i64 j.f1, .int .i64 j.f2, .slice A3 j.f3.length c3, .slice A4 j.f4.length c4, .string j.f5, .bool j.f6] 35)) := (Below.refl _ w).alloc (Nat.le_refl _) _
  have hn := World.alloc_heap_new w (.cells #[.int .i64 j.f0, .int .i64 j.f1, .int .i64 j.f2, .slice A3 j.f3.length c3, .slice A4 j.f4.length c4, .string j.f5, .bool j.f6] 35)
  have hk1 := (hb1.cell (World.block_lt_of_cell? w _ h1)).trans h1
  have hq5 : (w.alloc (.cells #[.int .i64 j.f0, .int .i64 j.f1, .int .i64 j.f2, .slice A3 j.f3.length c3, .slice A4 j.f4.length c4, .string j.f5, .bool j.f6] 35)).cell? ⟨w.heap.size, 5, none⟩ = some (.string j.f5) := (blk_cell hn 5).trans rfl
  have HB := Aside0.mk hb1
  have HG := Aside0.mk (hG.below hb1)
  have hc0 := eq_true hs
  have hc1 := eq_true (show (2 : Int) ≤ (s.size : Int) by omega)
  have hc2 : decide ((2 : Int) ≤ (s.size : Int)) = true := decide_eq_true (by omega)
  have hcut := cut_from s 2
  have HCUT := Aside0.mk hcut
  have HX := Aside0.mk hx
  have HS := Aside0.mk hs
  obtain ⟨m, hm⟩ := HG.out.maxLen
  have HM := Aside0.mk hm
  clear hb1 hn h1 hG hcut hx hm hsz
  have hu35 := Tryd.underlying35
  go_enter Tryd.func40, Tryd.ntmps40
  go_wp2_with (fail)
  go_quiet ((go_at_call 41; refine (Tryd.strings_Contains j.f5 (s.extract 2 s.size) m (World.drewN _ _) HX.out ?hmm).mono ?_; (case hmm => exact HM.out); rintro e w' ⟨rfl, rfl⟩; exact ⟨rfl, _, rfl⟩))
  go_wp2
  go_ret
  exact ⟨by rw [HCUT.out]; rfl, pw_below_drewN HB.out _⟩
set_option maxHeartbeats 2000000 in
set_option maxRecDepth 100000 in
theorem clo3 (j : Jb) (A3 A4 : Option Addr) (c3 c4 Bs : Nat) (s : ByteArray) (hs : 1 ≤ s.size) (hx : j.f5.size < 4294967281) (hsz : s.size < 4294967281) (w : World) (hG : Gl w) (h1 : w.cell? ⟨Bs, 0, none⟩ = some (.string s)) :
    Calls Tryd.prog 42 #[.agg #[.int .i64 j.f0, .int .i64 j.f1, .int .i64 j.f2, .slice A3 j.f3.length c3, .slice A4 j.f4.length c4, .string j.f5, .bool j.f6], .pointer (some ⟨Bs, 0, none⟩)] w fun e w' => e = .returned (.bool (Lib.hasPrefix j.f5.data.toList (s.data.toList.drop 1))) ∧ Below w.heap.size w w' := by
  have hb1 : Below w.heap.size w (w.alloc (.cells #[.int .i64 j.f0, .int .i64 j.f1, .int .i64 j.f2, .slice A3 j.f3.length c3, .slice A4 j.f4.length c4, .string j.f5, .bool j.f6] 35)) := (Below.refl _ w).alloc (Nat.le_refl _) _
  have hn := World.alloc_heap_new w (.cells #[.int .i64 j.f0, .int .i64 j.f1, .int .i64 j.f2, .slice A3 j.f3.length c3, .slice A4 j.f4.length c4, .string j.f5, .bool j.f6] 35)
  have hk1 := (hb1.cell (World.block_lt_of_cell? w _ h1)).trans h1
  have hq5 : (w.alloc (.cells #[.int .i64 j.f0, .int .i64 j.f1, .int .i64 j.f2, .slice A3 j.f3.length c3, .slice A4 j.f4.length c4, .string j.f5, .bool j.f6] 35)).cell? ⟨w.heap.size, 5, none⟩ = some (.string j.f5) := (blk_cell hn 5).trans rfl
  have HB := Aside0.mk hb1
  have HG := Aside0.mk (hG.below hb1)
  have hc0 := eq_true hs
  have hc1 := eq_true (show (1 : Int) ≤ (s.size : Int) by omega)
  have hc2 : decide ((1 : Int) ≤ (s.size : Int)) = true := decide_eq_true (by omega)
  have hcut := cut_from s 1
  have HCUT := Aside0.mk hcut
  have HX := Aside0.mk hx
  have HS := Aside0.mk hs
  obtain ⟨m, hm⟩ := HG.out.maxLen
  have HM := Aside0.mk hm
  clear hb1 hn h1 hG hcut hx hm hsz
  have hu35 := Tryd.underlying35
  go_enter Tryd.func42, Tryd.ntmps42
  go_wp2_with (fail)
  go_quiet ((go_at_call 35; refine (Tryd.strings_HasPrefix j.f5 (s.extract 1 s.size) _).mono ?_; rintro e w' ⟨rfl, rfl⟩; exact ⟨rfl, _, rfl⟩))
  go_wp2
  go_ret
  exact ⟨by rw [HCUT.out]; rfl, pw_below_drewN HB.out _⟩
set_option maxHeartbeats 4000000 in
set_option maxRecDepth 100000 in
theorem only1 (l : List Jb) (A : Option Addr) (c : Nat) (Bo Bn : Nat) (p : Jb → Bool) (w : World) (hC : Kd.C k35 w A l.length l) (hc : l.length ≤ c) (hl : l.length ≤ 4611686018427387904)
    (hF : ∀ (x : Jb), x ∈ l → ∀ (A3 A4 : Option Addr) (c3 c4 : Nat) (W : World), Below w.heap.size w W → Calls Tryd.prog 39 #[.agg #[.int .i64 x.f0, .int .i64 x.f1, .int .i64 x.f2, .slice A3 x.f3.length c3, .slice A4 x.f4.length c4, .string x.f5, .bool x.f6], .pointer (some ⟨Bo, 0, none⟩), .pointer (some ⟨Bn, 0, none⟩)] W fun e W' => e = .returned (.bool (p x)) ∧ Below W.heap.size W W') :
    Calls Tryd.prog 38 #[.slice A l.length c, .func (.func 39) #[] #[.pointer (some ⟨Bo, 0, none⟩), .pointer (some ⟨Bn, 0, none⟩)]] w fun e w' => e = .returned (.tuple #[.int .i64 (onlyP p 0 (-1) l).1, .int .i64 (onlyP p 0 (-1) l).2]) ∧ Below w.heap.size w w' := by
  have HC := Aside0.mk hC
  have HF := Aside0.mk hF
  have HL := Aside0.mk hl
  clear hC hF hc hl
  have hu35 := Tryd.underlying35
  obtain ⟨res, hres⟩ : ∃ res, onlyP p 0 (-1) l = res := ⟨_, rfl⟩
  rw [hres]
  have HR := Aside0.mk hres
  clear hres
  go_enter Tryd.func38, Tryd.ntmps38
  go_wp2
  go_loopw [6, 11] (fun v6 v11 wr => ∃ (n : Nat) (f : Int), v6 = .int .i64 f ∧ v11 = .int .i64 n ∧ n ≤ l.length ∧ Aside0 (onlyP p n f (l.drop n) = res) ∧ Aside0 (Below w.heap.size w wr)) (fun _ v _ => (l.length - (intOf v)).toNat)
  case atStart => exact ⟨0, -1, rfl, rfl, Nat.zero_le _, ⟨by rw [List.drop_zero]; exact HR.out⟩, ⟨Below.refl _ _⟩⟩
  case round =>
    obtain ⟨n, f, rfl, rfl, hn, HO, HB⟩ := hrel
    clear HR
    by_cases hlt : n < l.length
    · have ho := HO.out
      rw [List.drop_eq_getElem_cons hlt] at ho
      unfold onlyP at ho
      have c3b0 : decide ((n : Int) < (l.length : Int)) = true := decide_eq_true (by omega)
      have c4b0 : decide (0 ≤ (n : Int)) = true := decide_eq_true (by omega)
      have hw1 : wrap64 ((n : Int) + 1) = ((n + 1 : Nat) : Int) := by have := HL.out; unfold wrap64; omega
      obtain ⟨ad, A3, c3, A4, c4, e1, hx0, hx1, hx2, hx3, hx4, hx5, hx6, hl3, hi3, hl4, hi4⟩ := at_T35 HC.out (n : Int) (by omega) (by omega)
      obtain ⟨x, hx⟩ : ∃ x, rd_T35 l (n : Int) = x := ⟨_, rfl⟩
      have hxl : l[n] = x := by rw [← hx]; simp [rd_T35, hlt]
      rw [Int.toNat_natCast] at hx0 hx1 hx2 hx3 hx4 hx5 hx6
      rw [hx] at hx0 hx1 hx2 hx3 hx4 hx5 hx6
      rw [hxl] at ho
      have hmem : x ∈ l := hxl ▸ List.getElem_mem hlt
      have hF := HF.out x hmem A3 A4 c3 c4
      clear hl3 hi3 hl4 hi4 hx hxl hmem
      cases e1
      replace hx0 := (HB.out.cell (World.block_lt_of_cell? w _ hx0)).trans hx0
      replace hx1 := (HB.out.cell (World.block_lt_of_cell? w _ hx1)).trans hx1
      replace hx2 := (HB.out.cell (World.block_lt_of_cell? w _ hx2)).trans hx2
      replace hx3 := (HB.out.cell (World.block_lt_of_cell? w _ hx3)).trans hx3
      replace hx4 := (HB.out.cell (World.block_lt_of_cell? w _ hx4)).trans hx4
      replace hx5 := (HB.out.cell (World.block_lt_of_cell? w _ hx5)).trans hx5
      replace hx6 := (HB.out.cell (World.block_lt_of_cell? w _ hx6)).trans hx6
      have p1 : (0 ≤ (n : Int)) = True := eq_true (by omega)
      have q1 : ((n : Int) < (l.length : Int)) = True := eq_true (by omega)
      have HLT := Aside0.mk hlt
      have HN := Aside0.mk hn
      have HW1 := Aside0.mk hw1
      clear hlt hn HO hw1
      by_cases hp : p x = true
      · rw [if_pos hp] at ho
        rw [hp] at hF
        have HF1 := Aside0.mk hF
        clear hF hp
        by_cases hf : 0 ≤ f
        · rw [if_pos hf] at ho
          have hf0 : decide (f ≥ 0) = true := decide_eq_true hf
          have hf1 : decide (0 ≤ f) = true := decide_eq_true hf
          subst ho
          clear hf
          go_wp2_with (first | ((with_reducible refine gate_dst (N := 8) rfl ?_); refine box_event ?hg (N := 8) ?hd (cs := #[.int .i64 0, .int .i64 0, .int .i64 0, .slice none 0 0, .slice none 0 0, .string (⟨#[]⟩ : ByteArray), .bool false]) (t := 35) ?hr ?_; (case hd => rfl); (case hg => rfl); (case hr => first | (go_simp; done) | (go_simp; rfl)); intro gb1 hg w8 hbox hb; have n0_ := Aside0.mk (below_step HB.out hb); have n1_ := Aside0.mk hbox; have n2_ := Aside0.mk (show w.heap.size ≤ gb1 by rw [hg]; exact below_size HB.out); clear HB; have HB := n0_; have BK := n1_; have GE := n2_; clear n0_ n1_ n2_ hb hbox hg; obtain ⟨hcz0, hcz1, hcz2, hcz3, hcz4, hcz5, hcz6⟩ := held7 BK.out; obtain ⟨_, _, _, _, _, _, _, hfz0, hfz1, hfz2, hfz3, hfz4, hfz5, hfz6⟩ := cells7 BK.out) | (go_at_call 39; refine (HF1.out _ (by repeat (first | (with_reducible exact HB.out) | refine below_set ?_ GE.out | exact HB.out))).mono ?_; rintro e w9 ⟨rfl, hb⟩; have n0_ := Aside0.mk (below_step (by repeat (first | (with_reducible exact HB.out) | refine below_set ?_ GE.out | exact HB.out)) hb); clear HB hb; have HB := n0_; clear n0_))
          go_ret2
          exact ⟨rfl, HB.out⟩
        · rw [if_neg hf] at ho
          have hf0 : decide (f ≥ 0) = false := decide_eq_false hf
          have hf1 : decide (0 ≤ f) = false := decide_eq_false hf
          have HO := Aside0.mk ho
          clear ho hf
          go_wp2_with (first | ((with_reducible refine gate_dst (N := 8) rfl ?_); refine box_event ?hg (N := 8) ?hd (cs := #[.int .i64 0, .int .i64 0, .int .i64 0, .slice none 0 0, .slice none 0 0, .string (⟨#[]⟩ : ByteArray), .bool false]) (t := 35) ?hr ?_; (case hd => rfl); (case hg => rfl); (case hr => first | (go_simp; done) | (go_simp; rfl)); intro gb1 hg w8 hbox hb; have n0_ := Aside0.mk (below_step HB.out hb); have n1_ := Aside0.mk hbox; have n2_ := Aside0.mk (show w.heap.size ≤ gb1 by rw [hg]; exact below_size HB.out); clear HB; have HB := n0_; have BK := n1_; have GE := n2_; clear n0_ n1_ n2_ hb hbox hg; obtain ⟨hcz0, hcz1, hcz2, hcz3, hcz4, hcz5, hcz6⟩ := held7 BK.out; obtain ⟨_, _, _, _, _, _, _, hfz0, hfz1, hfz2, hfz3, hfz4, hfz5, hfz6⟩ := cells7 BK.out) | (go_at_call 39; refine (HF1.out _ (by repeat (first | (with_reducible exact HB.out) | refine below_set ?_ GE.out | exact HB.out))).mono ?_; rintro e w9 ⟨rfl, hb⟩; have n0_ := Aside0.mk (below_step (by repeat (first | (with_reducible exact HB.out) | refine below_set ?_ GE.out | exact HB.out)) hb); clear HB hb; have HB := n0_; clear n0_))
          go_roundw
          case rel => exact ⟨n + 1, n, rfl, by rw [HW1.out], HLT.out, ⟨by push_cast; exact HO.out⟩, HB⟩
          case measure => rw [HW1.out]; have := HLT.out; simp [intOf]; omega
      · rw [if_neg hp] at ho
        rw [Bool.eq_false_iff.2 hp] at hF
        have HF1 := Aside0.mk hF
        have HO := Aside0.mk ho
        clear hF hp ho
        go_wp2_with (first | ((with_reducible refine gate_dst (N := 8) rfl ?_); refine box_event ?hg (N := 8) ?hd (cs := #[.int .i64 0, .int .i64 0, .int .i64 0, .slice none 0 0, .slice none 0 0, .string (⟨#[]⟩ : ByteArray), .bool false]) (t := 35) ?hr ?_; (case hd => rfl); (case hg => rfl); (case hr => first | (go_simp; done) | (go_simp; rfl)); intro gb1 hg w8 hbox hb; have n0_ := Aside0.mk (below_step HB.out hb); have n1_ := Aside0.mk hbox; have n2_ := Aside0.mk (show w.heap.size ≤ gb1 by rw [hg]; exact below_size HB.out); clear HB; have HB := n0_; have BK := n1_; have GE := n2_; clear n0_ n1_ n2_ hb hbox hg; obtain ⟨hcz0, hcz1, hcz2, hcz3, hcz4, hcz5, hcz6⟩ := held7 BK.out; obtain ⟨_, _, _, _, _, _, _, hfz0, hfz1, hfz2, hfz3, hfz4, hfz5, hfz6⟩ := cells7 BK.out) | (go_at_call 39; refine (HF1.out _ (by repeat (first | (with_reducible exact HB.out) | refine below_set ?_ GE.out | exact HB.out))).mono ?_; rintro e w9 ⟨rfl, hb⟩; have n0_ := Aside0.mk (below_step (by repeat (first | (with_reducible exact HB.out) | refine below_set ?_ GE.out | exact HB.out)) hb); clear HB hb; have HB := n0_; clear n0_))
        go_roundw
        case rel => exact ⟨n + 1, f, rfl, by rw [HW1.out], HLT.out, ⟨by push_cast; exact HO.out⟩, HB⟩
        case measure => rw [HW1.out]; have := HLT.out; simp [intOf]; omega
    · obtain rfl : n = l.length := by omega
      have ho := HO.out
      rw [List.drop_length] at ho
      have c3b0 : decide ((l.length : Int) < (l.length : Int)) = false := decide_eq_false (by omega)
      clear hn hlt HO
      unfold onlyP at ho
      by_cases hf : f < 0
      · rw [if_pos hf] at ho
        have hf0 : decide (f < 0) = true := decide_eq_true hf
        subst ho
        clear hf
        go_wp2
        go_ret2
        exact ⟨rfl, HB.out⟩
      · rw [if_neg hf] at ho
        have hf0 : decide (f < 0) = false := decide_eq_false hf
        subst ho
        clear hf
        go_wp2
        go_ret2
        exact ⟨rfl, HB.out⟩
set_option maxHeartbeats 4000000 in
set_option maxRecDepth 100000 in
theorem only2 (l : List Jb) (A : Option Addr) (c : Nat) (Bs : Nat) (p : Jb → Bool) (w : World) (hC : Kd.C k35 w A l.length l) (hc : l.length ≤ c) (hl : l.length ≤ 4611686018427387904)
    (hF : ∀ (x : Jb), x ∈ l → ∀ (A3 A4 : Option Addr) (c3 c4 : Nat) (W : World), Below w.heap.size w W → Calls Tryd.prog 40 #[.agg #[.int .i64 x.f0, .int .i64 x.f1, .int .i64 x.f2, .slice A3 x.f3.length c3, .slice A4 x.f4.length c4, .string x.f5, .bool x.f6], .pointer (some ⟨Bs, 0, none⟩)] W fun e W' => e = .returned (.bool (p x)) ∧ Below W.heap.size W W') :
    Calls Tryd.prog 38 #[.slice A l.length c, .func (.func 40) #[] #[.pointer (some ⟨Bs, 0, none⟩)]] w fun e w' => e = .returned (.tuple #[.int .i64 (onlyP p 0 (-1) l).1, .int .i64 (onlyP p 0 (-1) l).2]) ∧ Below w.heap.size w w' := by
  have HC := Aside0.mk hC
  have HF := Aside0.mk hF
  have HL := Aside0.mk hl
  clear hC hF hc hl
  have hu35 := Tryd.underlying35
  obtain ⟨res, hres⟩ : ∃ res, onlyP p 0 (-1) l = res := ⟨_, rfl⟩
  rw [hres]
  have HR := Aside0.mk hres
  clear hres
  go_enter Tryd.func38, Tryd.ntmps38
  go_wp2
  go_loopw [6, 11] (fun v6 v11 wr => ∃ (n : Nat) (f : Int), v6 = .int .i64 f ∧ v11 = .int .i64 n ∧ n ≤ l.length ∧ Aside0 (onlyP p n f (l.drop n) = res) ∧ Aside0 (Below w.heap.size w wr)) (fun _ v _ => (l.length - (intOf v)).toNat)
  case atStart => exact ⟨0, -1, rfl, rfl, Nat.zero_le _, ⟨by rw [List.drop_zero]; exact HR.out⟩, ⟨Below.refl _ _⟩⟩
  case round =>
    obtain ⟨n, f, rfl, rfl, hn, HO, HB⟩ := hrel
    clear HR
    by_cases hlt : n < l.length
    · have ho := HO.out
      rw [List.drop_eq_getElem_cons hlt] at ho
      unfold onlyP at ho
      have c3b0 : decide ((n : Int) < (l.length : Int)) = true := decide_eq_true (by omega)
      have c4b0 : decide (0 ≤ (n : Int)) = true := decide_eq_true (by omega)
      have hw1 : wrap64 ((n : Int) + 1) = ((n + 1 : Nat) : Int) := by have := HL.out; unfold wrap64; omega
      obtain ⟨ad, A3, c3, A4, c4, e1, hx0, hx1, hx2, hx3, hx4, hx5, hx6, hl3, hi3, hl4, hi4⟩ := at_T35 HC.out (n : Int) (by omega) (by omega)
      obtain ⟨x, hx⟩ : ∃ x, rd_T35 l (n : Int) = x := ⟨_, rfl⟩
      have hxl : l[n] = x := by rw [← hx]; simp [rd_T35, hlt]
      rw [Int.toNat_natCast] at hx0 hx1 hx2 hx3 hx4 hx5 hx6
      rw [hx] at hx0 hx1 hx2 hx3 hx4 hx5 hx6
      rw [hxl] at ho
      have hmem : x ∈ l := hxl ▸ List.getElem_mem hlt
      have hF := HF.out x hmem A3 A4 c3 c4
      clear hl3 hi3 hl4 hi4 hx hxl hmem
      cases e1
      replace hx0 := (HB.out.cell (World.block_lt_of_cell? w _ hx0)).trans hx0
      replace hx1 := (HB.out.cell (World.block_lt_of_cell? w _ hx1)).trans hx1
      replace hx2 := (HB.out.cell (World.block_lt_of_cell? w _ hx2)).trans hx2
      replace hx3 := (HB.out.cell (World.block_lt_of_cell? w _ hx3)).trans hx3
      replace hx4 := (HB.out.cell (World.block_lt_of_cell? w _ hx4)).trans hx4
      replace hx5 := (HB.out.cell (World.block_lt_of_cell? w _ hx5)).trans hx5
      replace hx6 := (HB.out.cell (World.block_lt_of_cell? w _ hx6)).trans hx6
      have p1 : (0 ≤ (n : Int)) = True := eq_true (by omega)
      have q1 : ((n : Int) < (l.length : Int)) = True := eq_true (by omega)
      have HLT := Aside0.mk hlt
      have HN := Aside0.mk hn
      have HW1 := Aside0.mk hw1
      clear hlt hn HO hw1
      by_cases hp : p x = true
      · rw [if_pos hp] at ho
        rw [hp] at hF
        have HF1 := Aside0.mk hF
        clear hF hp
        by_cases hf : 0 ≤ f
        · rw [if_pos hf] at ho
          have hf0 : decide (f ≥ 0) = true := decide_eq_true hf
          have hf1 : decide (0 ≤ f) = true := decide_eq_true hf
          subst ho
          clear hf
          go_wp2_with (first | ((with_reducible refine gate_dst (N := 8) rfl ?_); refine box_event ?hg (N := 8) ?hd (cs := #[.int .i64 0, .int .i64 0, .int .i64 0, .slice none 0 0, .slice none 0 0, .string (⟨#[]⟩ : ByteArray), .bool false]) (t := 35) ?hr ?_; (case hd => rfl); (case hg => rfl); (case hr => first | (go_simp; done) | (go_simp; rfl)); intro gb1 hg w8 hbox hb; have n0_ := Aside0.mk (below_step HB.out hb); have n1_ := Aside0.mk hbox; have n2_ := Aside0.mk (show w.heap.size ≤ gb1 by rw [hg]; exact below_size HB.out); clear HB; have HB := n0_; have BK := n1_; have GE := n2_; clear n0_ n1_ n2_ hb hbox hg; obtain ⟨hcz0, hcz1, hcz2, hcz3, hcz4, hcz5, hcz6⟩ := held7 BK.out; obtain ⟨_, _, _, _, _, _, _, hfz0, hfz1, hfz2, hfz3, hfz4, hfz5, hfz6⟩ := cells7 BK.out) | (go_at_call 40; refine (HF1.out _ (by repeat (first | (with_reducible exact HB.out) | refine below_set ?_ GE.out | exact HB.out))).mono ?_; rintro e w9 ⟨rfl, hb⟩; have n0_ := Aside0.mk (below_step (by repeat (first | (with_reducible exact HB.out) | refine below_set ?_ GE.out | exact HB.out)) hb); clear HB hb; have HB := n0_; clear n0_))
          go_ret2
          exact ⟨rfl, HB.out⟩
        · rw [if_neg hf] at ho
          have hf0 : decide (f ≥ 0) = false := decide_eq_false hf
          have hf1 : decide (0 ≤ f) = false := decide_eq_false hf
          have HO := Aside0.mk ho
          clear ho hf
          go_wp2_with (first | ((with_reducible refine gate_dst (N := 8) rfl ?_); refine box_event ?hg (N := 8) ?hd (cs := #[.int .i64 0, .int .i64 0, .int .i64 0, .slice none 0 0, .slice none 0 0, .string (⟨#[]⟩ : ByteArray), .bool false]) (t := 35) ?hr ?_; (case hd => rfl); (case hg => rfl); (case hr => first | (go_simp; done) | (go_simp; rfl)); intro gb1 hg w8 hbox hb; have n0_ := Aside0.mk (below_step HB.out hb); have n1_ := Aside0.mk hbox; have n2_ := Aside0.mk (show w.heap.size ≤ gb1 by rw [hg]; exact below_size HB.out); clear HB; have HB := n0_; have BK := n1_; have GE := n2_; clear n0_ n1_ n2_ hb hbox hg; obtain ⟨hcz0, hcz1, hcz2, hcz3, hcz4, hcz5, hcz6⟩ := held7 BK.out; obtain ⟨_, _, _, _, _, _, _, hfz0, hfz1, hfz2, hfz3, hfz4, hfz5, hfz6⟩ := cells7 BK.out) | (go_at_call 40; refine (HF1.out _ (by repeat (first | (with_reducible exact HB.out) | refine below_set ?_ GE.out | exact HB.out))).mono ?_; rintro e w9 ⟨rfl, hb⟩; have n0_ := Aside0.mk (below_step (by repeat (first | (with_reducible exact HB.out) | refine below_set ?_ GE.out | exact HB.out)) hb); clear HB hb; have HB := n0_; clear n0_))
          go_roundw
          case rel => exact ⟨n + 1, n, rfl, by rw [HW1.out], HLT.out, ⟨by push_cast; exact HO.out⟩, HB⟩
          case measure => rw [HW1.out]; have := HLT.out; simp [intOf]; omega
      · rw [if_neg hp] at ho
        rw [Bool.eq_false_iff.2 hp] at hF
        have HF1 := Aside0.mk hF
        have HO := Aside0.mk ho
        clear hF hp ho
        go_wp2_with (first | ((with_reducible refine gate_dst (N := 8) rfl ?_); refine box_event ?hg (N := 8) ?hd (cs := #[.int .i64 0, .int .i64 0, .int .i64 0, .slice none 0 0, .slice none 0 0, .string (⟨#[]⟩ : ByteArray), .bool false]) (t := 35) ?hr ?_; (case hd => rfl); (case hg => rfl); (case hr => first | (go_simp; done) | (go_simp; rfl)); intro gb1 hg w8 hbox hb; have n0_ := Aside0.mk (below_step HB.out hb); have n1_ := Aside0.mk hbox; have n2_ := Aside0.mk (show w.heap.size ≤ gb1 by rw [hg]; exact below_size HB.out); clear HB; have HB := n0_; have BK := n1_; have GE := n2_; clear n0_ n1_ n2_ hb hbox hg; obtain ⟨hcz0, hcz1, hcz2, hcz3, hcz4, hcz5, hcz6⟩ := held7 BK.out; obtain ⟨_, _, _, _, _, _, _, hfz0, hfz1, hfz2, hfz3, hfz4, hfz5, hfz6⟩ := cells7 BK.out) | (go_at_call 40; refine (HF1.out _ (by repeat (first | (with_reducible exact HB.out) | refine below_set ?_ GE.out | exact HB.out))).mono ?_; rintro e w9 ⟨rfl, hb⟩; have n0_ := Aside0.mk (below_step (by repeat (first | (with_reducible exact HB.out) | refine below_set ?_ GE.out | exact HB.out)) hb); clear HB hb; have HB := n0_; clear n0_))
        go_roundw
        case rel => exact ⟨n + 1, f, rfl, by rw [HW1.out], HLT.out, ⟨by push_cast; exact HO.out⟩, HB⟩
        case measure => rw [HW1.out]; have := HLT.out; simp [intOf]; omega
    · obtain rfl : n = l.length := by omega
      have ho := HO.out
      rw [List.drop_length] at ho
      have c3b0 : decide ((l.length : Int) < (l.length : Int)) = false := decide_eq_false (by omega)
      clear hn hlt HO
      unfold onlyP at ho
      by_cases hf : f < 0
      · rw [if_pos hf] at ho
        have hf0 : decide (f < 0) = true := decide_eq_true hf
        subst ho
        clear hf
        go_wp2
        go_ret2
        exact ⟨rfl, HB.out⟩
      · rw [if_neg hf] at ho
        have hf0 : decide (f < 0) = false := decide_eq_false hf
        subst ho
        clear hf
        go_wp2
        go_ret2
        exact ⟨rfl, HB.out⟩
set_option maxHeartbeats 4000000 in
set_option maxRecDepth 100000 in
theorem only3 (l : List Jb) (A : Option Addr) (c : Nat) (Bs : Nat) (p : Jb → Bool) (w : World) (hC : Kd.C k35 w A l.length l) (hc : l.length ≤ c) (hl : l.length ≤ 4611686018427387904)
    (hF : ∀ (x : Jb), x ∈ l → ∀ (A3 A4 : Option Addr) (c3 c4 : Nat) (W : World), Below w.heap.size w W → Calls Tryd.prog 42 #[.agg #[.int .i64 x.f0, .int .i64 x.f1, .int .i64 x.f2, .slice A3 x.f3.length c3, .slice A4 x.f4.length c4, .string x.f5, .bool x.f6], .pointer (some ⟨Bs, 0, none⟩)] W fun e W' => e = .returned (.bool (p x)) ∧ Below W.heap.size W W') :
    Calls Tryd.prog 38 #[.slice A l.length c, .func (.func 42) #[] #[.pointer (some ⟨Bs, 0, none⟩)]] w fun e w' => e = .returned (.tuple #[.int .i64 (onlyP p 0 (-1) l).1, .int .i64 (onlyP p 0 (-1) l).2]) ∧ Below w.heap.size w w' := by
  have HC := Aside0.mk hC
  have HF := Aside0.mk hF
  have HL := Aside0.mk hl
  clear hC hF hc hl
  have hu35 := Tryd.underlying35
  obtain ⟨res, hres⟩ : ∃ res, onlyP p 0 (-1) l = res := ⟨_, rfl⟩
  rw [hres]
  have HR := Aside0.mk hres
  clear hres
  go_enter Tryd.func38, Tryd.ntmps38
  go_wp2
  go_loopw [6, 11] (fun v6 v11 wr => ∃ (n : Nat) (f : Int), v6 = .int .i64 f ∧ v11 = .int .i64 n ∧ n ≤ l.length ∧ Aside0 (onlyP p n f (l.drop n) = res) ∧ Aside0 (Below w.heap.size w wr)) (fun _ v _ => (l.length - (intOf v)).toNat)
  case atStart => exact ⟨0, -1, rfl, rfl, Nat.zero_le _, ⟨by rw [List.drop_zero]; exact HR.out⟩, ⟨Below.refl _ _⟩⟩
  case round =>
    obtain ⟨n, f, rfl, rfl, hn, HO, HB⟩ := hrel
    clear HR
    by_cases hlt : n < l.length
    · have ho := HO.out
      rw [List.drop_eq_getElem_cons hlt] at ho
      unfold onlyP at ho
      have c3b0 : decide ((n : Int) < (l.length : Int)) = true := decide_eq_true (by omega)
      have c4b0 : decide (0 ≤ (n : Int)) = true := decide_eq_true (by omega)
      have hw1 : wrap64 ((n : Int) + 1) = ((n + 1 : Nat) : Int) := by have := HL.out; unfold wrap64; omega
      obtain ⟨ad, A3, c3, A4, c4, e1, hx0, hx1, hx2, hx3, hx4, hx5, hx6, hl3, hi3, hl4, hi4⟩ := at_T35 HC.out (n : Int) (by omega) (by omega)
      obtain ⟨x, hx⟩ : ∃ x, rd_T35 l (n : Int) = x := ⟨_, rfl⟩
      have hxl : l[n] = x := by rw [← hx]; simp [rd_T35, hlt]
      rw [Int.toNat_natCast] at hx0 hx1 hx2 hx3 hx4 hx5 hx6
      rw [hx] at hx0 hx1 hx2 hx3 hx4 hx5 hx6
      rw [hxl] at ho
      have hmem : x ∈ l := hxl ▸ List.getElem_mem hlt
      have hF := HF.out x hmem A3 A4 c3 c4
      clear hl3 hi3 hl4 hi4 hx hxl hmem
      cases e1
      replace hx0 := (HB.out.cell (World.block_lt_of_cell? w _ hx0)).trans hx0
      replace hx1 := (HB.out.cell (World.block_lt_of_cell? w _ hx1)).trans hx1
      replace hx2 := (HB.out.cell (World.block_lt_of_cell? w _ hx2)).trans hx2
      replace hx3 := (HB.out.cell (World.block_lt_of_cell? w _ hx3)).trans hx3
      replace hx4 := (HB.out.cell (World.block_lt_of_cell? w _ hx4)).trans hx4
      replace hx5 := (HB.out.cell (World.block_lt_of_cell? w _ hx5)).trans hx5
      replace hx6 := (HB.out.cell (World.block_lt_of_cell? w _ hx6)).trans hx6
      have p1 : (0 ≤ (n : Int)) = True := eq_true (by omega)
      have q1 : ((n : Int) < (l.length : Int)) = True := eq_true (by omega)
      have HLT := Aside0.mk hlt
      have HN := Aside0.mk hn
      have HW1 := Aside0.mk hw1
      clear hlt hn HO hw1
      by_cases hp : p x = true
      · rw [if_pos hp] at ho
        rw [hp] at hF
        have HF1 := Aside0.mk hF
        clear hF hp
        by_cases hf : 0 ≤ f
        · rw [if_pos hf] at ho
          have hf0 : decide (f ≥ 0) = true := decide_eq_true hf
          have hf1 : decide (0 ≤ f) = true := decide_eq_true hf
          subst ho
          clear hf
          go_wp2_with (first | ((with_reducible refine gate_dst (N := 8) rfl ?_); refine box_event ?hg (N := 8) ?hd (cs := #[.int .i64 0, .int .i64 0, .int .i64 0, .slice none 0 0, .slice none 0 0, .string (⟨#[]⟩ : ByteArray), .bool false]) (t := 35) ?hr ?_; (case hd => rfl); (case hg => rfl); (case hr => first | (go_simp; done) | (go_simp; rfl)); intro gb1 hg w8 hbox hb; have n0_ := Aside0.mk (below_step HB.out hb); have n1_ := Aside0.mk hbox; have n2_ := Aside0.mk (show w.heap.size ≤ gb1 by rw [hg]; exact below_size HB.out); clear HB; have HB := n0_; have BK := n1_; have GE := n2_; clear n0_ n1_ n2_ hb hbox hg; obtain ⟨hcz0, hcz1, hcz2, hcz3, hcz4, hcz5, hcz6⟩ := held7 BK.out; obtain ⟨_, _, _, _, _, _, _, hfz0, hfz1, hfz2, hfz3, hfz4, hfz5, hfz6⟩ := cells7 BK.out) | (go_at_call 42; refine (HF1.out _ (by repeat (first | (with_reducible exact HB.out) | refine below_set ?_ GE.out | exact HB.out))).mono ?_; rintro e w9 ⟨rfl, hb⟩; have n0_ := Aside0.mk (below_step (by repeat (first | (with_reducible exact HB.out) | refine below_set ?_ GE.out | exact HB.out)) hb); clear HB hb; have HB := n0_; clear n0_))
          go_ret2
          exact ⟨rfl, HB.out⟩
        · rw [if_neg hf] at ho
          have hf0 : decide (f ≥ 0) = false := decide_eq_false hf
          have hf1 : decide (0 ≤ f) = false := decide_eq_false hf
          have HO := Aside0.mk ho
          clear ho hf
          go_wp2_with (first | ((with_reducible refine gate_dst (N := 8) rfl ?_); refine box_event ?hg (N := 8) ?hd (cs := #[.int .i64 0, .int .i64 0, .int .i64 0, .slice none 0 0, .slice none 0 0, .string (⟨#[]⟩ : ByteArray), .bool false]) (t := 35) ?hr ?_; (case hd => rfl); (case hg => rfl); (case hr => first | (go_simp; done) | (go_simp; rfl)); intro gb1 hg w8 hbox hb; have n0_ := Aside0.mk (below_step HB.out hb); have n1_ := Aside0.mk hbox; have n2_ := Aside0.mk (show w.heap.size ≤ gb1 by rw [hg]; exact below_size HB.out); clear HB; have HB := n0_; have BK := n1_; have GE := n2_; clear n0_ n1_ n2_ hb hbox hg; obtain ⟨hcz0, hcz1, hcz2, hcz3, hcz4, hcz5, hcz6⟩ := held7 BK.out; obtain ⟨_, _, _, _, _, _, _, hfz0, hfz1, hfz2, hfz3, hfz4, hfz5, hfz6⟩ := cells7 BK.out) | (go_at_call 42; refine (HF1.out _ (by repeat (first | (with_reducible exact HB.out) | refine below_set ?_ GE.out | exact HB.out))).mono ?_; rintro e w9 ⟨rfl, hb⟩; have n0_ := Aside0.mk (below_step (by repeat (first | (with_reducible exact HB.out) | refine below_set ?_ GE.out | exact HB.out)) hb); clear HB hb; have HB := n0_; clear n0_))
          go_roundw
          case rel => exact ⟨n + 1, n, rfl, by rw [HW1.out], HLT.out, ⟨by push_cast; exact HO.out⟩, HB⟩
          case measure => rw [HW1.out]; have := HLT.out; simp [intOf]; omega
      · rw [if_neg hp] at ho
        rw [Bool.eq_false_iff.2 hp] at hF
        have HF1 := Aside0.mk hF
        have HO := Aside0.mk ho
        clear hF hp ho
        go_wp2_with (first | ((with_reducible refine gate_dst (N := 8) rfl ?_); refine box_event ?hg (N := 8) ?hd (cs := #[.int .i64 0, .int .i64 0, .int .i64 0, .slice none 0 0, .slice none 0 0, .string (⟨#[]⟩ : ByteArray), .bool false]) (t := 35) ?hr ?_; (case hd => rfl); (case hg => rfl); (case hr => first | (go_simp; done) | (go_simp; rfl)); intro gb1 hg w8 hbox hb; have n0_ := Aside0.mk (below_step HB.out hb); have n1_ := Aside0.mk hbox; have n2_ := Aside0.mk (show w.heap.size ≤ gb1 by rw [hg]; exact below_size HB.out); clear HB; have HB := n0_; have BK := n1_; have GE := n2_; clear n0_ n1_ n2_ hb hbox hg; obtain ⟨hcz0, hcz1, hcz2, hcz3, hcz4, hcz5, hcz6⟩ := held7 BK.out; obtain ⟨_, _, _, _, _, _, _, hfz0, hfz1, hfz2, hfz3, hfz4, hfz5, hfz6⟩ := cells7 BK.out) | (go_at_call 42; refine (HF1.out _ (by repeat (first | (with_reducible exact HB.out) | refine below_set ?_ GE.out | exact HB.out))).mono ?_; rintro e w9 ⟨rfl, hb⟩; have n0_ := Aside0.mk (below_step (by repeat (first | (with_reducible exact HB.out) | refine below_set ?_ GE.out | exact HB.out)) hb); clear HB hb; have HB := n0_; clear n0_))
        go_roundw
        case rel => exact ⟨n + 1, f, rfl, by rw [HW1.out], HLT.out, ⟨by push_cast; exact HO.out⟩, HB⟩
        case measure => rw [HW1.out]; have := HLT.out; simp [intOf]; omega
    · obtain rfl : n = l.length := by omega
      have ho := HO.out
      rw [List.drop_length] at ho
      have c3b0 : decide ((l.length : Int) < (l.length : Int)) = false := decide_eq_false (by omega)
      clear hn hlt HO
      unfold onlyP at ho
      by_cases hf : f < 0
      · rw [if_pos hf] at ho
        have hf0 : decide (f < 0) = true := decide_eq_true hf
        subst ho
        clear hf
        go_wp2
        go_ret2
        exact ⟨rfl, HB.out⟩
      · rw [if_neg hf] at ho
        have hf0 : decide (f < 0) = false := decide_eq_false hf
        subst ho
        clear hf
        go_wp2
        go_ret2
        exact ⟨rfl, HB.out⟩
end Go.Proofs.YthafbimhmfjcoaaDoor.PV
/- jobs.number at a row of digits, walked. -/
namespace Go.Proofs.YthafbimhmfjcoaaDoor.PV
set_option linter.unusedVariables false
set_option linter.unusedSimpArgs false
open Go.RowKit Go.Proofs.YthafbimhmfjcoaaDoorW.PrintWords Go.Proofs.YthafbimhmfjcoaaDoorW.PrintLast Go.Proofs.YthafbimhmfjcoaaDoorW.PrintMore Go.Proofs.YthafbimhmfjcoaaDoor.JP
theorem decFrom_val : ∀ (l : List UInt8) (a : Nat), l.all isDigB = true → Lib.decFrom a l = some (valD l a)
  | [], a, _ => rfl
  | b :: r, a, h => by
    rw [List.all_cons, Bool.and_eq_true] at h
    have hb := isDigB_iff.1 h.1
    have hd : Lib.digitVal b = some (b.toNat - 48) := by unfold Lib.digitVal; rw [if_pos hb]
    simp only [Lib.decFrom, hd, valD]
    exact decFrom_val r _ h.2
theorem digsB_parts {l : List UInt8} (h : digsB l = true) : l.all isDigB = true ∧ l ≠ [] ∧ l.head? ≠ some 48 := by
  unfold digsB at h
  simp only [Bool.and_eq_true, Bool.not_eq_true', decide_eq_true_eq] at h
  exact ⟨h.1.1, fun e => by rw [e] at h; simp at h, h.2⟩
theorem atoi_digs {l : List UInt8} (h : digsB l = true) : Lib.atoi l = some (valD l 0 : Int) := by
  obtain ⟨h1, h2, h3⟩ := digsB_parts h
  cases l with
  | nil => exact absurd rfl h2
  | cons b r =>
    have hb := isDigB_iff.1 (List.all_eq_true.1 h1 b (List.mem_cons_self ..))
    have n1 : (b == 45) = false := beq_eq_false_iff_ne.2 (fun e => by rw [e] at hb; revert hb; decide)
    have n2 : (b == 43) = false := beq_eq_false_iff_ne.2 (fun e => by rw [e] at hb; revert hb; decide)
    unfold Lib.atoi Lib.decNat
    simp only [n1, n2, List.isEmpty_cons, Bool.false_eq_true, if_false]
    rw [decFrom_val _ 0 h1]
    rfl
theorem bt_dig {s : ByteArray} (h : s.data.toList.all isDigB = true) (i : Nat) (hi : i < s.size) : 48 ≤ bt s (i : Int) ∧ bt s (i : Int) ≤ 57 := by
  have hl : s.data.toList.length = s.size := rfl
  have hb := isDigB_iff.1 (List.all_eq_true.1 h (s.data.toList[i]'(by omega)) (List.getElem_mem _))
  have e : bt s (i : Int) = ((s.data.toList[i]'(by omega)).toNat : Int) := by
    unfold bt
    rw [dif_pos (by simpa using hi)]
    rfl
  omega
theorem bt_first {s : ByteArray} (h : s.data.toList.head? ≠ some 48) (h0 : 0 < s.size) : bt s 0 ≠ 48 := by
  have hl : s.data.toList.length = s.size := rfl
  have e : bt s ((0 : Nat) : Int) = ((s.data.toList[0]'(by omega)).toNat : Int) := by
    unfold bt
    rw [dif_pos (by simpa using h0)]
    rfl
  intro he
  have : (s.data.toList[0]'(by omega)).toNat = 48 := by
    have : bt s ((0 : Nat) : Int) = 48 := he
    omega
  apply h
  rw [List.head?_eq_getElem?, List.getElem?_eq_getElem (by omega)]
  exact congrArg some (UInt8.toNat_inj.1 this)
set_option maxHeartbeats 4000000 in
set_option maxRecDepth 100000 in
theorem number_calls (s : ByteArray) (hd : digsB s.data.toList = true) (hsz : s.size ≤ 4611686018427387904) (w : World) :
    Calls Tryd.prog 37 #[.string s] w fun e w' => e = .returned (.tuple #[.int .i64 (if s.size ≤ 9 then (valD s.data.toList 0 : Int) else 0), .bool (decide (s.size ≤ 9))]) ∧ Below w.heap.size w w' := by
  obtain ⟨h1, h2, h3⟩ := digsB_parts hd
  have hl : s.data.toList.length = s.size := rfl
  have hpos : 0 < s.size := by rw [← hl]; exact List.length_pos_iff.2 h2
  have c0b0 : (s.toList == ([] : List UInt8)) = false := beq_eq_false_iff_ne.2 (by rw [ByteArray.toList_eq]; exact h2)
  have c1b0 : decide (0 < (s.size : Int)) = true := decide_eq_true (by omega)
  have c1b1 : decide (0 < s.size) = true := decide_eq_true hpos
  have c1b2 := eq_true hpos
  have c1b3 := eq_true (show (0 : Int) < (s.size : Int) by omega)
  have c2b0 : (bt s 0 == 48) = false := beq_eq_false_iff_ne.2 (bt_first h3 hpos)
  have hx0 : ∀ h : 0 < s.size, ((s[0]'h).toNat : Int) = bt s 0 := bt_at s 0
  have HD := Aside0.mk h1
  have HA := Aside0.mk (atoi_digs hd)
  have HSZ := Aside0.mk hsz
  clear h1 h2 h3 hd hpos hl hsz
  by_cases h9 : 9 < s.size
  · have c3b0 : decide (9 < (s.size : Int)) = true := decide_eq_true (by omega)
    have c3b1 : decide (9 < s.size) = true := decide_eq_true h9
    rw [if_neg (show ¬ s.size ≤ 9 by omega), decide_eq_false (show ¬ s.size ≤ 9 by omega)]
    clear h9
    go_enter Tryd.func37, Tryd.ntmps37
    go_wp2
    go_ret2
    exact ⟨rfl, Below.refl _ _⟩
  · have c3b0 : decide (9 < (s.size : Int)) = false := decide_eq_false (by omega)
    have c3b1 : decide (9 < s.size) = false := decide_eq_false h9
    have H9 := Aside0.mk h9
    rw [if_pos (show s.size ≤ 9 by omega), decide_eq_true (show s.size ≤ 9 by omega)]
    clear h9
    go_enter Tryd.func37, Tryd.ntmps37
    go_wp2
    go_loopw [21] (fun v21 wr => ∃ (n : Nat), v21 = .int .i64 n ∧ n ≤ s.size ∧ wr = w) (fun v _ => (s.size - (intOf v)).toNat)
    case atStart => exact ⟨0, rfl, Nat.zero_le _, rfl⟩
    case round =>
      obtain ⟨n, rfl, hn, rfl⟩ := hrel
      by_cases hlt : n < s.size
      · have hb := bt_dig HD.out n hlt
        have e3b0 : decide ((n : Int) < (s.size : Int)) = true := decide_eq_true (by omega)
        have e4b0 : decide (0 ≤ (n : Int)) = true := decide_eq_true (by omega)
        have p5 : (0 ≤ (n : Int)) = True := eq_true (by omega)
        have q5 : ((n : Int) < (s.size : Int)) = True := eq_true (by omega)
        have hx5 : ∀ h : n < s.size, ((s[n]'h).toNat : Int) = bt s (n : Int) := fun h => bt_at s (n : Int) (by simpa using h)
        have q5n := eq_true hlt
        have e6b0 : decide ((bt s (n : Int)) < 48) = false := decide_eq_false (by omega)
        have e7b0 : decide (57 < (bt s (n : Int))) = false := decide_eq_false (by omega)
        have HW1 := Aside0.mk (show wrap64 ((n : Int) + 1) = ((n + 1 : Nat) : Int) by have := HSZ.out; unfold wrap64; omega)
        have HLT := Aside0.mk hlt
        clear hb hlt hn
        go_wp2
        go_roundw
        case rel => exact ⟨n + 1, by rw [HW1.out], HLT.out, trivial⟩
        case measure => rw [HW1.out]; have := HLT.out; simp [intOf]; omega
      · obtain rfl : n = s.size := by omega
        have e3b0 : decide ((s.size : Int) < (s.size : Int)) = false := decide_eq_false (by omega)
        clear hn hlt
        go_wp2_with (go_at_call 56; refine (Tryd.strconv_Atoi s _ (by have := H9.out; omega) HA.out _).mono ?_; rintro e w' ⟨rfl, t, rfl⟩)
        repeat (go_quiet (fail); try go_wp2)
        go_ret2
        exact ⟨rfl, pw_below_drewN (Lib.bytesWorld_below _ _ _) _⟩
end Go.Proofs.YthafbimhmfjcoaaDoor.PV
/- jobs.Find, walked. -/
namespace Go.Proofs.YthafbimhmfjcoaaDoor.PV
set_option linter.unusedVariables false
set_option linter.unusedSimpArgs false
open Go.RowKit Go.Proofs.YthafbimhmfjcoaaDoorW.PrintWords Go.Proofs.YthafbimhmfjcoaaDoorW.PrintLast Go.Proofs.YthafbimhmfjcoaaDoorW.PrintMore Go.Proofs.YthafbimhmfjcoaaDoor.JP
theorem pct_eq {spec : ByteArray} {r : List UInt8} (hb : spec.data.toList = 37 :: r) (q : List UInt8) : (spec.toList == ((37 :: q : List UInt8))) = decide (r = q) := by
  rw [ByteArray.toList_eq, hb, Bool.eq_iff_iff, beq_iff_eq, decide_eq_true_eq, List.cons.injEq]
  exact ⟨fun h => h.2, fun h => ⟨rfl, h⟩⟩
theorem pre_one (b : List UInt8) : Lib.hasPrefix b [37] = decide (b.head? = some 37) := by
  cases b with
  | nil => rfl
  | cons x r =>
    rw [Bool.eq_iff_iff]
    unfold Lib.hasPrefix
    simp [List.isPrefixOf]
    exact eq_comm
theorem pre_two (r : List UInt8) : Lib.hasPrefix (37 :: r) [37, 63] = decide (r.head? = some 63) := by
  cases r with
  | nil => rfl
  | cons x r =>
    rw [Bool.eq_iff_iff]
    unfold Lib.hasPrefix
    simp [List.isPrefixOf]
    exact eq_comm
set_option maxHeartbeats 4000000 in
set_option maxRecDepth 100000 in
theorem find_calls (k : Nat) (l : List Jb) (A : Option Addr) (c : Nat) (spec : ByteArray) (w : World) (hC : Kd.C k35 w A l.length l) (hc : l.length ≤ c) (hG : Gl w) (hl : l.length ≤ 100000)
    (hx : ∀ x ∈ l, x.f5.size < 4294967281) (hsz : spec.size ≤ 1000000000) (hcur : jobs_Current.f k l = some (cursP l)) (hdig : jobs_digits.f k (spec.extract 1 spec.size) = some (digsB (spec.data.toList.drop 1))) :
    Calls Tryd.prog 13 #[.slice A l.length c, .string spec] w fun e w' => e = .returned (.tuple #[.int .i64 (findP l spec).1, .int .i64 (findP l spec).2]) ∧ Below w.heap.size w w' := by
  have hb0 : Below w.heap.size w (w.alloc (.cells #[.string spec] 9)) := (Below.refl _ w).alloc (Nat.le_refl _) _
  have hbs := (Boxed.new w 9 (.string spec)).cell
  have HC := Aside0.mk (Kd.C_alloc hC (.cells #[.string spec] 9))
  have HL := Aside0.mk hc
  have HG := Aside0.mk (hG.below hb0)
  have HB0 := Aside0.mk hb0
  have HX := Aside0.mk hx
  have HSZ := Aside0.mk hsz
  have HLL := Aside0.mk hl
  have HCUR := Aside0.mk hcur
  have HDIG := Aside0.mk hdig
  obtain ⟨res, hres⟩ : ∃ res, findP l spec = res := ⟨_, rfl⟩
  rw [hres]
  have HR := Aside0.mk hres
  clear hC hc hG hl hx hsz hcur hdig hb0 hres
  by_cases hp : spec.data.toList.head? = some 37
  case neg =>
    have hpre : Lib.hasPrefix spec.data.toList [37] = false := by rw [pre_one, decide_eq_false hp]
    obtain rfl : res = (0, 6) := by rw [← HR.out]; unfold findP; rw [if_neg hp]
    clear hp HR
    have HPRE := Aside0.mk hpre
    clear hpre
    go_enter Tryd.func13, Tryd.ntmps13
    go_wp2_with (go_at_call 35; refine (Tryd.strings_HasPrefix spec ⟨#[37]⟩ _).mono ?_; rintro e w' ⟨rfl, rfl⟩; rw [show (⟨#[37]⟩ : ByteArray).data.toList = [37] from rfl, HPRE.out])
    go_ret2
    exact ⟨rfl, HB0.out⟩
  obtain ⟨r, hb⟩ : ∃ r, spec.data.toList = 37 :: r := by
    cases hq : spec.data.toList with
    | nil => rw [hq] at hp; cases hp
    | cons x r => rw [hq] at hp; injection hp with hp; exact ⟨r, by rw [hp]⟩
  have hpre : Lib.hasPrefix spec.data.toList [37] = true := by rw [pre_one, decide_eq_true hp]
  have hres : findR l r = res := by rw [← HR.out]; unfold findP; rw [if_pos hp, hb]; rfl
  have HPRE := Aside0.mk hpre
  have HBB := Aside0.mk hb
  clear HR hp hpre
  have e1 := pct_eq hb [63]
  have e2 := pct_eq hb []
  have e3 := pct_eq hb [37]
  have e4 := pct_eq hb [43]
  have e5 := pct_eq hb [45]
  have hcut : (spec.extract 1 spec.size).data.toList = r := by rw [cut_from, hb]; rfl
  have hlen : spec.size = r.length + 1 := by rw [show spec.size = spec.data.toList.length from rfl, hb]; rfl
  have HCUT := Aside0.mk hcut
  have HLEN := Aside0.mk hlen
  clear hb hcut hlen
  unfold findR at hres
  by_cases h1 : r = [63]
  · rw [if_pos h1] at hres
    rw [decide_eq_true h1] at e1
    subst hres
    clear h1 e2 e3 e4 e5
    go_enter Tryd.func13, Tryd.ntmps13
    go_wp2_with (go_at_call 35; refine (Tryd.strings_HasPrefix spec ⟨#[37]⟩ _).mono ?_; rintro e w' ⟨rfl, rfl⟩; rw [show (⟨#[37]⟩ : ByteArray).data.toList = [37] from rfl, HPRE.out])
    go_ret2
    exact ⟨rfl, HB0.out⟩
  rw [if_neg h1] at hres
  rw [decide_eq_false h1] at e1
  have H1 := Aside0.mk h1
  clear h1
  obtain ⟨cc, pp, hcc⟩ : ∃ cc pp, cursP l = (cc, pp) := ⟨_, _, rfl⟩
  rw [hcc] at HCUR hres
  clear hcc
  by_cases h2 : r = []
  · rw [if_pos (.inl h2)] at hres
    rw [decide_eq_true h2] at e2
    unfold atP at hres
    by_cases hn : cc < 0
    · rw [if_pos hn] at hres
      have hnb : decide (cc < 0) = true := decide_eq_true hn
      subst hres
      clear hn h2 e3 e4 e5
      go_enter Tryd.func13, Tryd.ntmps13
      go_wp2_with (first | (go_at_call 35; refine (Tryd.strings_HasPrefix spec ⟨#[37]⟩ _).mono ?_; rintro e w' ⟨rfl, rfl⟩; rw [show (⟨#[37]⟩ : ByteArray).data.toList = [37] from rfl, HPRE.out]) | (go_at_call 23; refine (jobs_Current.calls k A c l cc pp _ HC.out HL.out HCUR.out HG.out).mono ?_; rintro e w2 ⟨rfl, hb⟩; have hbs2 := (hb.cell (World.block_lt_of_cell? _ _ hbs)).trans hbs; have HB := Aside0.mk hb; clear hb))
      go_ret2
      exact ⟨rfl, below_step HB0.out HB.out⟩
    · rw [if_neg hn] at hres
      have hnb : decide (cc < 0) = false := decide_eq_false hn
      subst hres
      clear hn h2 e3 e4 e5
      go_enter Tryd.func13, Tryd.ntmps13
      go_wp2_with (first | (go_at_call 35; refine (Tryd.strings_HasPrefix spec ⟨#[37]⟩ _).mono ?_; rintro e w' ⟨rfl, rfl⟩; rw [show (⟨#[37]⟩ : ByteArray).data.toList = [37] from rfl, HPRE.out]) | (go_at_call 23; refine (jobs_Current.calls k A c l cc pp _ HC.out HL.out HCUR.out HG.out).mono ?_; rintro e w2 ⟨rfl, hb⟩; have hbs2 := (hb.cell (World.block_lt_of_cell? _ _ hbs)).trans hbs; have HB := Aside0.mk hb; clear hb))
      go_ret2
      exact ⟨rfl, below_step HB0.out HB.out⟩
  rw [decide_eq_false h2] at e2
  by_cases h3 : r = [37]
  · rw [if_pos (.inr (.inl h3))] at hres
    rw [decide_eq_true h3] at e3
    unfold atP at hres
    by_cases hn : cc < 0
    · rw [if_pos hn] at hres
      have hnb : decide (cc < 0) = true := decide_eq_true hn
      subst hres
      clear hn h2 h3 e4 e5
      go_enter Tryd.func13, Tryd.ntmps13
      go_wp2_with (first | (go_at_call 35; refine (Tryd.strings_HasPrefix spec ⟨#[37]⟩ _).mono ?_; rintro e w' ⟨rfl, rfl⟩; rw [show (⟨#[37]⟩ : ByteArray).data.toList = [37] from rfl, HPRE.out]) | (go_at_call 23; refine (jobs_Current.calls k A c l cc pp _ HC.out HL.out HCUR.out HG.out).mono ?_; rintro e w2 ⟨rfl, hb⟩; have hbs2 := (hb.cell (World.block_lt_of_cell? _ _ hbs)).trans hbs; have HB := Aside0.mk hb; clear hb))
      go_ret2
      exact ⟨rfl, below_step HB0.out HB.out⟩
    · rw [if_neg hn] at hres
      have hnb : decide (cc < 0) = false := decide_eq_false hn
      subst hres
      clear hn h2 h3 e4 e5
      go_enter Tryd.func13, Tryd.ntmps13
      go_wp2_with (first | (go_at_call 35; refine (Tryd.strings_HasPrefix spec ⟨#[37]⟩ _).mono ?_; rintro e w' ⟨rfl, rfl⟩; rw [show (⟨#[37]⟩ : ByteArray).data.toList = [37] from rfl, HPRE.out]) | (go_at_call 23; refine (jobs_Current.calls k A c l cc pp _ HC.out HL.out HCUR.out HG.out).mono ?_; rintro e w2 ⟨rfl, hb⟩; have hbs2 := (hb.cell (World.block_lt_of_cell? _ _ hbs)).trans hbs; have HB := Aside0.mk hb; clear hb))
      go_ret2
      exact ⟨rfl, below_step HB0.out HB.out⟩
  rw [decide_eq_false h3] at e3
  by_cases h4 : r = [43]
  · rw [if_pos (.inr (.inr h4))] at hres
    rw [decide_eq_true h4] at e4
    unfold atP at hres
    by_cases hn : cc < 0
    · rw [if_pos hn] at hres
      have hnb : decide (cc < 0) = true := decide_eq_true hn
      subst hres
      clear hn h2 h3 h4 e5
      go_enter Tryd.func13, Tryd.ntmps13
      go_wp2_with (first | (go_at_call 35; refine (Tryd.strings_HasPrefix spec ⟨#[37]⟩ _).mono ?_; rintro e w' ⟨rfl, rfl⟩; rw [show (⟨#[37]⟩ : ByteArray).data.toList = [37] from rfl, HPRE.out]) | (go_at_call 23; refine (jobs_Current.calls k A c l cc pp _ HC.out HL.out HCUR.out HG.out).mono ?_; rintro e w2 ⟨rfl, hb⟩; have hbs2 := (hb.cell (World.block_lt_of_cell? _ _ hbs)).trans hbs; have HB := Aside0.mk hb; clear hb))
      go_ret2
      exact ⟨rfl, below_step HB0.out HB.out⟩
    · rw [if_neg hn] at hres
      have hnb : decide (cc < 0) = false := decide_eq_false hn
      subst hres
      clear hn h2 h3 h4 e5
      go_enter Tryd.func13, Tryd.ntmps13
      go_wp2_with (first | (go_at_call 35; refine (Tryd.strings_HasPrefix spec ⟨#[37]⟩ _).mono ?_; rintro e w' ⟨rfl, rfl⟩; rw [show (⟨#[37]⟩ : ByteArray).data.toList = [37] from rfl, HPRE.out]) | (go_at_call 23; refine (jobs_Current.calls k A c l cc pp _ HC.out HL.out HCUR.out HG.out).mono ?_; rintro e w2 ⟨rfl, hb⟩; have hbs2 := (hb.cell (World.block_lt_of_cell? _ _ hbs)).trans hbs; have HB := Aside0.mk hb; clear hb))
      go_ret2
      exact ⟨rfl, below_step HB0.out HB.out⟩
  rw [decide_eq_false h4] at e4
  rw [if_neg (fun h => h.elim h2 (fun h => h.elim h3 h4))] at hres
  by_cases h5 : r = [45]
  · rw [if_pos h5] at hres
    rw [decide_eq_true h5] at e5
    unfold atP at hres
    by_cases hn : pp < 0
    · rw [if_pos hn] at hres
      have hnb : decide (pp < 0) = true := decide_eq_true hn
      subst hres
      clear hn h2 h3 h4 h5
      go_enter Tryd.func13, Tryd.ntmps13
      go_wp2_with (first | (go_at_call 35; refine (Tryd.strings_HasPrefix spec ⟨#[37]⟩ _).mono ?_; rintro e w' ⟨rfl, rfl⟩; rw [show (⟨#[37]⟩ : ByteArray).data.toList = [37] from rfl, HPRE.out]) | (go_at_call 23; refine (jobs_Current.calls k A c l cc pp _ HC.out HL.out HCUR.out HG.out).mono ?_; rintro e w2 ⟨rfl, hb⟩; have hbs2 := (hb.cell (World.block_lt_of_cell? _ _ hbs)).trans hbs; have HB := Aside0.mk hb; clear hb))
      go_ret2
      exact ⟨rfl, below_step HB0.out HB.out⟩
    · rw [if_neg hn] at hres
      have hnb : decide (pp < 0) = false := decide_eq_false hn
      subst hres
      clear hn h2 h3 h4 h5
      go_enter Tryd.func13, Tryd.ntmps13
      go_wp2_with (first | (go_at_call 35; refine (Tryd.strings_HasPrefix spec ⟨#[37]⟩ _).mono ?_; rintro e w' ⟨rfl, rfl⟩; rw [show (⟨#[37]⟩ : ByteArray).data.toList = [37] from rfl, HPRE.out]) | (go_at_call 23; refine (jobs_Current.calls k A c l cc pp _ HC.out HL.out HCUR.out HG.out).mono ?_; rintro e w2 ⟨rfl, hb⟩; have hbs2 := (hb.cell (World.block_lt_of_cell? _ _ hbs)).trans hbs; have HB := Aside0.mk hb; clear hb))
      go_ret2
      exact ⟨rfl, below_step HB0.out HB.out⟩
  rw [decide_eq_false h5] at e5
  rw [if_neg h5] at hres
  clear h2 h3 h4 h5
  have hc0 := eq_true (show 1 ≤ spec.size by have := HLEN.out; omega)
  have hc1 := eq_true (show (1 : Int) ≤ (spec.size : Int) by have := HLEN.out; omega)
  have hrd : spec.data.toList.drop 1 = r := by rw [HBB.out]; rfl
  rw [hrd] at HDIG
  clear hrd
  by_cases hd : digsB r = true
  · rw [if_pos hd] at hres
    rw [hd] at HDIG
    obtain ⟨nn, hnn⟩ : ∃ nn : Int, (if r.length ≤ 9 then (valD r 0 : Int) else 0) = nn := ⟨_, rfl⟩
    obtain ⟨ok, hok⟩ : ∃ ok : Bool, decide (r.length ≤ 9) = ok := ⟨_, rfl⟩
    have hes : (spec.extract 1 spec.size).size = r.length := by rw [← HCUT.out]; rfl
    have hnum : ∀ W : World, Calls Tryd.prog 37 #[.string (spec.extract 1 spec.size)] W fun e w' => e = .returned (.tuple #[.int .i64 nn, .bool ok]) ∧ Below W.heap.size W w' := by
      intro W
      have h := number_calls (spec.extract 1 spec.size) (by rw [HCUT.out]; exact hd) (by have := HLEN.out; have := HSZ.out; omega) W
      rw [hes, HCUT.out, hnn, hok] at h
      exact h
    have hpj : (fun j : Jb => ok && decide (j.f0 = nn)) = numJ r := by
      funext j
      unfold numJ
      rw [← hok, ← hnn]
      by_cases h9 : r.length ≤ 9
      · rw [if_pos h9]
      · rw [decide_eq_false h9]; rfl
    have HNUM := Aside0.mk hnum
    have HPJ := Aside0.mk hpj
    have HRES := Aside0.mk hres
    clear hd hnn hok hes hnum hpj hres
    go_enter Tryd.func13, Tryd.ntmps13
    go_wp2_with (first | (go_at_call 35; refine (Tryd.strings_HasPrefix spec ⟨#[37]⟩ _).mono ?_; rintro e w' ⟨rfl, rfl⟩; rw [show (⟨#[37]⟩ : ByteArray).data.toList = [37] from rfl, HPRE.out]) | (go_at_call 23; refine (jobs_Current.calls k A c l cc pp _ HC.out HL.out HCUR.out HG.out).mono ?_; rintro e w2 ⟨rfl, hb⟩; have hbs2 := (hb.cell (World.block_lt_of_cell? _ _ hbs)).trans hbs; have HB := Aside0.mk hb; clear hb) | (go_at_call 36; refine (jobs_digits.calls k (spec.extract 1 spec.size) true _ HDIG.out (HG.out.below HB.out)).mono ?_; rintro e w3 ⟨rfl, ⟨nd, rfl⟩⟩) | (go_at_call 37; refine (HNUM.out _).mono ?_; rintro e w4 ⟨rfl, hb⟩; have hbs3 := (hb.cell (World.block_lt_of_cell? _ _ hbs2)).trans hbs2; have n0_ := Aside0.mk (below_step (pw_below_drewN HB.out _) hb); clear HB hb; have HB := n0_; clear n0_) | ((with_reducible refine gate_dst (N := 8) rfl ?_); refine box_event ?hg (N := 8) ?hd (cs := #[.int .i64 0]) (t := 3) ?hr ?_; (case hd => rfl); (case hg => rfl); (case hr => first | (go_simp; done) | (go_simp; rfl)); intro gb8 hg w8 hbox hb; have GE8 := Aside0.mk (show (w.alloc (.cells #[.string spec] 9)).heap.size ≤ gb8 by rw [hg]; exact below_size HB.out); clear hg; have hz8 : w8.cell? ⟨gb8, 0, none⟩ = some (.int .i64 0) := (blk_cell hbox 0).trans rfl; have hf8 := blk_frozen hbox 0; have BK8 := Aside0.mk hbox; have n0_ := Aside0.mk (below_step HB.out hb); clear HB hb hbox; have HB := n0_; clear n0_) | ((with_reducible refine gate_dst (N := 9) rfl ?_); refine box_event ?hg2 (N := 9) ?hd2 (cs := #[.bool false]) (t := 4) ?hr2 ?_; (case hd2 => rfl); (case hg2 => rfl); (case hr2 => first | (go_simp; done) | (go_simp; rfl)); intro gb9 hg w9 hbox hb; have GE9 := Aside0.mk (show (w.alloc (.cells #[.string spec] 9)).heap.size ≤ gb9 by rw [hg]; exact below_size HB.out); clear hg; have n1_ := Aside0.mk (blk_below BK8.out hb); clear BK8 hz8 hf8; have BK8 := n1_; clear n1_; have hz8 : w9.cell? ⟨gb8, 0, none⟩ = some (.int .i64 0) := (blk_cell BK8.out 0).trans rfl; have hf8 := blk_frozen BK8.out 0; have hz9 : w9.cell? ⟨gb9, 0, none⟩ = some (.bool false) := (blk_cell hbox 0).trans rfl; have hf9 := blk_frozen hbox 0; have BK9 := Aside0.mk hbox; have hne := blk_ne hbox BK8.out (by decide); have n0_ := Aside0.mk (below_step HB.out hb); clear HB hb hbox; have HB := n0_; clear n0_))
    have hBW := below_set (j := 0) (v := .bool ok) (below_set (j := 0) (v := .int .i64 nn) HB.out GE8.out) GE9.out
    have k8 := blk_far (p := ⟨gb9, 0, none⟩) (blk_put BK8.out 0 (.int .i64 nn) (cs' := #[.int .i64 nn]) rfl) (fun he => hne he.symm) (.bool ok)
    have k9 := blk_put (blk_far (p := ⟨gb8, 0, none⟩) BK9.out (fun he => hne he) (.int .i64 nn)) 0 (.bool ok) (cs' := #[.bool ok]) rfl
    have q8 := (blk_cell k8 0).trans (show (#[Value.int .i64 nn] : Array Value)[0]? = some (.int .i64 nn) from rfl)
    have q9 := (blk_cell k9 0).trans (show (#[Value.bool ok] : Array Value)[0]? = some (.bool ok) from rfl)
    refine (only1 l A c gb9 gb8 (numJ r) _ (Kd.C_below HC.out hBW) HL.out (by have := HLL.out; omega) (fun x hx A3 A4 c3 c4 W hW => (by rw [← HPJ.out]; exact clo1 x A3 A4 c3 c4 gb9 gb8 ok nn W ((hW.cell (World.block_lt_of_cell? _ _ q9)).trans q9) ((hW.cell (World.block_lt_of_cell? _ _ q8)).trans q8)))).mono ?_
    rintro e w5 ⟨rfl, hb⟩
    rw [HRES.out]
    have HBF := Aside0.mk (below_step hBW hb)
    go_wp2
    go_ret2
    exact ⟨rfl, below_step HB0.out HBF.out⟩
  rw [if_neg hd] at hres
  rw [Bool.eq_false_iff.2 hd] at HDIG
  clear hd
  by_cases hq : r.head? = some 63
  · rw [if_pos hq] at hres
    have hpre2 : Lib.hasPrefix spec.data.toList [37, 63] = true := by rw [HBB.out, pre_two, decide_eq_true hq]
    have hdr : spec.data.toList.drop 2 = r.tail := by rw [HBB.out]; cases r <;> rfl
    have hs2 : 2 ≤ spec.size := by have := HLEN.out; cases r with | nil => cases hq | cons y t => simp at this; omega
    have HPRE2 := Aside0.mk hpre2
    have HS2 := Aside0.mk hs2
    rw [← hdr] at hres
    have HRES := Aside0.mk hres
    clear hq hpre2 hdr hs2 hres
    go_enter Tryd.func13, Tryd.ntmps13
    go_wp2_with (first | (go_at_call 35; refine (Tryd.strings_HasPrefix spec ⟨#[37]⟩ _).mono ?_; rintro e w' ⟨rfl, rfl⟩; rw [show (⟨#[37]⟩ : ByteArray).data.toList = [37] from rfl, HPRE.out]) | (go_at_call 23; refine (jobs_Current.calls k A c l cc pp _ HC.out HL.out HCUR.out HG.out).mono ?_; rintro e w2 ⟨rfl, hb⟩; have hbs2 := (hb.cell (World.block_lt_of_cell? _ _ hbs)).trans hbs; have HB := Aside0.mk hb; clear hb) | (go_at_call 36; refine (jobs_digits.calls k (spec.extract 1 spec.size) false _ HDIG.out (HG.out.below HB.out)).mono ?_; rintro e w3 ⟨rfl, ⟨nd, rfl⟩⟩) | (go_at_call 35; refine (Tryd.strings_HasPrefix spec ⟨#[37, 63]⟩ _).mono ?_; rintro e w' ⟨rfl, rfl⟩; rw [show (⟨#[37, 63]⟩ : ByteArray).data.toList = [37, 63] from rfl, HPRE2.out]) | (go_at_call 38; refine (only2 l A c w.heap.size (fun j => Lib.contains j.f5.data.toList (spec.data.toList.drop 2)) _ (Kd.C_below HC.out (pw_below_drewN HB.out _)) HL.out (by have := HLL.out; omega) (fun x hx A3 A4 c3 c4 W hW => ?clo2)).mono ?_; (case clo2 => exact clo2 x A3 A4 c3 c4 w.heap.size spec HS2.out (HX.out x hx) (by have := HSZ.out; omega) W (HG.out.below (below_step (pw_below_drewN HB.out nd) hW)) ((hW.cell (World.block_lt_of_cell? (w2.drewN nd) _ hbs2)).trans hbs2)); rintro e w5 ⟨rfl, hb⟩; rw [HRES.out]; have HBF := Aside0.mk (below_step (pw_below_drewN HB.out nd) hb)))
    go_ret2
    exact ⟨rfl, below_step HB0.out HBF.out⟩
  · rw [if_neg hq] at hres
    have hpre2 : Lib.hasPrefix spec.data.toList [37, 63] = false := by rw [HBB.out, pre_two, decide_eq_false hq]
    have hdr : spec.data.toList.drop 1 = r := by rw [HBB.out]; rfl
    have HPRE2 := Aside0.mk hpre2
    have HS2 := Aside0.mk (show 1 ≤ spec.size by have := HLEN.out; omega)
    rw [← hdr] at hres
    have HRES := Aside0.mk hres
    clear hq hpre2 hdr hres
    go_enter Tryd.func13, Tryd.ntmps13
    go_wp2_with (first | (go_at_call 35; refine (Tryd.strings_HasPrefix spec ⟨#[37]⟩ _).mono ?_; rintro e w' ⟨rfl, rfl⟩; rw [show (⟨#[37]⟩ : ByteArray).data.toList = [37] from rfl, HPRE.out]) | (go_at_call 23; refine (jobs_Current.calls k A c l cc pp _ HC.out HL.out HCUR.out HG.out).mono ?_; rintro e w2 ⟨rfl, hb⟩; have hbs2 := (hb.cell (World.block_lt_of_cell? _ _ hbs)).trans hbs; have HB := Aside0.mk hb; clear hb) | (go_at_call 36; refine (jobs_digits.calls k (spec.extract 1 spec.size) false _ HDIG.out (HG.out.below HB.out)).mono ?_; rintro e w3 ⟨rfl, ⟨nd, rfl⟩⟩) | (go_at_call 35; refine (Tryd.strings_HasPrefix spec ⟨#[37, 63]⟩ _).mono ?_; rintro e w' ⟨rfl, rfl⟩; rw [show (⟨#[37, 63]⟩ : ByteArray).data.toList = [37, 63] from rfl, HPRE2.out]) | (go_at_call 38; refine (only3 l A c w.heap.size (fun j => Lib.hasPrefix j.f5.data.toList (spec.data.toList.drop 1)) _ (Kd.C_below HC.out (pw_below_drewN HB.out _)) HL.out (by have := HLL.out; omega) (fun x hx A3 A4 c3 c4 W hW => ?clo3)).mono ?_; (case clo3 => exact clo3 x A3 A4 c3 c4 w.heap.size spec HS2.out (HX.out x hx) (by have := HSZ.out; omega) W (HG.out.below (below_step (pw_below_drewN HB.out nd) hW)) ((hW.cell (World.block_lt_of_cell? (w2.drewN nd) _ hbs2)).trans hbs2)); rintro e w5 ⟨rfl, hb⟩; rw [HRES.out]; have HBF := Aside0.mk (below_step (pw_below_drewN HB.out nd) hb)))
    go_ret2
    exact ⟨rfl, below_step HB0.out HBF.out⟩
end Go.Proofs.YthafbimhmfjcoaaDoor.PV

/- history.last over the closure of Begins: the index of the last string that the closure's word holds of, or -1. history.Begins, walked: the number of the last line that the closure's word holds of. -/
import Derived.RangeFuncCalls
import Derived.Test.YtihibmcfklddeaaDoorHBack
import Derived.Test.YtihibmcfklddeaaDoorHSpec
import Derived.Test.YtihibmcfklddeaaDoorWWords
import Derived.Test.YtihibmcfklddeaaDoorGl
import Derived.Test.YtihibmcfklddeaaDoorShelf
import Derived.Test.YtihibmcfklddeaaDoorWMore
namespace Go.Proofs.YtihibmcfklddeaaDoor.HF
set_option linter.unusedVariables false
set_option linter.unusedSimpArgs false
open Go.RowKit Go.Shelf Go.Proofs.YtihibmcfklddeaaDoorW.PrintWords

attribute [local go_sem] Oper.semAt_some

theorem cells_of_CBegins {l : List ByteArray} {A : Option Addr} {w : World} (h : Kd.C Kd.string w A l.length l) : Cells l A w w.heap.size := by
  by_cases h0 : l = []
  · exact .inl h0
  · have hp : 0 < l.length := List.length_pos_iff.2 h0
    obtain ⟨ad, rfl, hc⟩ := h.2.2 hp
    have hcs : ∀ j (hj : j < l.length), w.cell? (ad.add j) = some (.string l[j]) := by
      intro j hj
      obtain ⟨c, hs, hr, hcell⟩ := hc j l[j] (List.getElem?_eq_getElem hj)
      have hr' : c = [Value.string l[j]] := hr
      subst hr'
      have := hcell 0 (Value.string l[j]) rfl
      rw [show Kd.string.sz = 1 from rfl] at this
      simpa using this
    refine .inr ⟨ad, rfl, ?_, hcs⟩
    have := World.block_lt_of_cell? w _ (hcs 0 hp)
    rwa [addr_add_block] at this

set_option maxRecDepth 100000 in
set_option maxHeartbeats 4000000 in
theorem lastBegins (l : List ByteArray) (A : Option Addr) (c : Nat) (Bp : Nat) (p : ByteArray → Bool) (w : World) (hC : Kd.C Kd.string w A l.length l)
    (hIs : ∀ (x : Fin l.length) (W : World), Below w.heap.size w W → Calls Tryd.prog 32 #[.string l[x.1], .pointer (some ⟨Bp, 0, none⟩)] W fun e W' => e = .returned (.bool (p l[x.1])) ∧ W' = W) :
    Calls Tryd.prog 46 #[.slice A l.length c, .func (.func 32) #[] #[.pointer (some ⟨Bp, 0, none⟩)]] w fun e W' => e = .returned (.int .i64 (lastIx p l)) ∧ Below w.heap.size w W' := by
  have hl : l.length ≤ 9223372036854775807 := hC.2.1
  have HC := Aside0.mk (cells_of_CBegins hC)
  have HIS := Aside0.mk hIs
  clear hC hIs
  refine (callsIn_wide (n := 3)).1 ?_
  refine callsIn_of_wp_marks Tryd.func46 rfl trivial ?_ rfl
  simp only [Tryd.ntmps46, List.size_toArray, List.length_cons, List.length_nil, Nat.reduceAdd, Nat.reduceSub, Array.replicate_succ, Array.replicate_zero, List.push_toArray, List.append_toArray, List.nil_append, List.cons_append]
  gi_wp2_with (refine ⟨trivial, ?_⟩; gi_at_call 56; refine (backward_in _ _ _ _).mono ?_; rintro e w' ⟨rfl, rfl⟩)
  have bI := Boxed.new w 46 (.func (.func 32) #[] #[.pointer (some ⟨Bp, 0, none⟩)])
  have bR := Boxed.new (w.alloc (.cells #[.func (.func 32) #[] #[.pointer (some ⟨Bp, 0, none⟩)]] 46)) 3 (.int .i64 0)
  have bN := Boxed.new ((w.alloc (.cells #[.func (.func 32) #[] #[.pointer (some ⟨Bp, 0, none⟩)]] 46)).alloc (.cells #[.int .i64 0] 3)) 22 (.slice A l.length c)
  simp only [World.size_alloc] at bR bN
  have hB0 : Below w.heap.size w (((w.alloc (.cells #[.func (.func 32) #[] #[.pointer (some ⟨Bp, 0, none⟩)]] 46)).alloc (.cells #[.int .i64 0] 3)).alloc (.cells #[.slice A l.length c] 22)) := (((Below.refl _ w).alloc (Nat.le_refl _) _).alloc (by simp) _).alloc (by simp; omega) _
  have hcl : Cells l A (((w.alloc (.cells #[.func (.func 32) #[] #[.pointer (some ⟨Bp, 0, none⟩)]] 46)).alloc (.cells #[.int .i64 0] 3)).alloc (.cells #[.slice A l.length c] 22)) (((w.alloc (.cells #[.func (.func 32) #[] #[.pointer (some ⟨Bp, 0, none⟩)]] 46)).alloc (.cells #[.int .i64 0] 3)).alloc (.cells #[.slice A l.length c] 22)).heap.size := by
    rcases HC.out with h | ⟨ad, e, hb, h⟩
    · exact .inl h
    · exact .inr ⟨ad, e, by simp; omega, fun j hj => (hB0.cell (p := ad.add j) (by rw [addr_add_block]; exact hb)).trans (h j hj)⟩
  refine wpIn_rangeFunc_ownG rfl (by omega) (gf := 67) (lb := #[.pointer (some ⟨w.heap.size + 1 + 1, 0, none⟩)]) rfl trivial (enters_of Tryd.func67 (by kernel_rfl) rfl)
    (back_stops l A c (w.heap.size + 1 + 1) hl _ (by simp) bN.cell hcl) belowK_t (belowK_b (Nat.le_refl _)) (Below.refl _ _) (fun _ => rfl)
    (fun pre W => ((∀ x ∈ pre, p l[x.1] = false) ∧ W.cell? ⟨w.heap.size + 1, 0, none⟩ = some (.int .i64 0) ∧ W.frozen? ⟨w.heap.size + 1, 0, none⟩ = false ∧ W.cell? ⟨w.heap.size, 0, none⟩ = some (.func (.func 32) #[] #[.pointer (some ⟨Bp, 0, none⟩)])) ∧ Below w.heap.size w W)
    (fun c pre W => (c = .ret ∧ ∃ ini last, pre = ini ++ [last] ∧ (∀ x ∈ ini, p l[x.1] = false) ∧ p l[last.1] = true ∧ W.cell? ⟨w.heap.size + 1, 0, none⟩ = some (.int .i64 (last.1 : Int))) ∧ Below w.heap.size w W)
    (OwnFrom.and (Own.from (fun s A B row hs hg hr => ⟨hs.1, cell_kept hs.2.1 hg hr, (frozen_kept hs.2.1 hg hr).trans hs.2.2.1, cell_kept hs.2.2.2 hg hr⟩) _) (ownFrom_below (Nat.le_refl _) (by simp; omega)))
    (fun c => OwnFrom.and (Own.from (fun s A B row hs hg hr => by obtain ⟨hc, ini, last, e1, e2, e3, e4⟩ := hs; exact ⟨hc, ini, last, e1, e2, e3, cell_kept e4 hg hr⟩) _) (ownFrom_below (Nat.le_refl _) (by simp; omega)))
    ⟨⟨by simp, (bR.alloc _).cell, (bR.alloc _).frozen, ((bI.alloc _).alloc _).cell⟩, hB0⟩
    (fun x => { tmps := #[.slice A l.length c, .func (.func 32) #[] #[.pointer (some ⟨Bp, 0, none⟩)], undef, .pointer (some ⟨w.heap.size, 0, none⟩), .pointer (some ⟨w.heap.size + 1, 0, none⟩), .int .i64 (x.1 : Int), .string l[x.1], .slice A l.length c, .func (.func 67) #[] #[.pointer (some ⟨w.heap.size + 1 + 1, 0, none⟩)], .int .i64 (x.1 : Int), .string l[x.1], undef, undef, undef, undef], defers := [] }) ?assign ?body ?done ?stop
  case assign =>
    intro lp x W K hK
    simp only [enc]
    gi_wp2
    exact hK
  case body =>
    rintro lp pre x W ⟨⟨hp, hcr, hfr, hbx⟩, hB⟩ _
    have hI := HIS.out x W hB
    by_cases hpx : p l[x.1] = true
    · rw [hpx] at hI
      gi_wp2_with (refine ⟨trivial, ?_⟩; gi_at_call 32; refine (CallsIn.inRound lp (callsIn_wide.2 hI)).mono ?_; rintro e w' ⟨rfl, rfl⟩)
      exact ⟨(KeepsOthers.setCell _ _ _).from _, ⟨rfl, pre, x, rfl, hp, hpx, World.cell?_setCell_same' _ _ _ (by rw [hcr]; rfl)⟩, hB.setCell (p := ⟨w.heap.size + 1, 0, none⟩) (by simp) _⟩
    · rw [Bool.not_eq_true] at hpx
      rw [hpx] at hI
      gi_wp2_with (refine ⟨trivial, ?_⟩; gi_at_call 32; refine (CallsIn.inRound lp (callsIn_wide.2 hI)).mono ?_; rintro e w' ⟨rfl, rfl⟩)
      exact ⟨KeepsFrom.refl _ _, Below.refl _ _, ⟨fun y hy => (List.mem_append.1 hy).elim (hp y) (fun e => by simp at e; subst e; exact hpx), hcr, hfr, hbx⟩, hB⟩
  case done =>
    rintro D ys W hD hS ⟨⟨hne, hcr, hfr, _⟩, hB⟩ hK
    gi_wp2
    have hK' := (KeepsOthers.setCell W ⟨w.heap.size + 1, 0, none⟩ (.int .i64 (-1))).same D _ hK rfl
    refine ⟨by simp, .inl ⟨_, _, rfl, run_takeDeferred hK', ?_⟩⟩
    have hc5 := cell_kept (World.cell?_setCell_same' W ⟨w.heap.size + 1, 0, none⟩ (.int .i64 (-1)) (by rw [hcr]; rfl)) (grownBy_putObj' _ D (.deferred none)) (fun r e => by cases e; exact ⟨_, hK', rfl⟩)
    refine ⟨.int .i64 (-1), ?_, by rw [lastIx_none (hS.none hne)], (hB.setCell (p := ⟨w.heap.size + 1, 0, none⟩) (by simp) _).trans (belowK_b (w := w) (Nat.le_refl _) _ D _ _ (by simp at hD; omega) hK' rfl rfl)⟩
    simp [results, Tryd.f46, go_sem, hc5]
  case stop =>
    rintro D c pre W hD ⟨k, hk, hS⟩ ⟨⟨rfl, ini, last, e1, e2, e3, hcr⟩, hB⟩ hK
    subst e1
    gi_wp2
    refine ⟨by simp, .inl ⟨_, _, rfl, run_takeDeferred hK, ?_⟩⟩
    have hc5 := cell_kept hcr (grownBy_putObj' _ D (.deferred none)) (fun r e => by cases e; exact ⟨_, hK, rfl⟩)
    refine ⟨.int .i64 (last.1 : Int), ?_, by rw [hS.some hk e2 e3], hB.trans (belowK_b (w := w) (Nat.le_refl _) W D _ _ (by simp at hD; omega) hK rfl rfl)⟩
    simp [results, Tryd.f46, go_sem, hc5]
end Go.Proofs.YtihibmcfklddeaaDoor.HF
namespace Go.Proofs.YtihibmcfklddeaaDoor.HF
set_option linter.unusedVariables false
set_option linter.unusedSimpArgs false
open Go.RowKit Go.Proofs.YtihibmcfklddeaaDoorW.PrintWords Go.Proofs.YtihibmcfklddeaaDoorW.PrintLast Go.Proofs.YtihibmcfklddeaaDoorW.PrintMore

set_option maxHeartbeats 1000000 in
theorem cloBegins (x s : ByteArray) (Bp : Nat) (w : World) (hG : Gl w) (hx : x.size < 4294967281) (hB : w.cell? ⟨Bp, 0, none⟩ = some (.string s)) :
    Calls Tryd.prog 32 #[.string x, .pointer (some ⟨Bp, 0, none⟩)] w fun e w' => e = .returned (.bool (wordBegins s x)) ∧ w' = w := by
  obtain ⟨m, hm⟩ := hG.maxLen
  have HM := Aside0.mk hm
  clear hm hG
  go_enter Tryd.func32, Tryd.ntmps32
  go_wp2_with (go_at_call 33; refine (Tryd.strings_HasPrefix x s _).mono ?_; rintro e w' ⟨rfl, rfl⟩)
  go_ret
  exact ⟨rfl, rfl⟩

set_option maxRecDepth 100000 in
set_option maxHeartbeats 4000000 in
theorem numberBegins (a : Int) (l : List ByteArray) (A : Option Addr) (c : Nat) (Bp : Nat) (p : ByteArray → Bool) (w : World) (hC : Kd.C Kd.string w A l.length l)
    (hIs : ∀ (x : Fin l.length) (W : World), Below w.heap.size w W → Calls Tryd.prog 32 #[.string l[x.1], .pointer (some ⟨Bp, 0, none⟩)] W fun e W' => e = .returned (.bool (p l[x.1])) ∧ W' = W) :
    Calls Tryd.prog 31 #[.agg #[.int .i64 a, .slice A l.length c], .func (.func 32) #[] #[.pointer (some ⟨Bp, 0, none⟩)]] w fun e W' => e = .returned (.tuple #[.int .i64 (numAt a (lastIx p l)).1, .bool (numAt a (lastIx p l)).2]) ∧ Below w.heap.size w W' := by
  have HC := Aside0.mk hC
  have HIS := Aside0.mk hIs
  clear hC hIs
  have hu24 := Tryd.underlying24
  obtain ⟨i, hi⟩ : ∃ i, lastIx p l = i := ⟨_, rfl⟩
  have HI := Aside0.mk hi
  rw [hi]
  clear hi
  go_enter Tryd.func31, Tryd.ntmps31
  have hb1 : Below w.heap.size w (w.alloc (.cells #[.int .i64 a, .slice A l.length c] 24)) := (Below.refl _ w).alloc (Nat.le_refl _) _
  have h1 := World.alloc_heap_new w (.cells #[.int .i64 a, .slice A l.length c] 24)
  have hlast := lastBegins l A c Bp p (w.alloc (.cells #[.int .i64 a, .slice A l.length c] 24)) (Kd.C_alloc HC.out _) (fun x W hW => HIS.out x W (hb1.trans (hW.mono (by simp))))
  rw [HI.out] at hlast
  have H1 := Aside0.mk h1
  clear h1
  by_cases hi : i < 0
  · have hn : numAt a i = (0, false) := by unfold numAt; rw [if_pos hi]
    have HN := Aside0.mk hn
    clear hn
    go_wp2_with (go_at_call 46; refine hlast.mono ?_; rintro e w' ⟨rfl, hb⟩)
    go_ret2
    exact ⟨by rw [HN.out]; rfl, hb1.trans (hb.mono (by simp))⟩
  · have hn : numAt a i = (wrap64 (a + i), true) := by unfold numAt; rw [if_neg hi]
    have HN := Aside0.mk hn
    clear hn
    go_wp2_with (go_at_call 46; refine hlast.mono ?_; rintro e w' ⟨rfl, hb⟩; have hbk : w'.heap[w.heap.size]? = some (.cells #[.int .i64 a, .slice A l.length c] 24 (0, 0)) := (hb.block _ (by simp)).trans H1.out; have hcz0 : w'.cell? ⟨w.heap.size, 0, none⟩ = some (.int .i64 a) := (blk_cell hbk 0).trans rfl; have hfz0 := blk_frozen hbk 0)
    go_ret2
    exact ⟨by rw [HN.out]; rfl, hb1.trans (hb.mono (by simp))⟩

set_option maxRecDepth 100000 in
set_option maxHeartbeats 4000000 in
theorem findBegins (a : Int) (l : List ByteArray) (A : Option Addr) (c : Nat) (s : ByteArray) (w : World) (hC : Kd.C Kd.string w A l.length l) (hG : Gl w) (hx : ∀ x ∈ l, x.size < 4294967281) :
    Calls Tryd.prog 20 #[.agg #[.int .i64 a, .slice A l.length c], .string s] w fun e W' => e = .returned (.tuple #[.int .i64 (numAt a (lastIx (wordBegins s) l)).1, .bool (numAt a (lastIx (wordBegins s) l)).2]) ∧ Below w.heap.size w W' := by
  have HC := Aside0.mk hC
  have HX := Aside0.mk hx
  have HG := Aside0.mk hG
  clear hC hx hG
  have hu24 := Tryd.underlying24
  obtain ⟨r, hr⟩ : ∃ r, numAt a (lastIx (wordBegins s) l) = r := ⟨_, rfl⟩
  rw [hr]
  have hb1 : Below w.heap.size w ((w.alloc (.cells #[.int .i64 a, .slice A l.length c] 24)).alloc (.cells #[.string s] 9)) := ((Below.refl _ w).alloc (Nat.le_refl _) _).alloc (by simp) _
  have hbs := (Boxed.new (w.alloc (.cells #[.int .i64 a, .slice A l.length c] 24)) 9 (.string s)).cell
  simp only [World.size_alloc] at hbs
  have hnum := numberBegins a l A c (w.heap.size + 1) (wordBegins s) ((w.alloc (.cells #[.int .i64 a, .slice A l.length c] 24)).alloc (.cells #[.string s] 9)) (Kd.C_alloc (Kd.C_alloc HC.out _) _)
    (fun x W hW => cloBegins l[x.1] s (w.heap.size + 1) W (HG.out.below (hb1.trans (hW.mono (by simp; omega)))) (HX.out _ (List.getElem_mem _)) ((hW.cell (p := ⟨w.heap.size + 1, 0, none⟩) (by simp)).trans hbs))
  rw [hr] at hnum
  have HN := Aside0.mk hnum
  clear hnum hr hbs
  go_enter Tryd.func20, Tryd.ntmps20
  go_wp2_with (go_at_call 31; refine HN.out.mono ?_; rintro e w' ⟨rfl, hb⟩)
  go_ret2
  exact ⟨rfl, hb1.trans (hb.mono (by simp; omega))⟩
end Go.Proofs.YtihibmcfklddeaaDoor.HF

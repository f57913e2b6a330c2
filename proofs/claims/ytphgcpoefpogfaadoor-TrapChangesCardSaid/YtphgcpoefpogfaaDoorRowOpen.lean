/- A list of traps and a list of integers as a law's argument: what its cells say. -/
import Derived.Test.YtphgcpoefpogfaaDoorPSx0
import Derived.Deep.SlicePairs
import Derived.ProofKit
import Derived.ChangeOld
namespace Go.Proofs.YtphgcpoefpogfaaDoor.PS
open Go.RowKit Go.Proofs.YtphgcpoefpogfaaDoorW.PrintWords Go.Proofs.YtphgcpoefpogfaaDoorW.PrintLast Go.Proofs.YtphgcpoefpogfaaDoorW.PrintMore
open Go.ChangeShapes Go.WideShapes
instance : Inhabited S30 := ⟨z30⟩
theorem cells_trap : Tryd.prog.cellsOf 30 = 2 := by kernel_rfl
theorem cells_int : Tryd.prog.cellsOf 3 = 1 := by kernel_rfl
theorem cells_string : Tryd.prog.cellsOf 9 = 1 := by kernel_rfl
set_option maxRecDepth 100000 in
theorem open_traps {H : Type} {enc : TypeId × Value → H} {W : World} {base b : Nat} {sp : Nat → Bool} {held : Bool} {v : Value} {d : DataW H} {ps : List MemPlace} (hval : Value.okWide Tryd.prog W .any base 26 v) (h : DataW.Trod enc Tryd.prog W b sp held 26 v d ps) :
    ∃ (A : Option Addr) (l : List S30) (c : Nat), v = .slice A l.length c ∧ l.length ≤ c ∧ Kd.C k30 W A l.length l ∧ ∀ t ∈ l, (Lit.int .i64 t.f0).wf = true ∧ t.f1.size ≤ maxLen := by
  obtain ⟨a, len, cap, rfl⟩ := okWide_slice Tryd.underlying26 hval
  obtain ⟨fuel, hf⟩ := h
  rcases Deep.open_slice_pairs Tryd.underlying26 Tryd.underlying30 cells_trap rfl rfl cells_int cells_string hf with ⟨hcs, _⟩ | ⟨x, l, c, m, n, V0, V1, D0, D1, P0, P1, hcs, _, hl, hm, hmm, _, hc⟩
  · simp [Value.cells] at hcs
    obtain ⟨rfl, rfl, rfl⟩ := hcs
    exact ⟨none, [], 0, rfl, Nat.le_refl _, Kd.C_nil _ _, fun _ h => by cases h⟩
  · simp [Value.cells] at hcs
    obtain ⟨rfl, rfl, rfl⟩ := hcs
    have hlm : len ≤ m := by rw [hmm]; split <;> omega
    have each : ∀ i, i < len → ∃ q : S30, W.cell? (x.add (i * 2)) = some (.int .i64 q.f0) ∧ W.cell? (x.add (i * 2 + 1)) = some (.string q.f1) ∧ (Lit.int .i64 q.f0).wf = true ∧ q.f1.size ≤ maxLen := by
      intro i hi
      obtain ⟨c0, c1, h0, h1⟩ := hc i (by omega)
      obtain ⟨z, e0, _, hw⟩ := DataW.trod_int Tryd.underlying3 h0
      obtain ⟨s, e1, _, hs⟩ := DataW.trod_string Tryd.underlying9 h1
      simp only [List.cons.injEq, and_true] at e0 e1
      rw [e0] at c0
      rw [e1] at c1
      exact ⟨⟨z, s⟩, c0, c1, hw, hs⟩
    obtain ⟨q, hq⟩ := Deep.choose_lt each
    refine ⟨some x, (List.range len).map q, cap, by simp, by simp; exact hl, ⟨rfl, ?_, ?_⟩, ?_⟩
    · have := hm; unfold maxLen at this; simp; omega
    · intro _
      refine ⟨x, rfl, fun j p hp => ?_⟩
      have hj : j < len := by
        have := (List.getElem?_eq_some_iff.1 hp).1
        simpa using this
      have hp' : p = q j := by
        rw [List.getElem?_map, List.getElem?_range hj] at hp
        exact (Option.some.inj hp).symm
      subst hp'
      refine ⟨[.int .i64 (q j).f0, .string (q j).f1], rfl, k30_mk W (q j), fun i u hu => ?_⟩
      match i, hu with
      | 0, hu => obtain rfl := Option.some.inj hu; exact (hq j hj).1
      | 1, hu => obtain rfl := Option.some.inj hu; exact (hq j hj).2.1
      | i + 2, hu => simp at hu
    · intro t ht
      obtain ⟨j, hj, rfl⟩ := List.mem_map.1 ht
      exact (hq j (List.mem_range.1 hj)).2.2
set_option maxRecDepth 100000 in
theorem open_intsC {H : Type} {enc : TypeId × Value → H} {W : World} {base b : Nat} {sp : Nat → Bool} {held : Bool} {v : Value} {d : DataW H} {ps : List MemPlace} (hval : Value.okWide Tryd.prog W .any base 27 v) (h : DataW.Trod enc Tryd.prog W b sp held 27 v d ps) :
    ∃ (A : Option Addr) (l : List Int) (c : Nat), v = .slice A l.length c ∧ l.length ≤ c ∧ Kd.C (Kd.int .i64) W A l.length l ∧ ∀ n ∈ l, (Lit.int .i64 n).wf = true := by
  obtain ⟨a, len, cap, rfl⟩ := okWide_slice Tryd.underlying27 hval
  obtain ⟨fuel, hf⟩ := h
  rcases open_ints Tryd.underlying27 Tryd.underlying3 cells_int hf with ⟨hcs, _⟩ | ⟨x, l, c, zs, hcs, _, hl, hm, hz, _, hcell, hwz⟩
  · simp [Value.cells] at hcs
    obtain ⟨rfl, rfl, rfl⟩ := hcs
    exact ⟨none, [], 0, rfl, Nat.le_refl _, Kd.C_nil _ _, fun _ h => by cases h⟩
  · simp [Value.cells] at hcs
    obtain ⟨rfl, rfl, rfl⟩ := hcs
    have hlz : len ≤ zs.length := by rw [hz]; split <;> omega
    have hlen : (zs.take len).length = len := by rw [List.length_take]; omega
    refine ⟨some x, zs.take len, cap, by rw [hlen], by omega, ⟨rfl, ?_, ?_⟩, fun n hn => hwz n (List.mem_of_mem_take hn)⟩
    · have := hm; unfold maxLen at this; omega
    · intro _
      refine ⟨x, rfl, fun j p hp => ?_⟩
      have hj : j < len := by
        have := (List.getElem?_eq_some_iff.1 hp).1
        omega
      have hp' : p = zs.getD j 0 := by
        rw [List.getElem?_take_of_lt hj] at hp
        simp [hp]
      subst hp'
      refine ⟨[.int .i64 (zs.getD j 0)], rfl, rfl, fun i u hu => ?_⟩
      match i, hu with
      | 0, hu => obtain rfl := Option.some.inj hu; simpa [Kd.int, Kd.scalar] using hcell j (by omega)
      | i + 1, hu => simp at hu
end Go.Proofs.YtphgcpoefpogfaaDoor.PS

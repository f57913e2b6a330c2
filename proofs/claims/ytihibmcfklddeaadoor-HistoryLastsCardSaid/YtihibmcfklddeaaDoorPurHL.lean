/- HistoryLasts in plain words. -/
import Derived.Test.YtihibmcfklddeaaDoorPurHB
import Derived.Test.YtihibmcfklddeaaDoorHLAdd
import Derived.Test.YtihibmcfklddeaaDoorPSx11
namespace Go.Proofs.YtihibmcfklddeaaDoor.PS
set_option linter.unusedVariables false
set_option linter.unusedSimpArgs false
open Go.RowKit Go.Proofs.YtihibmcfklddeaaDoorW.PrintWords Go.Proofs.YtihibmcfklddeaaDoorW.PrintLast Go.Proofs.YtihibmcfklddeaaDoorW.PrintMore Go.Proofs.YtihibmcfklddeaaDoor.PE Go.Proofs.YtihibmcfklddeaaDoor.HL
theorem begins_last (a : Int) (q : List ByteArray) (x s : ByteArray) (h : HF.wordBegins s x = true) : beginsP a (q ++ [x]) s = (a + (q.length : Int), true) := by
  unfold beginsP numP
  rw [PV.lastIx_snoc, if_pos h, if_neg (by omega)]
theorem contains_last (a : Int) (q : List ByteArray) (x s : ByteArray) (h : HF.wordContains s x = true) : containsP a (q ++ [x]) s = (a + (q.length : Int), true) := by
  unfold containsP numP
  rw [PV.lastIx_snoc, if_pos h, if_neg (by omega)]
theorem pre_begins (x : ByteArray) (i : Nat) : HF.wordBegins (x.extract 0 i) x = true := by
  unfold HF.wordBegins Lib.hasPrefix
  rw [List.isPrefixOf_iff_prefix, Lib.extract_from_zero]
  exact List.take_prefix _ _
theorem suf_contains (x : ByteArray) (i : Nat) (hi : i ≤ x.size) : HF.wordContains (x.extract i x.size) x = true := by
  unfold HF.wordContains Lib.contains
  have hl : x.data.toList.length = x.size := rfl
  rw [Lib.extract_to_end]
  have ho : Lib.occAt x.data.toList (x.data.toList.drop i) i = true := by
    unfold Lib.occAt
    rw [List.isPrefixOf_iff_prefix]
    exact List.prefix_refl _
  rcases Lib.index_spec x.data.toList (x.data.toList.drop i) with ⟨_, h⟩ | ⟨q, h, _⟩
  · rw [h i (by omega)] at ho; cases ho
  · rw [h]; exact decide_eq_true (by omega)
theorem lasts_l0 (A : Int) (q : List ByteArray) (x : ByteArray) (hr : rngB A = true) (hs : smB (q ++ [x]) = true) (hx : x.size ≤ 100) : ∀ (d i : Nat), i + d = x.size + 1 → Evt (fun k => jobshelllaw43_HistoryLasts.l0 k x (A + (q.length : Int)) (i : Int) A (q ++ [x])) true
  | 0, i, h => by
    refine Evt.shift ?_
    simp only [jobshelllaw43_HistoryLasts.l0]
    refine Evt.ite_neg (by omega) (Evt.of_eq fun _ => awake_b)
  | d + 1, i, h => by
    have e2 : wrap64 ((i : Int) + 1) = ((i + 1 : Nat) : Int) := by rw [wr (by omega) (by omega)]; simp
    have s1 : (x.extract 0 i).size ≤ 1000000 := by rw [ByteArray.size_extract]; omega
    have s2 : (x.extract i x.size).size ≤ 1000000 := by rw [ByteArray.size_extract]; omega
    have hb : history_Begins.f A (q ++ [x]) (x.extract 0 i) = some (A + (q.length : Int), true) := by
      unfold history_Begins.f
      rw [if_pos ⟨hr, hs, s1⟩, begins_last A q x _ (pre_begins x i)]
    have hc : history_Contains.f A (q ++ [x]) (x.extract i x.size) = some (A + (q.length : Int), true) := by
      unfold history_Contains.f
      rw [if_pos ⟨hr, hs, s2⟩, contains_last A q x _ (suf_contains x i (by omega))]
    refine Evt.shift ?_
    simp only [jobshelllaw43_HistoryLasts.l0, Int.toNat_natCast, hb, hc, Option.bind_some, e2, if_true]
    refine Evt.ite_pos (by omega) (Evt.ite_pos (by omega) ?_)
    exact lasts_l0 A q x hr hs hx d (i + 1) (by omega)
theorem add_sizes {a : Int} {l : List ByteArray} {x : ByteArray} (hs : smB l = true) (hv : validP a l = 0) (h : (addP a l x).2.2 = 0) (hx : x.data.toList ≠ []) (hz : x.size ≤ 1000000) : smB (addP a l x).2.1 = true := by
  obtain ⟨_, h2, h3⟩ := add_ok hv h hx
  have hl := (valid_iff.1 h2).1
  refine smB_mk (by omega) fun y hy => ?_
  rcases h3 with ⟨_, e⟩ | ⟨_, e⟩ | ⟨_, _, e⟩
  · rw [e] at hy; exact smB_all hs y hy
  · rw [e] at hy
    rcases List.mem_append.1 hy with hy | hy
    · exact smB_all hs y hy
    · rw [List.mem_singleton.1 hy]; exact hz
  · rw [e] at hy
    rcases List.mem_append.1 hy with hy | hy
    · exact smB_all hs y (List.mem_of_mem_drop hy)
    · rw [List.mem_singleton.1 hy]; exact hz
theorem HistoryLasts (a : Int) (l : List ByteArray) (x : ByteArray) (h1 : l.length ≤ 140737488351232) (h2 : ∀ x ∈ l, x.size ≤ 140737488351232) (_ : x.size ≤ 140737488351232) : ∃ k, jobshelllaw43_HistoryLasts.f k a l x = some true := by
  refine Evt.get (f := fun k => jobshelllaw43_HistoryLasts.f k a l x) ?_
  unfold jobshelllaw43_HistoryLasts.f
  rw [ok_f a l h1 h2]
  simp only [Option.bind_some]
  cases ho : (smallP l && (validP a l == 0)) with
  | false =>
    refine Evt.ite_neg (by decide) (Evt.shift ?_)
    simp only [jobshelllaw43_HistoryLasts.j0]
    exact Evt.ite_pos trivial (Evt.of_eq fun _ => awake_b)
  | true =>
    obtain ⟨hs, hr, hv, hz⟩ := ok_parts ho
    obtain ⟨r1, r2⟩ := rngB_iff.1 hr
    have hll := smB_len hs
    refine Evt.ite_pos rfl (Evt.shift ?_)
    simp only [jobshelllaw43_HistoryLasts.j0]
    by_cases hx : (x.size : Int) > 100
    · exact Evt.ite_pos (decide_eq_true hx) (Evt.of_eq fun _ => awake_b)
    refine Evt.ite_neg (by simpa using hx) ?_
    have hadd : history_Add.f a l x = some (addP a l x) := by
      unfold history_Add.f
      rw [if_pos ⟨hr, hs, by omega⟩]
    simp only [hadd, Option.bind_some, toL]
    have same : (addP a l x).1 = a ∧ (addP a l x).2.1 = l → Evt (fun k => jobshelllaw43_HistoryLasts.j1 k x true a l (addP a l x).1 (addP a l x).2.1) true := by
      rintro ⟨e1, e2⟩
      rw [e1, e2]
      refine Evt.shift ?_
      simp only [jobshelllaw43_HistoryLasts.j1]
      refine Evt.ite_pos trivial ?_
      unfold jobshellref43_Same.f
      rw [if_pos (by omega), sameP_iff.2 ⟨rfl, rfl⟩]
      simp only [Option.bind_some, if_true]
      exact Evt.of_eq fun _ => awake_b
    by_cases hE : (addP a l x).2.2 = 0
    · refine Evt.ite_pos hE ?_
      by_cases hn : x.data.toList = []
      · rw [show (x.data.toList == []) = true by rw [hn]; rfl]
        exact same (add_same (.inr hn))
      · rw [show (x.data.toList == []) = false from beq_eq_false_iff_ne.2 hn]
        obtain ⟨⟨q, hq⟩, hv2, hcase⟩ := add_ok hv hE hn
        have hs2 := add_sizes hs hv hE hn (by omega)
        obtain ⟨w1, w2, w3, w4⟩ := valid_iff.1 hv2
        have hge : (a + (l.length : Int)) ≤ (addP a l x).1 + ((addP a l x).2.1.length : Int) := by
          rcases hcase with ⟨e1, e2⟩ | ⟨e1, e2⟩ | ⟨e1, e3, e2⟩
          · rw [e1, e2]; omega
          · rw [e1, e2]; simp; omega
          · rw [e1, e2]; simp; omega
        revert hv2 hs2 hge w1 w2 w3 w4 hq
        generalize (addP a l x).1 = A
        generalize (addP a l x).2.1 = L
        intro hq hv2 hs2 w1 w2 w3 w4 hge
        subst hq
        have hr2 : rngB A = true := rngB_iff.2 ⟨by omega, by omega⟩
        have hlen : (q ++ [x]).length = q.length + 1 := by simp
        have e0 : wrap64 ((wrap64 (A + ((q ++ [x]).length : Int))) - 1) = A + (q.length : Int) := by rw [wr (x := A + ((q ++ [x]).length : Int)) (by omega) (by omega), wr (by omega) (by omega)]; omega
        have e1 : wrap64 (A + (q.length : Int) + 1) = A + (q.length : Int) + 1 := wr (by omega) (by omega)
        have e3 : wrap64 ((wrap64 (a + (l.length : Int))) - 1) = a + (l.length : Int) - 1 := by rw [wr (x := a + (l.length : Int)) (by omega) (by omega), wr (by omega) (by omega)]
        have g1 : history_Get.f A (q ++ [x]) (A + (q.length : Int)) = some (x, 0) := by
          unfold history_Get.f getP
          rw [if_pos ⟨hr2, hs2, by omega⟩, if_pos ⟨by omega, by omega⟩, show (A + (q.length : Int) - A).toNat = q.length by omega]
          simp
        have g2 : history_Get.f A (q ++ [x]) (A + (q.length : Int) + 1) = some (⟨#[]⟩, 8) := by
          unfold history_Get.f getP
          rw [if_pos ⟨hr2, hs2, by omega⟩, if_neg (by omega)]
        have gv : history_Valid.f A (q ++ [x]) = some 0 := by
          unfold history_Valid.f
          rw [if_pos hs2, hv2]
        refine Evt.shift ?_
        simp only [jobshelllaw43_HistoryLasts.j1, e0, e1, e3, g1, g2, gv, Option.bind_some, if_true]
        refine Evt.ite_neg (by decide) (Evt.shift ?_)
        simp only [jobshelllaw43_HistoryLasts.j2]
        refine Evt.ite_neg (by simp; omega) ?_
        exact lasts_l0 A q x hr2 hs2 (by omega) (x.size + 1) 0 (by omega)
    · refine Evt.ite_neg hE ?_
      exact same (add_same (.inl hE))
end Go.Proofs.YtihibmcfklddeaaDoor.PS

/- HistoryKeeps in plain words. -/
import Derived.Test.YtihibmcfklddeaaDoorPurHB
import Derived.Test.YtihibmcfklddeaaDoorHLAdd
import Derived.Test.YtihibmcfklddeaaDoorPSx10
namespace Go.Proofs.YtihibmcfklddeaaDoor.PS
set_option linter.unusedVariables false
set_option linter.unusedSimpArgs false
open Go.RowKit Go.Proofs.YtihibmcfklddeaaDoorW.PrintWords Go.Proofs.YtihibmcfklddeaaDoorW.PrintLast Go.Proofs.YtihibmcfklddeaaDoorW.PrintMore Go.Proofs.YtihibmcfklddeaaDoor.PE Go.Proofs.YtihibmcfklddeaaDoor.HL
theorem two_size (a b : Int) : (strOfNums [a, b]).size = 2 := rfl
theorem two_ne (a b : Int) : (strOfNums [a, b]).data.toList ≠ [] := by
  show [UInt8.ofNat a.toNat, UInt8.ofNat b.toNat] ≠ []
  simp
/-- The line with number n is still there, and it is s; or it has gone, and enough lines stand behind it. -/
def Keep (n : Int) (s : ByteArray) (a : Int) (l : List ByteArray) : Prop :=
  (a ≤ n ∧ ∃ h : (n - a).toNat < l.length, l[(n - a).toNat] = s) ∨ (n < a ∧ 128 ≤ a + (l.length : Int) - 1 - n)
theorem keep_step {n : Int} {s : ByteArray} {a a' : Int} {l l' : List ByteArray} {x : ByteArray} (h : Keep n s a l)
    (hc : (a' = a ∧ l' = l) ∨ (a' = a ∧ l' = l ++ [x]) ∨ (a' = a + 1 ∧ l.length = 128 ∧ l' = l.drop 1 ++ [x])) : Keep n s a' l' := by
  rcases hc with ⟨rfl, rfl⟩ | ⟨rfl, rfl⟩ | ⟨rfl, hl, rfl⟩
  · exact h
  · rcases h with ⟨h1, h2, h3⟩ | ⟨h1, h2⟩
    · refine .inl ⟨h1, by simp; omega, ?_⟩
      rw [List.getElem_append_left h2]
      exact h3
    · exact .inr ⟨h1, by simp; omega⟩
  · rcases h with ⟨h1, h2, h3⟩ | ⟨h1, h2⟩
    · by_cases hn : a + 1 ≤ n
      · have hk : (n - (a + 1)).toNat + 1 = (n - a).toNat := by omega
        have hd : (n - (a + 1)).toNat < (l.drop 1).length := by rw [List.length_drop]; omega
        refine .inl ⟨hn, by simp; omega, ?_⟩
        rw [List.getElem_append_left hd, List.getElem_drop]
        simp only [show 1 + (n - (a + 1)).toNat = (n - a).toNat by omega]
        exact h3
      · refine .inr ⟨by omega, ?_⟩
        simp only [List.length_append, List.length_drop, List.length_singleton]
        omega
    · refine .inr ⟨by omega, ?_⟩
      simp only [List.length_append, List.length_drop, List.length_singleton]
      omega
theorem add_smB {a : Int} {l : List ByteArray} {x : ByteArray} (hs : smB l = true) (hv : validP a l = 0) (h : (addP a l x).2.2 = 0) (hx : x.data.toList ≠ []) (hz : x.size ≤ 1000000) : smB (addP a l x).2.1 = true := by
  obtain ⟨_, h2, h3⟩ := add_ok hv h hx
  have hl := (valid_iff.1 h2).1
  refine smB_mk (by omega) fun y hy => ?_
  rcases h3 with ⟨_, e⟩ | ⟨_, e⟩ | ⟨_, _, e⟩
  · rw [e] at hy; exact smB_all hs y hy
  · rw [e] at hy
    rcases List.mem_append.1 hy with hy | hy
    · exact smB_all hs y hy
    · rw [List.mem_singleton.1 hy]; exact hz
  · rw [e] at hy
    rcases List.mem_append.1 hy with hy | hy
    · exact smB_all hs y (List.mem_of_mem_drop hy)
    · rw [List.mem_singleton.1 hy]; exact hz
theorem keeps_l0 (m : List Int) (hm : m.length ≤ 300) (n : Int) (hn0 : 0 ≤ n) (hn : n ≤ 2147483900) (s : ByteArray) : ∀ (d i : Nat), i + d = m.length → ∀ (a : Int) (l : List ByteArray), validP a l = 0 → smB l = true → Keep n s a l → Evt (fun k => jobshelllaw43_HistoryKeeps.l0 k m n s (i : Int) a l) true
  | 0, i, h, a, l, hv, hs, hk => by
    refine Evt.shift ?_
    simp only [jobshelllaw43_HistoryKeeps.l0]
    exact Evt.ite_neg (by omega) (Evt.of_eq fun _ => awake_b)
  | d + 1, i, h, a, l, hv, hs, hk => by
    obtain ⟨v1, v2, v3, v4⟩ := valid_iff.1 hv
    refine Evt.shift ?_
    simp only [jobshelllaw43_HistoryKeeps.l0]
    refine Evt.ite_pos (by omega) (Evt.ite_pos (by omega) ?_)
    generalize (97 + (Int.tmod (rd m (i : Int)) 16)) % 256 = b1
    generalize (97 + ((Int.tdiv (rd m (i : Int)) 16) % 256)) % 256 = b2
    have hx := two_ne b1 b2
    have hz := two_size b1 b2
    revert hx hz
    generalize strOfNums [b1, b2] = x
    intro hx hz
    have hadd : history_Add.f a l x = some (addP a l x) := by
      unfold history_Add.f
      rw [if_pos ⟨rngB_iff.2 ⟨by omega, by omega⟩, hs, by omega⟩]
    simp only [hadd, Option.bind_some]
    by_cases hE : (addP a l x).2.2 = 0
    · refine Evt.ite_pos hE ?_
      obtain ⟨_, hv2, hc⟩ := add_ok hv hE hx
      have hs2 := add_smB hs hv hE hx (by omega)
      have hk2 := keep_step hk hc
      have e2 : wrap64 ((i : Int) + 1) = ((i + 1 : Nat) : Int) := by rw [wr (by omega) (by omega)]; simp
      have ih := keeps_l0 m hm n hn0 hn s d (i + 1) (by omega) _ _ hv2 hs2 hk2
      revert hv2 hs2 hk2 ih
      generalize (addP a l x).1 = A
      generalize (addP a l x).2.1 = L
      intro hv2 hs2 hk2 ih
      obtain ⟨w1, w2, w3, w4⟩ := valid_iff.1 hv2
      have hg : history_Get.f A L n = some (getP A L n) := by
        unfold history_Get.f
        rw [if_pos ⟨rngB_iff.2 ⟨by omega, by omega⟩, hs2, by omega⟩]
      simp only [hg, Option.bind_some, e2]
      rcases hk2 with ⟨k1, k2, k3⟩ | ⟨k1, k2⟩
      · have hp : getP A L n = (s, 0) := by
          unfold getP
          rw [if_pos ⟨k1, by omega⟩]
          have : L.getD (n - A).toNat ByteArray.empty = s := by
            rw [List.getD_eq_getElem?_getD, List.getElem?_eq_getElem k2]
            exact k3
          rw [this]
        rw [hp]
        refine Evt.ite_neg (by simp; omega) (Evt.ite_neg (by omega) (Evt.ite_pos rfl ?_))
        exact ih
      · have hp : getP A L n = (⟨#[]⟩, 8) := by
          unfold getP
          rw [if_neg (by omega)]
        rw [hp]
        have e3 : wrap64 ((wrap64 ((wrap64 (A + (L.length : Int))) - 1)) - n) = A + (L.length : Int) - 1 - n := by
          rw [wr (x := A + (L.length : Int)) (by omega) (by omega), wr (x := A + (L.length : Int) - 1) (by omega) (by omega), wr (by omega) (by omega)]
        simp only [e3]
        refine Evt.ite_neg (by simp; omega) (Evt.ite_pos (by omega) (Evt.ite_neg (by omega) ?_))
        exact ih
    · exact Evt.ite_neg hE (Evt.of_eq fun _ => awake_b)
theorem HistoryKeeps (a : Int) (l : List ByteArray) (m : List Int) (h1 : l.length ≤ 140737488351232) (h2 : ∀ x ∈ l, x.size ≤ 140737488351232) (_ : ∀ n ∈ m, (Lit.int .u8 n).wf = true) : ∃ k, jobshelllaw43_HistoryKeeps.f k a l m = some true := by
  refine Evt.get (f := fun k => jobshelllaw43_HistoryKeeps.f k a l m) ?_
  have done_ : Evt (fun k => jobshelllaw43_HistoryKeeps.j0 k m true a l) true := by
    refine Evt.shift ?_
    simp only [jobshelllaw43_HistoryKeeps.j0]
    exact Evt.ite_pos trivial (Evt.of_eq fun _ => awake_b)
  unfold jobshelllaw43_HistoryKeeps.f
  rw [ok_f a l h1 h2]
  simp only [Option.bind_some]
  cases ho : (smallP l && (validP a l == 0)) with
  | false => exact Evt.ite_neg (by decide) done_
  | true =>
    obtain ⟨hs, hr, hv, hz⟩ := ok_parts ho
    obtain ⟨v1, v2, v3, v4⟩ := valid_iff.1 hv
    refine Evt.ite_pos rfl ?_
    by_cases h0 : l.length = 0
    · exact Evt.ite_pos (by omega) done_
    refine Evt.ite_neg (by omega) ?_
    by_cases hm : (m.length : Int) > 300
    · rw [decide_eq_true hm]
      exact done_
    · rw [decide_eq_false hm]
      have e0 : wrap64 ((l.length : Int) - 1) = ((l.length - 1 : Nat) : Int) := by rw [wr (by omega) (by omega)]; omega
      have e1 : wrap64 ((wrap64 (a + (l.length : Int))) - 1) = a + (l.length : Int) - 1 := by rw [wr (x := a + (l.length : Int)) (by omega) (by omega), wr (by omega) (by omega)]
      refine Evt.shift ?_
      simp only [jobshelllaw43_HistoryKeeps.j0, e0, e1]
      refine Evt.ite_neg (by decide) (Evt.ite_pos (by omega) (Evt.ite_pos (by omega) ?_))
      have hi : l.length - 1 < l.length := by omega
      rw [rd_get ByteArray.empty l (l.length - 1) hi]
      refine keeps_l0 m (by omega) (a + (l.length : Int) - 1) (by omega) (by omega) _ m.length 0 (by omega) a l hv hs ?_
      have hk : (a + (l.length : Int) - 1 - a).toNat = l.length - 1 := by omega
      exact .inl ⟨by omega, by omega, by simp only [hk]⟩
end Go.Proofs.YtihibmcfklddeaaDoor.PS

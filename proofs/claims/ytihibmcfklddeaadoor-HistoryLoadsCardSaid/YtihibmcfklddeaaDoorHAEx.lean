/- history.Add and Get, the reference's Add and Get, Small and Valid in plain words. history.Add and Get, the reference's Add and Get in plain words. The reference's Begins, Contains, Save and Same in plain words. -/
import Derived.Test.YtihibmcfklddeaaDoorHSpec
import Derived.Test.YtihibmcfklddeaaDoorHVPur
import Derived.Test.YtihibmcfklddeaaDoorPVx2
import Derived.Test.YtihibmcfklddeaaDoorPVx5
import Derived.Test.YtihibmcfklddeaaDoorPVx6
import Derived.Test.YtihibmcfklddeaaDoorPVx7
namespace Go.Proofs.YtihibmcfklddeaaDoor.PV
set_option linter.unusedVariables false
set_option linter.unusedSimpArgs false
open Go.RowKit Go.Proofs.YtihibmcfklddeaaDoorW.PrintWords Go.Proofs.YtihibmcfklddeaaDoorW.PrintLast Go.Proofs.YtihibmcfklddeaaDoorW.PrintMore Go.Proofs.YtihibmcfklddeaaDoor.PE Go.Proofs.YtihibmcfklddeaaDoor.HL

theorem small_l0 (a : Int) (l : List ByteArray) (hsz : ∀ x ∈ l, x.size ≤ 4611686018427387904) (hl : l.length ≤ 4611686018427387904) :
    ∀ (r p : List ByteArray), l = p ++ r → ∀ n : Nat, n ≤ 4611686018427387904 + 30000 → n = sizes p → Evt (fun k => jobshellref43_Small.l0 k (n : Int) (p.length : Int) a l) (smallP l)
  | r, p, h, n, hn, hp => by
    have hso : ∀ q q' : List ByteArray, sizes (q ++ q') = sizes q + sizes q' := fun q q' => by
      induction q with
      | nil => simp [sizes]
      | cons x q ih => simp only [List.cons_append, sizes, ih]; omega
    have hll : l.length = p.length + r.length := by rw [h, List.length_append]
    have hsl : sizes l = n + sizes r := by rw [h, hso, hp]
    have fin : (if (l.length : Int) ≤ 140 then some (decide ((n : Int) < 30000)) else some false) = some (decide (l.length ≤ 140) && decide (n < 30000)) := by
      by_cases h1 : l.length ≤ 140
      · rw [if_pos (by omega)]; simp [h1]; omega
      · rw [if_neg (by omega)]; simp [h1]
    refine Evt.shift ?_
    simp only [jobshellref43_Small.l0, fin]
    cases r with
    | nil =>
      have hs0 : sizes l = n := by rw [hsl]; simp [sizes]
      refine Evt.ite_neg (by simp at hll; omega) ?_
      unfold smallP
      rw [hs0]
      exact Evt.pure' _
    | cons x r =>
      have hx : rdOf ByteArray.empty l (p.length : Int) = x := by rw [h]; exact rd_mid _ _ _ _
      have hxs : x.size ≤ 4611686018427387904 := hsz x (by rw [h]; simp)
      simp only [List.length_cons] at hll
      refine Evt.ite_pos (by omega) ?_
      by_cases h140 : p.length < 140
      · refine Evt.ite_pos (by omega) ?_
        by_cases h3 : n < 30000
        · refine Evt.ite_pos (by omega) (Evt.ite_pos (by omega) ?_)
          have ih := small_l0 a l hsz hl r (p ++ [x]) (by rw [h]; simp) (n + x.size) (by omega) (by rw [hso, hp]; simp [sizes])
          have e1 : wrap64 ((n : Int) + ((rdOf ByteArray.empty l (p.length : Int)).size : Int)) = ((n + x.size : Nat) : Int) := by rw [hx, wr (by omega) (by omega)]; omega
          have e2 : wrap64 ((p.length : Int) + 1) = ((p ++ [x]).length : Int) := by rw [wr (by omega) (by omega)]; simp
          simp only [e1, e2]
          exact ih
        · refine Evt.ite_neg (by omega) ?_
          have e : smallP l = (decide (l.length ≤ 140) && decide (n < 30000)) := by
            unfold smallP
            rw [decide_eq_false (show ¬ n < 30000 from h3), decide_eq_false (show ¬ sizes l < 30000 by omega)]
          rw [e]
          exact Evt.pure' _
      · refine Evt.ite_neg (by omega) ?_
        have e : smallP l = (decide (l.length ≤ 140) && decide (n < 30000)) := by
          unfold smallP
          rw [decide_eq_false (show ¬ l.length ≤ 140 by omega)]
          rfl
        rw [e]
        exact Evt.pure' _
  termination_by r => r.length
  decreasing_by
    subst_vars
    simp
theorem small_ev (a : Int) (l : List ByteArray) (hsz : ∀ x ∈ l, x.size ≤ 4611686018427387904) (hl : l.length ≤ 4611686018427387904) : Evt (fun k => jobshellref43_Small.f k a l) (smallP l) := by
  unfold jobshellref43_Small.f
  exact small_l0 a l hsz hl l [] rfl 0 (by omega) rfl

theorem bt_nat (s : ByteArray) (i : Nat) (h : i < s.size) : bt s (i : Int) = (s.data.toList[i]'h : UInt8).toNat := by
  unfold bt
  rw [dif_pos (by simpa using h)]
  rfl
theorem feeds_l0 (x : ByteArray) (hx : x.size ≤ 4611686018427387904) : ∀ (d i : Nat), i + d = x.size → Evt (fun k => jobshellref43_feeds.l0 k x (i : Int)) (decide ((10 : UInt8) ∈ x.data.toList.drop i))
  | 0, i, h => by
    refine Evt.shift ?_
    simp only [jobshellref43_feeds.l0]
    refine Evt.ite_neg (by omega) ?_
    have hl : x.data.toList.length = x.size := rfl
    rw [List.drop_eq_nil_of_le (by omega)]
    exact Evt.pure' _
  | d + 1, i, h => by
    have hi : i < x.size := by omega
    have hl : x.data.toList.length = x.size := rfl
    refine Evt.shift ?_
    simp only [jobshellref43_feeds.l0, bt_nat x i hi]
    refine Evt.ite_pos (by omega) (Evt.ite_pos (by omega) ?_)
    rw [List.drop_eq_getElem_cons (show i < x.data.toList.length from hi)]
    by_cases h10 : x.data.toList[i]'hi = 10
    · refine Evt.ite_pos (by rw [h10]; rfl) ?_
      simp only [h10, List.mem_cons, true_or, decide_true]
      exact Evt.pure' _
    · have hne : ¬ ((x.data.toList[i]'hi).toNat : Int) = 10 := fun e => h10 (UInt8.toNat_inj.1 (show (x.data.toList[i]'hi).toNat = (10 : UInt8).toNat from Int.ofNat_inj.1 e))
      refine Evt.ite_neg hne ?_
      have ih := feeds_l0 x hx d (i + 1) (by omega)
      have e2 : wrap64 ((i : Int) + 1) = ((i + 1 : Nat) : Int) := by rw [wr (by omega) (by omega)]; simp
      simp only [e2]
      have h10' : ¬ (10 : UInt8) = x.data.toList[i]'hi := fun e => h10 e.symm
      simp only [List.mem_cons, h10', false_or]
      exact ih
theorem feeds_ev (x : ByteArray) (hx : x.size ≤ 4611686018427387904) : Evt (fun k => jobshellref43_feeds.f k x) (decide ((10 : UInt8) ∈ x.data.toList)) := by
  unfold jobshellref43_feeds.f
  exact feeds_l0 x hx x.size 0 (by omega)

theorem rvalid_l0 (a : Int) (l : List ByteArray) (hsz : ∀ x ∈ l, x.size ≤ 4611686018427387904) (hl : l.length ≤ 128) :
    ∀ (r p : List ByteArray), l = p ++ r → Evt (fun k => jobshellref43_Valid.l0 k (p.length : Int) a l) (badFrom (p.getLast?.map (·.data.toList)) r)
  | [], p, h => by
    refine Evt.shift ?_
    simp only [jobshellref43_Valid.l0]
    refine Evt.ite_neg (by rw [h]; simp) ?_
    exact Evt.pure' _
  | x :: r, p, h => by
    have hp : p.length < l.length := by rw [h]; simp
    have hx : rdOf ByteArray.empty l (p.length : Int) = x := by rw [h]; exact rd_mid _ _ _ _
    have hxs : x.size ≤ 4611686018427387904 := hsz x (by rw [h]; simp)
    have ih := rvalid_l0 a l hsz hl r (p ++ [x]) (by rw [h]; simp)
    refine Evt.shift ?_
    simp only [jobshellref43_Valid.l0, hx, toL]
    refine Evt.ite_pos (by omega) (Evt.ite_pos (by omega) ?_)
    by_cases h0 : x.data.toList = []
    · refine Evt.ite_pos h0 (Evt.shift ?_)
      simp only [jobshellref43_Valid.j2]
      refine Evt.ite_pos trivial ?_
      simp only [badFrom, badLine, if_pos h0]
      exact Evt.pure' _
    refine Evt.ite_neg h0 (Evt.bind (feeds_ev x hxs) (Evt.shift ?_))
    simp only [jobshellref43_Valid.j2]
    by_cases h1 : (10 : UInt8) ∈ x.data.toList
    · refine Evt.ite_pos (decide_eq_true h1) ?_
      simp only [badFrom, badLine, if_neg h0, if_pos h1]
      exact Evt.pure' _
    refine Evt.ite_neg (by simp [h1]) ?_
    by_cases h2 : 4096 < x.size
    · refine Evt.ite_pos (by omega) ?_
      simp only [badFrom, badLine, if_neg h0, if_neg h1, if_pos h2]
      exact Evt.pure' _
    refine Evt.ite_neg (by omega) ?_
    have hb : ∀ q, badFrom q (x :: r) = if q = some x.data.toList then 9 else badFrom (some x.data.toList) r := fun q => by simp only [badFrom, badLine, if_neg h0, if_neg h1, if_neg h2]
    have hn : wrap64 ((p.length : Int) + 1) = ((p ++ [x]).length : Int) := by rw [wr (by omega) (by omega)]; simp
    simp only [hn]
    simp only [List.getLast?_append, List.getLast?_singleton, Option.some_or, Option.map_some] at ih
    rw [hb]
    rcases List.eq_nil_or_concat p with rfl | ⟨q, y, rfl⟩
    · refine Evt.ite_neg (by simp) ?_
      rw [if_neg (by simp)]
      exact ih
    · have hw : wrap64 (((q.concat y).length : Int) - 1) = (q.length : Int) := by rw [wr (by omega) (by omega)]; simp
      have hy : rdOf ByteArray.empty l (q.length : Int) = y := by rw [h, List.concat_eq_append]; exact rd_last _ _ _ _
      have hql : (q.length : Int) < (l.length : Int) := by rw [h]; simp; omega
      simp only [hw, hy]
      refine Evt.ite_pos (by simp <;> omega) (Evt.ite_pos (by omega) (Evt.ite_pos hql ?_))
      by_cases h3 : x.data.toList = y.data.toList
      · refine Evt.ite_pos (by rw [toL, toL]; exact h3) ?_
        rw [if_pos (by simp [List.concat_eq_append, h3])]
        exact Evt.pure' _
      · refine Evt.ite_neg (by rw [toL, toL]; exact h3) ?_
        rw [if_neg (by rw [List.concat_eq_append, List.getLast?_append, List.getLast?_singleton]; simp only [Option.some_or, Option.map_some, Option.some.injEq]; exact fun e => h3 e.symm)]
        exact ih
theorem rvalid_ev (a : Int) (l : List ByteArray) (hsz : ∀ x ∈ l, x.size ≤ 4611686018427387904) : Evt (fun k => jobshellref43_Valid.f k a l) (validP a l) := by
  unfold jobshellref43_Valid.f validP
  by_cases h : 128 < l.length
  · rw [if_pos h]
    exact Evt.ite_pos (by omega) (Evt.pure' _)
  rw [if_neg h]
  refine Evt.ite_neg (by omega) ?_
  by_cases h1 : a < 1
  · rw [if_pos h1]
    refine Evt.ite_pos h1 (Evt.shift ?_)
    simp only [jobshellref43_Valid.j0]
    exact Evt.ite_pos trivial (Evt.pure' _)
  rw [if_neg h1]
  refine Evt.ite_neg h1 (Evt.shift ?_)
  simp only [jobshellref43_Valid.j0]
  by_cases h2 : 2147483519 < a
  · rw [if_pos h2]
    exact Evt.ite_pos (by simpa using h2) (Evt.pure' _)
  · rw [if_neg h2]
    refine Evt.ite_neg (by simpa using h2) ?_
    exact rvalid_l0 a l hsz (by omega) l [] rfl
end Go.Proofs.YtihibmcfklddeaaDoor.PV
namespace Go.Proofs.YtihibmcfklddeaaDoor.PV
set_option linter.unusedVariables false
set_option linter.unusedSimpArgs false
open Go.RowKit Go.Proofs.YtihibmcfklddeaaDoorW.PrintWords Go.Proofs.YtihibmcfklddeaaDoorW.PrintLast Go.Proofs.YtihibmcfklddeaaDoorW.PrintMore Go.Proofs.YtihibmcfklddeaaDoor.PE Go.Proofs.YtihibmcfklddeaaDoor.HL

theorem last_rd (l : List ByteArray) (h : 0 < l.length) (hl : l.length ≤ 400) : wrap64 ((l.length : Int) - 1) = ((l.length - 1 : Nat) : Int) ∧ lastB l = some (rdOf ByteArray.empty l ((l.length - 1 : Nat) : Int)).data.toList := by
  refine ⟨by rw [wr (by omega) (by omega)]; omega, ?_⟩
  unfold lastB
  rw [rd_get _ _ _ (by omega), List.getLast?_eq_getElem?, List.getElem?_eq_getElem (by omega)]
  rfl
/-- What Add does behind its tests. -/
def tailP (a : Int) (l : List ByteArray) (x : ByteArray) : Int × List ByteArray × Int := if 128 < (l ++ [x]).length then if 2147483519 ≤ a then (a, l, 4) else (a + 1, (l ++ [x]).drop 1, 0) else (a, l ++ [x], 0)
theorem addP_eq (a : Int) (l : List ByteArray) (x : ByteArray) (h1 : ¬ (10 : UInt8) ∈ x.data.toList) (h2 : ¬ 4096 < x.size) : addP a l x = if x.data.toList = [] then (a, l, 0) else if lastB l = some x.data.toList then (a, l, 0) else tailP a l x := by
  unfold addP tailP
  rw [if_neg h1, if_neg h2]
theorem j0_tail (a : Int) (l : List ByteArray) (x : ByteArray) (ha : 0 ≤ a) (hl : l.length ≤ 400) :
    (if (((l ++ [x] : List ByteArray).length : Nat) : Int) > 128 then (if a ≥ 2147483519 then (some (a, l, 4)) else (if 1 ≤ (((l ++ [x] : List ByteArray).length : Nat) : Int) then (some (wrap64 (a + 1), ((l ++ [x] : List ByteArray).drop (1 : Int).toNat), 0)) else (none))) else (some (a, l ++ [x], 0))) = some (tailP a l x) := by
  unfold tailP
  have hlen : (l ++ [x]).length = l.length + 1 := by simp
  by_cases h1 : 128 < (l ++ [x]).length
  · rw [if_pos (by omega), if_pos h1]
    by_cases h2 : 2147483519 ≤ a
    · rw [if_pos h2, if_pos h2]
    · rw [if_neg h2, if_neg h2, if_pos (by omega), wr (by omega) (by omega)]
      rfl
  · rw [if_neg (by omega), if_neg h1]
theorem add_j0 (a : Int) (l : List ByteArray) (x : ByteArray) (ha : 0 ≤ a) (hl : l.length ≤ 400) (b : Bool) : Evt (fun k => history_Add.j0 k x b a l) (if b = true then (a, l, 0) else tailP a l x) := by
  refine Evt.shift ?_
  simp only [history_Add.j0, slices_Clone_string_string.f, if_pos (show l.length ≤ 1000 by omega), Option.bind_some]
  cases b with
  | true => exact Evt.pure' _
  | false =>
    refine Evt.ite_neg (by decide) (Evt.ite_pos (by simp; omega) (Evt.of_eq fun k => ?_))
    exact j0_tail a l x ha hl
theorem radd_j0 (a : Int) (l : List ByteArray) (x : ByteArray) (ha : 0 ≤ a) (hl : l.length ≤ 400) (b : Bool) : Evt (fun k => jobshellref43_Add.j0 k x b a l) (if b = true then (a, l, 0) else tailP a l x) := by
  refine Evt.shift ?_
  simp only [jobshellref43_Add.j0, Option.bind_some, List.nil_append]
  cases b with
  | true => exact Evt.pure' _
  | false =>
    refine Evt.ite_neg (by decide) (Evt.ite_pos (by simp; omega) (Evt.ite_pos (by omega) (Evt.of_eq fun k => ?_)))
    exact j0_tail a l x ha hl
theorem add_ev (a : Int) (l : List ByteArray) (x : ByteArray) (ha : 0 ≤ a) (hl : l.length ≤ 400) (hx : x.size ≤ 1000000) : Evt (fun k => history_Add.f k a l x) (addP a l x) := by
  unfold history_Add.f
  rw [check_eq x (by omega)]
  simp only [Option.bind_some]
  by_cases h1 : (10 : UInt8) ∈ x.data.toList
  · refine Evt.ite_neg (by simp [h1]) ?_
    unfold addP
    rw [if_pos h1, if_pos h1]
    exact Evt.pure' _
  by_cases h2 : 4096 < x.size
  · refine Evt.ite_neg (by simp [h1, h2]) ?_
    unfold addP
    rw [if_neg h1, if_neg h1, if_pos h2, if_pos h2]
    exact Evt.pure' _
  refine Evt.ite_pos (by simp [h1, h2]) ?_
  rw [addP_eq a l x h1 h2]
  simp only [toL]
  by_cases h0 : x.data.toList = []
  · rw [if_pos h0]
    exact Evt.ite_pos h0 (add_j0 a l x ha hl true)
  rw [if_neg h0]
  refine Evt.ite_neg h0 ?_
  by_cases hn : 0 < l.length
  · obtain ⟨e1, e2⟩ := last_rd l hn hl
    refine Evt.ite_pos (by omega) ?_
    simp only [e1]
    refine Evt.ite_pos (by omega) (Evt.ite_pos (by omega) ?_)
    have := add_j0 a l x ha hl ((rdOf ByteArray.empty l ((l.length - 1 : Nat) : Int)).data.toList == x.data.toList)
    rw [e2]
    by_cases h3 : (rdOf ByteArray.empty l ((l.length - 1 : Nat) : Int)).data.toList = x.data.toList
    · rw [if_pos (by rw [h3])]
      rw [if_pos (by rw [h3]; simp)] at this
      exact this
    · rw [if_neg (by simpa using h3)]
      rw [if_neg (by simpa using h3)] at this
      exact this
  · obtain rfl : l = [] := List.eq_nil_of_length_eq_zero (by omega)
    refine Evt.ite_neg (by simp) ?_
    rw [if_neg (by simp [lastB])]
    exact add_j0 a [] x ha hl false
theorem radd_ev (a : Int) (l : List ByteArray) (x : ByteArray) (ha : 0 ≤ a) (hl : l.length ≤ 400) (hx : x.size ≤ 1000000) : Evt (fun k => jobshellref43_Add.f k a l x) (addP a l x) := by
  unfold jobshellref43_Add.f
  refine Evt.bind (feeds_ev x (by omega)) ?_
  by_cases h1 : (10 : UInt8) ∈ x.data.toList
  · refine Evt.ite_pos (decide_eq_true h1) ?_
    unfold addP
    rw [if_pos h1]
    exact Evt.pure' _
  refine Evt.ite_neg (by simp [h1]) ?_
  by_cases h2 : 4096 < x.size
  · refine Evt.ite_pos (by omega) ?_
    unfold addP
    rw [if_neg h1, if_pos h2]
    exact Evt.pure' _
  refine Evt.ite_neg (by omega) ?_
  rw [addP_eq a l x h1 h2]
  simp only [toL]
  by_cases h0 : x.data.toList = []
  · rw [if_pos h0]
    exact Evt.ite_pos h0 (radd_j0 a l x ha hl true)
  rw [if_neg h0]
  refine Evt.ite_neg h0 ?_
  by_cases hn : 0 < l.length
  · obtain ⟨e1, e2⟩ := last_rd l hn hl
    refine Evt.ite_pos (by omega) ?_
    simp only [e1]
    refine Evt.ite_pos (by omega) (Evt.ite_pos (by omega) ?_)
    have := radd_j0 a l x ha hl ((rdOf ByteArray.empty l ((l.length - 1 : Nat) : Int)).data.toList == x.data.toList)
    rw [e2]
    by_cases h3 : (rdOf ByteArray.empty l ((l.length - 1 : Nat) : Int)).data.toList = x.data.toList
    · rw [if_pos (by rw [h3])]
      rw [if_pos (by rw [h3]; simp)] at this
      exact this
    · rw [if_neg (by simpa using h3)]
      rw [if_neg (by simpa using h3)] at this
      exact this
  · obtain rfl : l = [] := List.eq_nil_of_length_eq_zero (by omega)
    refine Evt.ite_neg (by simp) ?_
    rw [if_neg (by simp [lastB])]
    exact radd_j0 a [] x ha hl false

theorem get_eq (a : Int) (l : List ByteArray) (n : Int) (ha : 0 ≤ a) (ha2 : a ≤ 4611686018427387904) (hn : n ≤ 9223372036854775807) : history_Get.f a l n = some (getP a l n) := by
  unfold history_Get.f getP
  by_cases h1 : n < a
  · rw [if_pos h1, if_neg (by omega)]
  rw [if_neg h1, wr (by omega) (by omega)]
  by_cases h2 : n - a < l.length
  · rw [if_neg (by omega), if_pos (by omega), if_pos (by omega), if_pos ⟨by omega, h2⟩]
    rfl
  · rw [if_pos (by omega), if_neg (by omega)]
theorem rget_l0 (a : Int) (l : List ByteArray) (n : Int) (ha : 0 ≤ a) (ha2 : a ≤ 4611686018427387904) (hl : l.length ≤ 400) : ∀ (d i : Nat), i + d = l.length → (∀ j, j < i → a + (j : Int) ≠ n) → Evt (fun k => jobshellref43_Get.l0 k n (i : Int) a l) (getP a l n)
  | 0, i, h, hj => by
    refine Evt.shift ?_
    simp only [jobshellref43_Get.l0]
    refine Evt.ite_neg (by omega) ?_
    have : ¬ (a ≤ n ∧ n - a < l.length) := by
      rintro ⟨h1, h2⟩
      exact hj (n - a).toNat (by omega) (by omega)
    unfold getP
    rw [if_neg this]
    exact Evt.pure' _
  | d + 1, i, h, hj => by
    refine Evt.shift ?_
    simp only [jobshellref43_Get.l0]
    refine Evt.ite_pos (by omega) ?_
    have e1 : wrap64 (a + (i : Int)) = a + (i : Int) := wr (by omega) (by omega)
    have e2 : wrap64 ((i : Int) + 1) = ((i + 1 : Nat) : Int) := by rw [wr (by omega) (by omega)]; simp
    simp only [e1, e2]
    by_cases h1 : a + (i : Int) = n
    · refine Evt.ite_pos h1 (Evt.ite_pos (by omega) ?_)
      unfold getP
      rw [if_pos ⟨by omega, by omega⟩, show (n - a).toNat = i by omega]
      exact Evt.pure' _
    · refine Evt.ite_neg h1 ?_
      refine rget_l0 a l n ha ha2 hl d (i + 1) (by omega) fun j hj' => ?_
      by_cases hji : j = i
      · subst hji; exact h1
      · exact hj j (by omega)
theorem rget_ev (a : Int) (l : List ByteArray) (n : Int) (ha : 0 ≤ a) (ha2 : a ≤ 4611686018427387904) (hl : l.length ≤ 400) : Evt (fun k => jobshellref43_Get.f k a l n) (getP a l n) := by
  unfold jobshellref43_Get.f
  exact rget_l0 a l n ha ha2 hl l.length 0 (by omega) (fun j hj => by omega)
end Go.Proofs.YtihibmcfklddeaaDoor.PV
namespace Go.Proofs.YtihibmcfklddeaaDoor.PV
set_option linter.unusedVariables false
set_option linter.unusedSimpArgs false
open Go.RowKit Go.Proofs.YtihibmcfklddeaaDoorW.PrintWords Go.Proofs.YtihibmcfklddeaaDoorW.PrintLast Go.Proofs.YtihibmcfklddeaaDoorW.PrintMore Go.Proofs.YtihibmcfklddeaaDoor.PE Go.Proofs.YtihibmcfklddeaaDoor.HL

theorem begins_eq (x s : ByteArray) : jobshellref43_begins.f x s = some (HF.wordBegins s x) := by
  unfold jobshellref43_begins.f HF.wordBegins Lib.hasPrefix
  have h1 : x.data.toList.length = x.size := rfl
  have h2 : s.data.toList.length = s.size := rfl
  by_cases h : s.size ≤ x.size
  · rw [if_pos (by omega), if_pos (by omega), if_pos (by omega)]
    congr 1
    rw [Int.toNat_natCast, toL, toL, Lib.extract_from_zero]
    rw [Bool.eq_iff_iff, List.isPrefixOf_iff_prefix, List.prefix_iff_eq_take, h2]
    rw [beq_iff_eq]
    exact ⟨fun e => e.symm, fun e => e.symm⟩
  · rw [if_neg (by omega)]
    congr 1
    symm
    rw [Bool.eq_false_iff]
    intro e
    have := (List.isPrefixOf_iff_prefix.1 e).length_le
    omega
/-- A search from the end: what it finds is the last. -/
theorem lastIx_snoc (p : ByteArray → Bool) (l : List ByteArray) (x : ByteArray) : HF.lastIx p (l ++ [x]) = if p x then (l.length : Int) else HF.lastIx p l := by
  induction l with
  | nil => simp [HF.lastIx]
  | cons y l ih =>
    rw [List.cons_append]
    simp only [HF.lastIx, ih]
    by_cases h : p x = true
    · rw [if_pos h, if_pos (by omega), if_pos h]
      simp
    · rw [if_neg h, if_neg h]
theorem rbegins_l0 (a : Int) (l : List ByteArray) (s : ByteArray) (ha : 0 ≤ a) (ha2 : a ≤ 4611686018427387904) (hl : l.length ≤ 400) : ∀ (i : Nat), i ≤ l.length → (∀ j (h : j < l.length), i ≤ j → HF.wordBegins s l[j] = false) → Evt (fun k => jobshellref43_Begins.l0 k s ((i : Int) - 1) a l) (beginsP a l s)
  | 0, h, hj => by
    refine Evt.shift ?_
    simp only [jobshellref43_Begins.l0]
    refine Evt.ite_neg (by omega) ?_
    unfold beginsP numP
    rw [HF.lastIx_none fun j h => hj j h (by omega), if_pos (by omega)]
    exact Evt.pure' _
  | i + 1, h, hj => by
    have hi : i < l.length := by omega
    have e0 : ((i + 1 : Nat) : Int) - 1 = (i : Int) := by omega
    have e1 : wrap64 (a + (i : Int)) = a + (i : Int) := wr (by omega) (by omega)
    have e2 : wrap64 ((i : Int) - 1) = (i : Int) - 1 := wr (by omega) (by omega)
    refine Evt.shift ?_
    simp only [jobshellref43_Begins.l0, e0, e1, e2, rd_get ByteArray.empty l i hi, begins_eq, Option.bind_some]
    refine Evt.ite_pos (by omega) (Evt.ite_pos (by omega) (Evt.ite_pos (by omega) ?_))
    by_cases hw : HF.wordBegins s l[i] = true
    · refine Evt.ite_pos hw ?_
      unfold beginsP numP
      rw [HF.lastIx_some i hi hw fun j h hlt => hj j h (by omega), if_neg (by omega)]
      exact Evt.pure' _
    · refine Evt.ite_neg hw ?_
      refine rbegins_l0 a l s ha ha2 hl i (by omega) fun j h hij => ?_
      by_cases hji : j = i
      · subst hji; simpa using hw
      · exact hj j h (by omega)
theorem rbegins_ev (a : Int) (l : List ByteArray) (s : ByteArray) (ha : 0 ≤ a) (ha2 : a ≤ 4611686018427387904) (hl : l.length ≤ 400) : Evt (fun k => jobshellref43_Begins.f k a l s) (beginsP a l s) := by
  unfold jobshellref43_Begins.f
  rw [wr (by omega) (by omega)]
  exact rbegins_l0 a l s ha ha2 hl l.length (Nat.le_refl _) fun j h hij => by omega

theorem contains_l0 (x s : ByteArray) (hx : x.size ≤ 1000000) (hs : s.size ≤ 1000000) : ∀ (d i : Nat), i + d = x.size + 1 → (∀ j, j < i → Lib.occAt x.data.toList s.data.toList j = false) → Evt (fun k => jobshellref43_contains.l0 k x s (i : Int)) (HF.wordContains s x)
  | d, i, h, hj => by
    have h1 : x.data.toList.length = x.size := rfl
    have h2 : s.data.toList.length = s.size := rfl
    have e1 : wrap64 ((i : Int) + (s.size : Int)) = ((i + s.size : Nat) : Int) := by rw [wr (by omega) (by omega)]; omega
    have e2 : wrap64 ((i : Int) + 1) = ((i + 1 : Nat) : Int) := by rw [wr (by omega) (by omega)]; simp
    refine Evt.shift ?_
    simp only [jobshellref43_contains.l0, e1, e2]
    by_cases hle : i + s.size ≤ x.size
    · refine Evt.ite_pos (by omega) (Evt.ite_pos (by omega) (Evt.ite_pos (by omega) ?_))
      have hocc : (x.extract (i : Int).toNat ((i + s.size : Nat) : Int).toNat).toList = s.toList ↔ Lib.occAt x.data.toList s.data.toList i = true := by
        rw [Int.toNat_natCast, Int.toNat_natCast, toL, toL, Lib.extract_data, show i + s.size - i = s.size by omega]
        unfold Lib.occAt
        rw [List.isPrefixOf_iff_prefix, List.prefix_iff_eq_take, h2]
        exact ⟨fun e => e.symm, fun e => e.symm⟩
      by_cases ho : Lib.occAt x.data.toList s.data.toList i = true
      · refine Evt.ite_pos (hocc.2 ho) ?_
        have : HF.wordContains s x = true := by
          unfold HF.wordContains Lib.contains
          rcases Lib.index_spec x.data.toList s.data.toList with ⟨_, h4⟩ | ⟨q, h3, _⟩
          · rw [h4 i (by omega)] at ho; cases ho
          · rw [h3]; exact decide_eq_true (by omega)
        rw [this]
        exact Evt.pure' _
      · refine Evt.ite_neg (fun e => ho (hocc.1 e)) ?_
        cases d with
        | zero => omega
        | succ d =>
          refine contains_l0 x s hx hs d (i + 1) (by omega) fun j hj' => ?_
          by_cases hji : j = i
          · subst hji; simpa using ho
          · exact hj j (by omega)
    · refine Evt.ite_neg (by omega) ?_
      have : HF.wordContains s x = false := by
        unfold HF.wordContains Lib.contains
        rcases Lib.index_spec x.data.toList s.data.toList with ⟨h3, _⟩ | ⟨q, h3, h4, h5, _⟩
        · rw [h3]; exact decide_eq_false (by omega)
        · exfalso
          have hr := Lib.index_room x.data.toList s.data.toList (by rw [h3]; omega)
          rw [h3, h1, h2] at hr
          have := hj q (by omega)
          rw [h5] at this
          cases this
      rw [this]
      exact Evt.pure' _
theorem contains_ev (x s : ByteArray) (hx : x.size ≤ 1000000) (hs : s.size ≤ 1000000) : Evt (fun k => jobshellref43_contains.f k x s) (HF.wordContains s x) := by
  unfold jobshellref43_contains.f
  exact contains_l0 x s hx hs (x.size + 1) 0 (by omega) fun j hj => by omega
theorem rcontains_l0 (a : Int) (l : List ByteArray) (s : ByteArray) (ha : 0 ≤ a) (ha2 : a ≤ 4611686018427387904) (hl : l.length ≤ 400) (hsz : ∀ x ∈ l, x.size ≤ 1000000) (hs : s.size ≤ 1000000) : ∀ (i : Nat), i ≤ l.length → (∀ j (h : j < l.length), i ≤ j → HF.wordContains s l[j] = false) → Evt (fun k => jobshellref43_Contains.l0 k s ((i : Int) - 1) a l) (containsP a l s)
  | 0, h, hj => by
    refine Evt.shift ?_
    simp only [jobshellref43_Contains.l0]
    refine Evt.ite_neg (by omega) ?_
    unfold containsP numP
    rw [HF.lastIx_none fun j h => hj j h (by omega), if_pos (by omega)]
    exact Evt.pure' _
  | i + 1, h, hj => by
    have hi : i < l.length := by omega
    have e0 : ((i + 1 : Nat) : Int) - 1 = (i : Int) := by omega
    have e1 : wrap64 (a + (i : Int)) = a + (i : Int) := wr (by omega) (by omega)
    have e2 : wrap64 ((i : Int) - 1) = (i : Int) - 1 := wr (by omega) (by omega)
    refine Evt.shift ?_
    simp only [jobshellref43_Contains.l0, e0, e1, e2, rd_get ByteArray.empty l i hi]
    refine Evt.ite_pos (by omega) (Evt.ite_pos (by omega) (Evt.ite_pos (by omega) (Evt.bind (contains_ev l[i] s (hsz _ (List.getElem_mem _)) hs) ?_)))
    by_cases hw : HF.wordContains s l[i] = true
    · refine Evt.ite_pos hw ?_
      unfold containsP numP
      rw [HF.lastIx_some i hi hw fun j h hlt => hj j h (by omega), if_neg (by omega)]
      exact Evt.pure' _
    · refine Evt.ite_neg hw ?_
      refine rcontains_l0 a l s ha ha2 hl hsz hs i (by omega) fun j h hij => ?_
      by_cases hji : j = i
      · subst hji; simpa using hw
      · exact hj j h (by omega)
theorem rcontains_ev (a : Int) (l : List ByteArray) (s : ByteArray) (ha : 0 ≤ a) (ha2 : a ≤ 4611686018427387904) (hl : l.length ≤ 400) (hsz : ∀ x ∈ l, x.size ≤ 1000000) (hs : s.size ≤ 1000000) : Evt (fun k => jobshellref43_Contains.f k a l s) (containsP a l s) := by
  unfold jobshellref43_Contains.f
  rw [wr (by omega) (by omega)]
  exact rcontains_l0 a l s ha ha2 hl hsz hs l.length (Nat.le_refl _) fun j h hij => by omega

theorem rsave_l0 (a : Int) (l : List ByteArray) (hl : l.length ≤ 400) (hsz : ∀ x ∈ l, x.size ≤ 1000000) :
    ∀ (r p : List ByteArray), l = p ++ r → ∀ b : ByteArray, b.size ≤ 1000 + 1000001 * p.length → Evt (fun k => jobshellref43_Save.l0 k b (p.length : Int) a l) ⟨(b.data.toList ++ linesB r).toArray⟩
  | [], p, h, b, hb => by
    refine Evt.shift ?_
    simp only [jobshellref43_Save.l0]
    refine Evt.ite_neg (by rw [h]; simp) ?_
    have : b = ⟨(b.data.toList ++ linesB []).toArray⟩ := ba_ext (by simp [linesB])
    rw [← this]
    exact Evt.pure' _
  | x :: r, p, h, b, hb => by
    have hp : p.length < l.length := by rw [h]; simp
    have hx : rdOf ByteArray.empty l (p.length : Int) = x := by rw [h]; exact rd_mid _ _ _ _
    have hxs : x.size ≤ 1000000 := hsz x (by rw [h]; simp)
    have hn : wrap64 ((p.length : Int) + 1) = ((p ++ [x]).length : Int) := by rw [wr (by omega) (by omega)]; simp
    have hs1 : (b ++ x).size = b.size + x.size := by simp
    refine Evt.shift ?_
    simp only [jobshellref43_Save.l0, hx, hn]
    refine Evt.ite_pos (by omega) (Evt.ite_pos (by omega) (Evt.ite_pos (by omega) (Evt.ite_pos (by omega) ?_)))
    have ih := rsave_l0 a l hl hsz r (p ++ [x]) (by rw [h]; simp) (b ++ x ++ ⟨#[10]⟩) (by
      have : (b ++ x ++ (⟨#[10]⟩ : ByteArray)).size = b.size + x.size + 1 := by rw [ByteArray.size_append, hs1]; rfl
      rw [this]
      simp only [List.length_append, List.length_singleton]
      omega)
    have e : (⟨((b ++ x ++ (⟨#[10]⟩ : ByteArray)).data.toList ++ linesB r).toArray⟩ : ByteArray) = ⟨(b.data.toList ++ linesB (x :: r)).toArray⟩ := ba_ext (by simp [linesB])
    rw [e] at ih
    exact ih
theorem digs_len : ∀ (k u : Nat), (digs k u).length ≤ k
  | 0, _ => by simp [digs]
  | k + 1, u => by
    have := digs_len k (u / 10)
    unfold digs
    split
    · simp
    · simp; omega
theorem itoaP_len (n : Int) : (itoaP n).length ≤ 21 := by
  unfold itoaP
  split
  · have := digs_len 20 n.natAbs
    simp only [List.length_cons]
    omega
  · have := digs_len 20 n.toNat
    omega
theorem rsave_ev (a : Int) (l : List ByteArray) (ha : 0 ≤ a) (ha2 : a ≤ 4611686018427387904) (hl : l.length ≤ 400) (hsz : ∀ x ∈ l, x.size ≤ 1000000) : Evt (fun k => jobshellref43_Save.f k a l) (saveP a l) := by
  unfold jobshellref43_Save.f strconv_Itoa.f
  rw [if_pos ⟨by omega, by omega⟩, ← itoaP_eq a (by omega) (by omega)]
  simp only [Option.bind_some]
  have hsz1 : (⟨(itoaP a).toArray⟩ : ByteArray).size = (itoaP a).length := by simp [ByteArray.size]
  have hlen := itoaP_len a
  refine Evt.ite_pos (by omega) ?_
  have := rsave_l0 a l hl hsz l [] rfl (⟨(itoaP a).toArray⟩ ++ ⟨#[10]⟩) (by rw [ByteArray.size_append, hsz1]; show _ + 1 ≤ _; simp; omega)
  have e : (⟨(((⟨(itoaP a).toArray⟩ : ByteArray) ++ (⟨#[10]⟩ : ByteArray)).data.toList ++ linesB l).toArray⟩ : ByteArray) = saveP a l := ba_ext (by simp [saveP])
  rw [e] at this
  exact this

theorem same_l0 (a b : Int) (l m : List ByteArray) (hlm : l.length = m.length) (hl : l.length ≤ 4611686018427387904) : ∀ (d i : Nat), i + d = l.length → l.take i = m.take i → Evt (fun k => jobshellref43_Same.l0 k (i : Int) a l b m) (decide (l = m))
  | 0, i, h, ht => by
    refine Evt.shift ?_
    simp only [jobshellref43_Same.l0]
    refine Evt.ite_neg (by omega) ?_
    rw [List.take_of_length_le (by omega), List.take_of_length_le (by omega)] at ht
    rw [decide_eq_true ht]
    exact Evt.pure' _
  | d + 1, i, h, ht => by
    have hi : i < l.length := by omega
    have hi' : i < m.length := by omega
    have e2 : wrap64 ((i : Int) + 1) = ((i + 1 : Nat) : Int) := by rw [wr (by omega) (by omega)]; simp
    refine Evt.shift ?_
    simp only [jobshellref43_Same.l0, rd_get ByteArray.empty l i hi, rd_get ByteArray.empty m i hi', e2, toL]
    refine Evt.ite_pos (by omega) (Evt.ite_pos (by omega) (Evt.ite_pos (by omega) ?_))
    by_cases he : l[i].data.toList = m[i].data.toList
    · refine Evt.ite_pos he ?_
      refine same_l0 a b l m hlm hl d (i + 1) (by omega) ?_
      rw [List.take_succ_eq_append_getElem hi, List.take_succ_eq_append_getElem hi', ht, ba_ext he]
    · refine Evt.ite_neg he ?_
      rw [decide_eq_false (fun e => he (by subst e; rfl))]
      exact Evt.pure' _
theorem same_ev (a b : Int) (l m : List ByteArray) (hl : l.length ≤ 4611686018427387904) : Evt (fun k => jobshellref43_Same.f k a l b m) (decide (a = b ∧ l = m)) := by
  unfold jobshellref43_Same.f
  have h0 : ∀ v, Evt (fun k => jobshellref43_Same.j0 k v a l b m) (if v = true then false else decide (l = m)) → True := fun _ _ => trivial
  by_cases hab : a = b
  · refine Evt.ite_pos hab (Evt.shift ?_)
    simp only [jobshellref43_Same.j0]
    by_cases hlm : l.length = m.length
    · refine Evt.ite_neg (by simp [hlm]) ?_
      have := same_l0 a b l m hlm hl l.length 0 (by omega) rfl
      have e : decide (a = b ∧ l = m) = decide (l = m) := by simp [hab]
      rw [e]
      exact this
    · refine Evt.ite_pos (by simp; omega) ?_
      rw [decide_eq_false (fun e => hlm (by rw [e.2]))]
      exact Evt.pure' _
  · refine Evt.ite_neg hab (Evt.shift ?_)
    simp only [jobshellref43_Same.j0]
    refine Evt.ite_pos trivial ?_
    rw [decide_eq_false (fun e => hab e.1)]
    exact Evt.pure' _
end Go.Proofs.YtihibmcfklddeaaDoor.PV

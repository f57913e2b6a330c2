/- From some number of rounds on a function tells a value. history.Valid in plain words. -/
import Derived.Test.YtihibmcfklddeaaDoorPVx0
import Derived.Test.YtihibmcfklddeaaDoorHSpec
import Derived.Test.YtihibmcfklddeaaDoorPVx3
namespace Go.Proofs.YtihibmcfklddeaaDoor.PE
set_option linter.unusedVariables false
set_option linter.unusedSimpArgs false
open Go.RowKit Go.Proofs.YtihibmcfklddeaaDoorW.PrintWords Go.Proofs.YtihibmcfklddeaaDoorW.PrintLast Go.Proofs.YtihibmcfklddeaaDoorW.PrintMore
def Evt {α : Type} (f : Nat → Option α) (v : α) : Prop := ∃ K, ∀ k, K ≤ k → f k = some v
namespace Evt
variable {α β : Type}
theorem pure' (v : α) : Evt (fun _ => some v) v := ⟨0, fun _ _ => rfl⟩
theorem of_eq {f : Nat → Option α} {v : α} (h : ∀ k, f k = some v) : Evt f v := ⟨0, fun k _ => h k⟩
theorem bind {f : Nat → Option α} {g : Nat → α → Option β} {v : α} {u : β} (hf : Evt f v) (hg : Evt (fun k => g k v) u) : Evt (fun k => (f k).bind (g k)) u := by
  obtain ⟨K, hK⟩ := hf
  obtain ⟨L, hL⟩ := hg
  exact ⟨max K L, fun k hk => by show (f k).bind (g k) = some u; rw [hK k (by omega), Option.bind_some]; exact hL k (by omega)⟩
theorem shift {f : Nat → Option α} {v : α} (h : Evt (fun k => f (k + 1)) v) : Evt f v := by
  obtain ⟨K, hK⟩ := h
  exact ⟨K + 1, fun k hk => by obtain ⟨j, rfl⟩ : ∃ j, k = j + 1 := ⟨k - 1, by omega⟩; exact hK j (by omega)⟩
theorem congr {f g : Nat → Option α} {v : α} (h : Evt f v) (e : ∀ k, g k = f k) : Evt g v := by
  obtain ⟨K, hK⟩ := h
  exact ⟨K, fun k hk => (e k).trans (hK k hk)⟩
theorem ite_pos {c : Prop} [Decidable c] {f g : Nat → Option α} {v : α} (hc : c) (h : Evt f v) : Evt (fun k => if c then f k else g k) v := h.congr fun _ => if_pos hc
theorem ite_neg {c : Prop} [Decidable c] {f g : Nat → Option α} {v : α} (hc : ¬ c) (h : Evt g v) : Evt (fun k => if c then f k else g k) v := h.congr fun _ => if_neg hc
theorem mono {f : Nat → Option α} {v : α} {K : Nat} (hm : ∀ k, LeO (f k) (f (k + 1))) (h : f K = some v) : Evt f v := ⟨K, fun k hk => at_rounds hm hk h⟩
theorem get {f : Nat → Option α} {v : α} (h : Evt f v) : ∃ k, f k = some v := by obtain ⟨K, hK⟩ := h; exact ⟨K, hK K (Nat.le_refl _)⟩
end Evt
theorem wr {x : Int} (h0 : -9223372036854775808 ≤ x) (h1 : x ≤ 9223372036854775807) : wrap64 x = x := by unfold wrap64; omega
theorem toL (s : ByteArray) : s.toList = s.data.toList := ByteArray.toList_eq s
theorem ba_ext {x y : ByteArray} (h : x.data.toList = y.data.toList) : x = y := by
  cases x; cases y
  exact congrArg _ (Array.toList_inj.1 h)
theorem rd_mid {α : Type} (d : α) (p : List α) (x : α) (r : List α) : rdOf d (p ++ x :: r) (p.length : Int) = x := by
  unfold rdOf
  simp
theorem rd_last {α : Type} (d : α) (q : List α) (y : α) (r : List α) : rdOf d (q ++ [y] ++ r) (q.length : Int) = y := by
  unfold rdOf
  simp
theorem rd_get {α : Type} (d : α) (l : List α) (i : Nat) (h : i < l.length) : rdOf d l (i : Int) = l[i] := by
  unfold rdOf
  simp [h]
end Go.Proofs.YtihibmcfklddeaaDoor.PE
namespace Go.Proofs.YtihibmcfklddeaaDoor.PV
set_option linter.unusedVariables false
set_option linter.unusedSimpArgs false
open Go.RowKit Go.Proofs.YtihibmcfklddeaaDoorW.PrintWords Go.Proofs.YtihibmcfklddeaaDoorW.PrintLast Go.Proofs.YtihibmcfklddeaaDoorW.PrintMore Go.Proofs.YtihibmcfklddeaaDoor.PE Go.Proofs.YtihibmcfklddeaaDoor.HL
theorem index_mem : ∀ (l : List UInt8), decide (0 ≤ Lib.indexByte l 10) = decide ((10 : UInt8) ∈ l)
  | [] => by simp [Lib.indexByte]
  | c :: r => by
    have hg := Lib.indexByte_ge r 10
    have ih := index_mem r
    by_cases h : c = 10
    · subst h; simp [Lib.indexByte]
    · have h' : ¬ (10 : UInt8) = c := fun e => h e.symm
      unfold Lib.indexByte
      simp only [beq_eq_false_iff_ne.2 h, Bool.false_eq_true, if_false, List.mem_cons, h', false_or]
      rw [← ih]
      split
      · rename_i h2
        have : Lib.indexByte r 10 = -1 := by simpa using h2
        simp [this]
      · rename_i h2
        have : Lib.indexByte r 10 ≠ -1 := by simpa using h2
        exact (decide_eq_true (by omega)).trans (decide_eq_true (by omega)).symm
theorem contains_mem (l : List UInt8) : Lib.contains l [10] = decide ((10 : UInt8) ∈ l) := by
  unfold Lib.contains
  rw [Lib.index_one]
  exact index_mem l
theorem check_eq (x : ByteArray) (hx : x.size < 4294967281) : history_check.f x = some (if (10 : UInt8) ∈ x.data.toList then 1 else if 4096 < x.size then 3 else 0) := by
  unfold history_check.f strings_Contains.f
  rw [if_pos hx, Option.bind_some]
  have hc : Lib.contains x.data.toList (⟨#[10]⟩ : ByteArray).data.toList = decide ((10 : UInt8) ∈ x.data.toList) := contains_mem _
  rw [hc]
  by_cases h : (10 : UInt8) ∈ x.data.toList
  · simp [h]
  · by_cases h2 : 4096 < x.size
    · simp [h, h2]; try omega
    · simp [h, h2]; try omega
theorem valid_l0 (a : Int) (l : List ByteArray) (hsz : ∀ x ∈ l, x.size < 4294967281) (hl : l.length ≤ 128) :
    ∀ (r p : List ByteArray), l = p ++ r → Evt (fun k => history_Valid.l0 k l (l.length : Int) (p.length : Int) a l) (badFrom (p.getLast?.map (·.data.toList)) r)
  | [], p, h => by
    refine Evt.shift ?_
    simp only [history_Valid.l0]
    refine Evt.ite_neg (by rw [h]; simp) ?_
    exact Evt.pure' _
  | x :: r, p, h => by
    have hp : p.length < l.length := by rw [h]; simp
    have hx : rdOf ByteArray.empty l (p.length : Int) = x := by rw [h]; exact rd_mid _ _ _ _
    have hxs : x.size < 4294967281 := hsz x (by rw [h]; simp)
    have ih := valid_l0 a l hsz hl r (p ++ [x]) (by rw [h]; simp)
    refine Evt.shift ?_
    simp only [history_Valid.l0, hx, toL, check_eq x hxs, Option.bind_some]
    refine Evt.ite_pos (by omega) (Evt.ite_pos (by omega) (Evt.ite_pos (by omega) ?_))
    by_cases h0 : x.data.toList = []
    · refine Evt.ite_pos h0 ?_
      simp only [badFrom, badLine, if_pos h0]
      exact Evt.pure' _
    refine Evt.ite_neg h0 ?_
    by_cases h1 : (10 : UInt8) ∈ x.data.toList
    · refine Evt.ite_neg (by simp [h1]) ?_
      simp only [badFrom, badLine, if_neg h0, if_pos h1]
      exact Evt.pure' _
    by_cases h2 : 4096 < x.size
    · refine Evt.ite_neg (by simp [h1, h2]) ?_
      simp only [badFrom, badLine, if_neg h0, if_neg h1, if_pos h2]
      exact Evt.pure' _
    refine Evt.ite_pos (by simp [h1, h2]) ?_
    have hb : ∀ q, badFrom q (x :: r) = if q = some x.data.toList then 9 else badFrom (some x.data.toList) r := fun q => by simp only [badFrom, badLine, if_neg h0, if_neg h1, if_neg h2]
    have hn : wrap64 ((p.length : Int) + 1) = ((p ++ [x]).length : Int) := by rw [wr (by omega) (by omega)]; simp
    simp only [hn]
    simp only [List.getLast?_append, List.getLast?_singleton, Option.some_or, Option.map_some] at ih
    rw [hb]
    rcases List.eq_nil_or_concat p with rfl | ⟨q, y, rfl⟩
    · refine Evt.ite_neg (by simp) ?_
      rw [if_neg (by simp)]
      exact ih
    · have hw : wrap64 (((q.concat y).length : Int) - 1) = (q.length : Int) := by rw [wr (by omega) (by omega)]; simp
      have hy : rdOf ByteArray.empty l (q.length : Int) = y := by rw [h, List.concat_eq_append]; exact rd_last _ _ _ _
      have hql : (q.length : Int) < (l.length : Int) := by rw [h]; simp; omega
      simp only [hw, hy]
      refine Evt.ite_pos (by simp <;> omega) (Evt.ite_pos (by omega) (Evt.ite_pos hql ?_))
      by_cases h3 : x.data.toList = y.data.toList
      · refine Evt.ite_pos h3 ?_
        rw [if_pos (by simp [List.concat_eq_append, h3])]
        exact Evt.pure' _
      · refine Evt.ite_neg h3 ?_
        rw [if_neg (by rw [List.concat_eq_append, List.getLast?_append, List.getLast?_singleton]; simp only [Option.some_or, Option.map_some, Option.some.injEq]; exact fun e => h3 e.symm)]
        exact ih
theorem validP_ev (a : Int) (l : List ByteArray) (hsz : ∀ x ∈ l, x.size < 4294967281) : Evt (fun k => history_Valid.f k a l) (validP a l) := by
  unfold history_Valid.f validP
  by_cases h : 128 < l.length
  · rw [if_pos h]
    exact Evt.ite_pos (by omega) (Evt.pure' _)
  rw [if_neg h]
  refine Evt.ite_neg (by omega) ?_
  by_cases h1 : a < 1
  · rw [if_pos h1]
    refine Evt.ite_pos h1 (Evt.shift ?_)
    simp only [history_Valid.j0]
    exact Evt.ite_pos trivial (Evt.pure' _)
  rw [if_neg h1]
  refine Evt.ite_neg h1 (Evt.shift ?_)
  simp only [history_Valid.j0]
  by_cases h2 : 2147483519 < a
  · rw [if_pos h2]
    exact Evt.ite_pos (by simpa using h2) (Evt.pure' _)
  · rw [if_neg h2]
    refine Evt.ite_neg (by simpa using h2) ?_
    exact valid_l0 a l hsz (by omega) l [] rfl
theorem valid_walk (a : Int) (l : List ByteArray) (A : Option Addr) (c : Nat) (w : World) (hC : Kd.C Kd.string w A l.length l) (hc : l.length ≤ c) (hsz : ∀ x ∈ l, x.size < 4294967281) (hG : Gl w) :
    Calls Tryd.prog 11 #[.agg #[.int .i64 a, .slice A l.length c]] w fun e w' => e = .returned (.int .i64 (validP a l)) ∧ Below w.heap.size w w' := by
  obtain ⟨k, hk⟩ := (validP_ev a l hsz).get
  exact history_Valid.calls k a A c l _ w hC hc hk hG
end Go.Proofs.YtihibmcfklddeaaDoor.PV

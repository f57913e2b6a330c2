import Derived.Test.YtphgcpoefpogfaaDoorPSx6
namespace Go.Proofs.YtphgcpoefpogfaaDoor.PS
open Go.RowKit Go.Proofs.YtphgcpoefpogfaaDoorW.PrintWords Go.Proofs.YtphgcpoefpogfaaDoorW.PrintLast Go.Proofs.YtphgcpoefpogfaaDoorW.PrintMore
set_option linter.unusedSimpArgs false
set_option linter.unusedVariables false

/-! From some number of rounds on. -/
def Ev {α : Type} (f : Nat → Option α) (v : α) : Prop := ∃ K, ∀ k, K ≤ k → f k = some v
namespace Ev
variable {α β : Type}
theorem pure' (v : α) : Ev (fun _ => some v) v := ⟨0, fun _ _ => rfl⟩
theorem of_eq {f : Nat → Option α} {v : α} (h : ∀ k, f k = some v) : Ev f v := ⟨0, fun k _ => h k⟩
theorem bind {f : Nat → Option α} {g : Nat → α → Option β} {v : α} {u : β} (hf : Ev f v) (hg : Ev (fun k => g k v) u) : Ev (fun k => (f k).bind (g k)) u := by
  obtain ⟨K, hK⟩ := hf
  obtain ⟨L, hL⟩ := hg
  exact ⟨max K L, fun k hk => by show (f k).bind (g k) = some u; rw [hK k (by omega), Option.bind_some]; exact hL k (by omega)⟩
theorem shift {f : Nat → Option α} {v : α} (h : Ev (fun k => f (k + 1)) v) : Ev f v := by
  obtain ⟨K, hK⟩ := h
  exact ⟨K + 1, fun k hk => by obtain ⟨j, rfl⟩ : ∃ j, k = j + 1 := ⟨k - 1, by omega⟩; exact hK j (by omega)⟩
theorem congr {f g : Nat → Option α} {v : α} (h : Ev f v) (e : ∀ k, g k = f k) : Ev g v := by
  obtain ⟨K, hK⟩ := h
  exact ⟨K, fun k hk => (e k).trans (hK k hk)⟩
theorem ite_pos {c : Prop} [Decidable c] {f g : Nat → Option α} {v : α} (hc : c) (h : Ev f v) : Ev (fun k => if c then f k else g k) v := h.congr fun _ => if_pos hc
theorem ite_neg {c : Prop} [Decidable c] {f g : Nat → Option α} {v : α} (hc : ¬ c) (h : Ev g v) : Ev (fun k => if c then f k else g k) v := h.congr fun _ => if_neg hc
theorem mono {f : Nat → Option α} {v : α} {K : Nat} (hm : ∀ k, LeO (f k) (f (k + 1))) (h : f K = some v) : Ev f v := ⟨K, fun k hk => at_rounds hm hk h⟩
theorem get {f : Nat → Option α} {v : α} (h : Ev f v) : ∃ k, f k = some v := by obtain ⟨K, hK⟩ := h; exact ⟨K, hK K (Nat.le_refl _)⟩
end Ev
theorem wr {x : Int} (h0 : -9223372036854775808 ≤ x) (h1 : x ≤ 9223372036854775807) : wrap64 x = x := by unfold wrap64; omega
theorem awake_ev : Ev jobshelllaw34_awake.f true := Ev.mono jobshelllaw34_awake.mono jobshelllaw34_awake.at_k
theorem awake_ev' : Ev (fun k => (jobshelllaw34_awake.f k).bind fun t => some t) true := awake_ev.bind (Ev.pure' _)

/-! ## TrapSignals -/
def nums : List Int := [1, 2, 3, 4, 5, 9, 10, 12, 13, 14, 15, 17, 18, 19, 20]
def words : List (List UInt8) := [[48], [69, 88, 73, 84]] ++ nums.map (fun n => (Sg.sigName n).data.toList) ++ nums.map (fun n => Lib.decDigits n.toNat) ++ nums.map (fun n => [83, 73, 71] ++ (Sg.sigName n).data.toList)
theorem words_ok : ∀ x ∈ words, (trap_Signal.f 100 ⟨x.toArray⟩).isSome = true ∧ trap_Signal.f 100 ⟨x.toArray⟩ = jobshellref34_Signal.f 100 ⟨x.toArray⟩ := by decide +kernel
theorem toL (s : ByteArray) : s.toList = s.data.toList := by
  exact ByteArray.toList_eq s
theorem toM (l : List UInt8) : (⟨l.toArray⟩ : ByteArray).toList = l := by rw [toL]
theorem name_ref (n : Int) : jobshellref25_Name.f n = some (Sg.sigName n) := by
  by_cases h : n ∈ nums
  · revert n
    decide +kernel
  · simp only [nums, List.mem_cons, List.not_mem_nil, or_false, not_or] at h
    unfold jobshellref25_Name.f Sg.sigName
    simp [h]
theorem name_cases (n : Int) : Sg.sigName n = ⟨#[]⟩ ∨ n ∈ nums := by
  by_cases h : n ∈ nums
  · exact .inr h
  · refine .inl ?_
    simp only [nums, List.mem_cons, List.not_mem_nil, or_false, not_or] at h
    unfold Sg.sigName
    simp [h]
theorem name_some {n : Int} (h : n ∈ nums) : (Sg.sigName n).toList ≠ [] := by
  rw [toL]
  revert n
  decide +kernel
theorem name_len {n : Int} (h : n ∈ nums) : 3 + (Sg.sigName n).size ≤ 9223372036854775807 := by
  revert n
  decide +kernel
theorem nums_rng {n : Int} (h : n ∈ nums) : 1 ≤ n ∧ n ≤ 20 := by
  simp only [nums, List.mem_cons, List.not_mem_nil, or_false] at h
  omega
/-- What is no word is no signal's: each loop runs out. -/
theorem number_out (s : ByteArray) (h1 : ∀ n ∈ nums, s.toList ≠ (Sg.sigName n).toList) (h2 : ∀ n ∈ nums, s.toList ≠ Lib.decDigits n.toNat) (d : Nat) : ∀ n : Int, 1 ≤ n → n + d = 21 → Ev (fun k => signal_Number.l0 k s n) (0, false) := by
  induction d with
  | zero =>
    intro n _ hn
    refine Ev.shift ?_
    simp only [signal_Number.l0]
    exact Ev.ite_neg (by omega) (Ev.pure' _)
  | succ d ih =>
    intro n h0 hn
    refine Ev.shift ?_
    simp only [signal_Number.l0, signal_Name.f, Option.bind_some]
    rw [wr (by omega) (by omega)]
    refine Ev.ite_pos (by omega) ?_
    rcases name_cases n with e | e
    · rw [e]; exact Ev.ite_pos (by rw [toL]) (ih _ (by omega) (by omega))
    · refine Ev.ite_neg (name_some e) (Ev.ite_neg (h1 n e) ?_)
      have := nums_rng e
      rw [show strconv_Itoa.f n = some ⟨(Lib.decDigits n.toNat).toArray⟩ from if_pos (by omega)]
      simp only [Option.bind_some]
      exact Ev.ite_neg (by rw [toM (Lib.decDigits n.toNat)]; exact h2 n e) (ih _ (by omega) (by omega))
theorem rnumber_out (s : ByteArray) (h1 : ∀ n ∈ nums, s.toList ≠ (Sg.sigName n).toList) (h2 : ∀ n ∈ nums, s.toList ≠ Lib.decDigits n.toNat) (d : Nat) : ∀ n : Int, 1 ≤ n → n + d = 21 → Ev (fun k => jobshellref25_Number.l0 k s n) (0, false) := by
  induction d with
  | zero =>
    intro n _ hn
    refine Ev.shift ?_
    simp only [jobshellref25_Number.l0]
    exact Ev.ite_neg (by omega) (Ev.pure' _)
  | succ d ih =>
    intro n h0 hn
    refine Ev.shift ?_
    simp only [jobshellref25_Number.l0, name_ref, Option.bind_some]
    rw [wr (by omega) (by omega)]
    refine Ev.ite_pos (by omega) ?_
    rcases name_cases n with e | e
    · rw [e]; exact Ev.ite_pos (by rw [toL]) (ih _ (by omega) (by omega))
    · refine Ev.ite_neg (name_some e) (Ev.ite_neg (h1 n e) ?_)
      have := nums_rng e
      rw [show strconv_Itoa.f n = some ⟨(Lib.decDigits n.toNat).toArray⟩ from if_pos (by omega)]
      simp only [Option.bind_some]
      exact Ev.ite_neg (by rw [toM (Lib.decDigits n.toNat)]; exact h2 n e) (ih _ (by omega) (by omega))
theorem signal_out (s : ByteArray) (h1 : ∀ n ∈ nums, (Sg.sigName n).toList ≠ s.toList) (d : Nat) : ∀ n : Int, 1 ≤ n → n + d = 21 → Ev (fun k => trap_Signal.l0 k s n) (0, false) := by
  induction d with
  | zero =>
    intro n _ hn
    refine Ev.shift ?_
    simp only [trap_Signal.l0]
    exact Ev.ite_neg (by omega) (Ev.pure' _)
  | succ d ih =>
    intro n h0 hn
    refine Ev.shift ?_
    simp only [trap_Signal.l0, signal_Name.f, Option.bind_some]
    rw [wr (by omega) (by omega)]
    refine Ev.ite_pos (by omega) ?_
    rcases name_cases n with e | e
    · rw [e]; exact Ev.ite_pos (by rw [toL]) (ih _ (by omega) (by omega))
    · exact Ev.ite_neg (name_some e) (Ev.ite_neg (h1 n e) (ih _ (by omega) (by omega)))
theorem rsignal_out (s : ByteArray) (h1 : ∀ n ∈ nums, s.toList ≠ [83, 73, 71] ++ (Sg.sigName n).toList) (hN : Ev (fun k => jobshellref25_Number.f k s) (0, false)) (d : Nat) : ∀ n : Int, 1 ≤ n → n + d = 21 → Ev (fun k => jobshellref34_Signal.l0 k s n) (0, false) := by
  induction d with
  | zero =>
    intro n _ hn
    refine Ev.shift ?_
    simp only [jobshellref34_Signal.l0]
    exact Ev.ite_neg (by omega) (hN.bind (Ev.pure' _))
  | succ d ih =>
    intro n h0 hn
    refine Ev.shift ?_
    simp only [jobshellref34_Signal.l0, name_ref, Option.bind_some]
    rw [wr (by omega) (by omega)]
    refine Ev.ite_pos (by omega) ?_
    rcases name_cases n with e | e
    · rw [e]; exact Ev.ite_pos (by rw [toL]) (ih _ (by omega) (by omega))
    · refine Ev.ite_neg (name_some e) (Ev.ite_pos (name_len e) (Ev.ite_neg ?_ (ih _ (by omega) (by omega))))
      rw [toL (_ ++ _), ByteArray.data_append, Array.toList_append]
      have := h1 n e
      rw [toL (Sg.sigName n)] at this
      exact this
theorem cut_yes {s : ByteArray} (h : s.toList.take 3 = [83, 73, 71]) : strings_CutPrefix.f s ⟨#[83, 73, 71]⟩ = some (⟨(s.toList.drop 3).toArray⟩, true) := by
  have hs : 3 ≤ s.size := by
    have := congrArg List.length h
    rw [List.length_take, toL] at this
    simp at this
    have e : s.data.size = s.size := rfl
    omega
  have e1 : (s.extract 0 3).toList = [83, 73, 71] := by
    rw [toL, ByteArray.data_extract, Array.toList_extract]
    simpa [toL] using h
  have e2 : s.extract 3 s.size = ⟨(s.toList.drop 3).toArray⟩ := by
    apply ByteArray.ext
    apply Array.toList_inj.1
    rw [ByteArray.data_extract, Array.toList_extract]
    have e : s.data.size = s.size := rfl
    rw [toL, ← e]
    simp
    exact List.take_of_length_le (by simp)
  unfold strings_CutPrefix.f stringslite_CutPrefix.f stringslite_HasPrefix.f
  have z : ((⟨#[83, 73, 71]⟩ : ByteArray).size : Int) = 3 := rfl
  rw [z, if_pos (by omega), if_pos (by omega), if_pos (by omega), Option.bind_some, show ((3 : Int).toNat) = 3 from rfl, e1, if_pos (by simp [toL]), if_pos (by omega), if_pos (by omega), Option.bind_some, e2]
theorem cut_no {s : ByteArray} (h : s.toList.take 3 ≠ [83, 73, 71]) : strings_CutPrefix.f s ⟨#[83, 73, 71]⟩ = some (s, false) := by
  unfold strings_CutPrefix.f stringslite_CutPrefix.f stringslite_HasPrefix.f
  have z : ((⟨#[83, 73, 71]⟩ : ByteArray).size : Int) = 3 := rfl
  rw [z]
  by_cases hs : (s.size : Int) ≥ 3
  · have e1 : (s.extract 0 3).toList = s.toList.take 3 := by
      rw [toL, ByteArray.data_extract, Array.toList_extract]
      simp [toL]
    have e2 : ((s.extract 0 3).toList == (⟨#[83, 73, 71]⟩ : ByteArray).toList) = false := by
      rw [beq_eq_false_iff_ne, e1, show (⟨#[83, 73, 71]⟩ : ByteArray).toList = [83, 73, 71] from toM [83, 73, 71]]; exact h
    rw [if_pos hs, if_pos (by omega), if_pos (by omega), Option.bind_some, show ((3 : Int).toNat) = 3 from rfl, e2, if_neg (by simp), Option.bind_some]
  · rw [if_neg hs, Option.bind_some, if_neg (by simp), Option.bind_some]
theorem TrapSignals : jobshelllaw34_TrapSignals.Pure := by
  intro s _
  refine Ev.get ?_
  simp only [jobshelllaw34_TrapSignals.f]
  by_cases h : (s.size : Int) > 100
  · exact Ev.ite_pos h awake_ev'
  refine Ev.ite_neg h ?_
  suffices hh : ∃ v, Ev (fun k => trap_Signal.f k s) v ∧ Ev (fun k => jobshellref34_Signal.f k s) v by
    obtain ⟨v, h1, h2⟩ := hh
    exact h1.bind (h2.bind (Ev.ite_pos rfl (Ev.ite_pos (by simp) awake_ev')))
  by_cases hw : s.data.toList ∈ words
  · obtain ⟨h1, h2⟩ := words_ok _ hw
    change (trap_Signal.f 100 s).isSome = true at h1
    change trap_Signal.f 100 s = jobshellref34_Signal.f 100 s at h2
    obtain ⟨v, hv⟩ := Option.isSome_iff_exists.1 h1
    exact ⟨v, Ev.mono (trap_Signal.mono s) hv, Ev.mono (jobshellref34_Signal.mono s) (h2.symm.trans hv)⟩
  · have w1 : s.toList ≠ [48] := fun e => hw (by rw [← toL, e]; simp [words])
    have w2 : s.toList ≠ [69, 88, 73, 84] := fun e => hw (by rw [← toL, e]; simp [words])
    have w3 : ∀ n ∈ nums, s.toList ≠ (Sg.sigName n).toList := fun n hn e => hw (by
      rw [← toL, e, toL]; simp only [words, List.mem_append, List.mem_map]; exact .inl (.inl (.inr ⟨n, hn, rfl⟩)))
    have w4 : ∀ n ∈ nums, s.toList ≠ Lib.decDigits n.toNat := fun n hn e => hw (by
      rw [← toL, e]; simp only [words, List.mem_append, List.mem_map]; exact .inl (.inr ⟨n, hn, rfl⟩))
    have w5 : ∀ n ∈ nums, s.toList ≠ [83, 73, 71] ++ (Sg.sigName n).toList := fun n hn e => hw (by
      rw [← toL, e, toL]; simp only [words, List.mem_append, List.mem_map]; exact .inr ⟨n, hn, rfl⟩)
    have b2 : (s.toList == ([69, 88, 73, 84] : List UInt8)) = false := beq_eq_false_iff_ne.mpr w2
    refine ⟨(0, false), ?_, ?_⟩
    · simp only [trap_Signal.f]
      refine Ev.ite_neg w1 ?_
      rw [b2]
      refine Ev.shift ?_
      simp only [trap_Signal.j0]
      refine Ev.ite_neg (by simp) ((number_out s w3 w4 20 1 (by omega) (by omega)).bind (Ev.ite_neg (by simp) ?_))
      by_cases hc : s.toList.take 3 = [83, 73, 71]
      · rw [cut_yes hc]
        simp only [Option.bind_some]
        refine Ev.ite_pos (by simp) (signal_out _ ?_ 20 1 (by omega) (by omega))
        intro n hn e
        refine w5 n hn ?_
        rw [e, toM (List.drop 3 s.toList)]
        rw [← hc, List.take_append_drop]
      · rw [cut_no hc]
        simp only [Option.bind_some]
        exact Ev.ite_neg (by simp) (Ev.pure' _)
    · simp only [jobshellref34_Signal.f]
      refine Ev.ite_neg w1 ?_
      rw [b2]
      refine Ev.shift ?_
      simp only [jobshellref34_Signal.j0]
      exact Ev.ite_neg (by simp) (rsignal_out s w5 (rnumber_out s w3 w4 20 1 (by omega) (by omega)) 20 1 (by omega) (by omega))
end Go.Proofs.YtphgcpoefpogfaaDoor.PS

import Derived.Test.YtphgcpoefpogfaaDoorPurQ
import Derived.Test.YtphgcpoefpogfaaDoorPurS
namespace Go.Proofs.YtphgcpoefpogfaaDoor.PS
open Go.RowKit Go.Proofs.YtphgcpoefpogfaaDoorW.PrintWords Go.Proofs.YtphgcpoefpogfaaDoorW.PrintLast Go.Proofs.YtphgcpoefpogfaaDoorW.PrintMore
set_option linter.unusedSimpArgs false
set_option linter.unusedVariables false

/-! ## TrapChanges -/
def nm (n : Int) : ByteArray := if n = 0 then ⟨#[69, 88, 73, 84]⟩ else if (Sg.sigName n).toList = [] then ⟨(Lib.decDigits n.toNat).toArray⟩ else Sg.sigName n
def qt (t : Tr) : ByteArray := ⟨(Ch.quoteL t.f1.data.toList).toArray⟩
def sh (t : Tr) : ByteArray := (((⟨#[116, 114, 97, 112, 32, 45, 45, 32]⟩ : ByteArray) ++ qt t) ++ (⟨#[32]⟩ : ByteArray)) ++ nm t.f0
theorem quoteL_len (l : List UInt8) : (Ch.quoteL l).length ≤ 4 * l.length + 2 := by
  unfold Ch.quoteL
  split
  · omega
  · have : (l.flatMap Ch.quoB).length ≤ 4 * l.length := Rep.quoAll_len l
    simp only [List.length_append, List.length_cons, List.length_nil]
    omega
theorem qt_size {t : Tr} (h : t.f1.size ≤ 500) : (qt t).size ≤ 2002 := by
  have := quoteL_len t.f1.data.toList
  have e : (qt t).size = (Ch.quoteL t.f1.data.toList).length := by simp [qt, ByteArray.size]
  have e2 : t.f1.data.toList.length = t.f1.size := Array.length_toList
  omega
theorem nm_size {n : Int} (h0 : 0 ≤ n) (h1 : n ≤ 20) : (nm n).size ≤ 100 ∧ (Sg.sigName n).size ≤ 100 := by
  have : ∀ m : Fin 21, (nm (m.val : Int)).size ≤ 100 ∧ (Sg.sigName (m.val : Int)).size ≤ 100 := by decide +kernel
  have := this ⟨n.toNat, by omega⟩
  rw [show ((n.toNat : Nat) : Int) = n by omega] at this
  exact this
theorem s8 : (⟨#[116, 114, 97, 112, 32, 45, 45, 32]⟩ : ByteArray).size = 8 := rfl
theorem s1 : (⟨#[32]⟩ : ByteArray).size = 1 := rfl
theorem tshow_loop (q : List Tr) : ∀ (p : List Tr) (acc : List ByteArray), (p ++ q).length ≤ 1000 → acc.length ≤ p.length → (∀ t ∈ q, t.f1.size ≤ 500) → (∀ t ∈ q, 0 ≤ t.f0 ∧ t.f0 ≤ 20) →
    Ev (fun k => trap_Show.l0 k acc (p ++ q) ((p ++ q).length : Int) (p.length : Int)) (acc ++ q.map sh) := by
  induction q with
  | nil =>
    intro p acc _ _ _ _
    refine Ev.shift ?_
    simp only [trap_Show.l0, List.map_nil, List.append_nil]
    exact Ev.ite_neg (by omega) (Ev.pure' _)
  | cons t q ih =>
    intro p acc hlen hacc hs hr
    have hl := len_mid p q t
    have hl2 : p.length + 1 + q.length ≤ 1000 := by omega
    have ih' := ih (p ++ [t]) (acc ++ [sh t]) (by simpa using hlen) (by simp; omega) (fun u hu => hs u (List.mem_cons_of_mem _ hu)) (fun u hu => hr u (List.mem_cons_of_mem _ hu))
    simp only [List.append_assoc, len_snoc, List.cons_append, List.nil_append] at ih'
    have z1 := hs t List.mem_cons_self
    have z0 := hr t List.mem_cons_self
    have zq := qt_size z1
    have zn := nm_size z0.1 z0.2
    have eq : chars_Quote.f t.f1 = some (qt t) := if_pos (by omega)
    refine Ev.shift ?_
    simp only [trap_Show.l0, rd_mid, wr1 p.length (by omega), signal_Name.f, Option.bind_some, eq, List.map_cons]
    refine Ev.ite_pos (by omega) (Ev.ite_pos (by omega) (Ev.ite_pos (by omega) ?_))
    unfold sh nm at ih'
    unfold nm at zn
    by_cases h0 : t.f0 = 0
    · rw [if_pos h0] at ih'
      rw [show sh t = (((⟨#[116, 114, 97, 112, 32, 45, 45, 32]⟩ : ByteArray) ++ qt t) ++ (⟨#[32]⟩ : ByteArray)) ++ (⟨#[69, 88, 73, 84]⟩ : ByteArray) from by unfold sh nm; rw [if_pos h0]]
      exact Ev.ite_pos h0 (Ev.ite_pos (by omega) (Ev.ite_pos (by rw [ByteArray.size_append, s8]; omega) (Ev.ite_pos (by rw [ByteArray.size_append, ByteArray.size_append, s8, s1]; omega) (Ev.ite_pos (by omega) ih'))))
    · rw [if_neg h0] at ih' zn
      refine Ev.ite_neg h0 ?_
      by_cases h1 : (Sg.sigName t.f0).toList = []
      · rw [if_pos h1] at ih' zn
        rw [show sh t = (((⟨#[116, 114, 97, 112, 32, 45, 45, 32]⟩ : ByteArray) ++ qt t) ++ (⟨#[32]⟩ : ByteArray)) ++ (⟨(Lib.decDigits t.f0.toNat).toArray⟩ : ByteArray) from by unfold sh nm; rw [if_neg h0, if_pos h1]]
        refine Ev.ite_pos h1 ?_
        rw [show strconv_Itoa.f t.f0 = some ⟨(Lib.decDigits t.f0.toNat).toArray⟩ from if_pos (by omega)]
        simp only [Option.bind_some]
        exact Ev.ite_pos (by omega) (Ev.ite_pos (by rw [ByteArray.size_append, s8]; omega) (Ev.ite_pos (by rw [ByteArray.size_append, ByteArray.size_append, s8, s1]; omega) (Ev.ite_pos (by omega) ih')))
      · rw [if_neg h1] at ih' zn
        rw [show sh t = (((⟨#[116, 114, 97, 112, 32, 45, 45, 32]⟩ : ByteArray) ++ qt t) ++ (⟨#[32]⟩ : ByteArray)) ++ Sg.sigName t.f0 from by unfold sh nm; rw [if_neg h0, if_neg h1]]
        exact Ev.ite_neg h1 (Ev.ite_pos (by omega) (Ev.ite_pos (by rw [ByteArray.size_append, s8]; omega) (Ev.ite_pos (by rw [ByteArray.size_append, ByteArray.size_append, s8, s1]; omega) (Ev.ite_pos (by omega) ih'))))
theorem rname_eq {n : Int} (h0 : 0 ≤ n) (h1 : n ≤ 20) : jobshellref34_name.f n = some (nm n) := by
  unfold jobshellref34_name.f nm
  rw [name_ref, Option.bind_some]
  by_cases c : n = 0
  · rw [if_pos c, if_pos c]
  · rw [if_neg c, if_neg c]
    by_cases c1 : (Sg.sigName n).toList = []
    · rw [if_pos c1, if_pos c1, show strconv_Itoa.f n = some ⟨(Lib.decDigits n.toNat).toArray⟩ from if_pos (by omega), Option.bind_some]
    · rw [if_neg c1, if_neg c1, Option.bind_some]
theorem rquote_ev (t : Tr) (h : t.f1.size ≤ 500) : Ev (fun k => jobshellref01_Quote.f k t.f1) (qt t) := ⟨1000, fun k hk => PQ.refQuote_eq t.f1 (by omega) k (by omega)⟩
theorem rshow_loop (q : List Tr) : ∀ (p : List Tr) (acc : List ByteArray), (p ++ q).length ≤ 1000 → acc.length ≤ p.length → (∀ t ∈ q, t.f1.size ≤ 500) → (∀ t ∈ q, 0 ≤ t.f0 ∧ t.f0 ≤ 20) →
    Ev (fun k => jobshellref34_Show.l0 k (p ++ q) acc (p.length : Int)) (acc ++ q.map sh) := by
  induction q with
  | nil =>
    intro p acc _ _ _ _
    refine Ev.shift ?_
    simp only [jobshellref34_Show.l0, List.map_nil, List.append_nil]
    exact Ev.ite_neg (by omega) (Ev.pure' _)
  | cons t q ih =>
    intro p acc hlen hacc hs hr
    have hl := len_mid p q t
    have hl2 : p.length + 1 + q.length ≤ 1000 := by omega
    have ih' := ih (p ++ [t]) (acc ++ [sh t]) (by simpa using hlen) (by simp; omega) (fun u hu => hs u (List.mem_cons_of_mem _ hu)) (fun u hu => hr u (List.mem_cons_of_mem _ hu))
    simp only [List.append_assoc, len_snoc, List.cons_append, List.nil_append] at ih'
    have z1 := hs t List.mem_cons_self
    have z0 := hr t List.mem_cons_self
    have zq := qt_size z1
    have zn := nm_size z0.1 z0.2
    refine Ev.shift ?_
    simp only [jobshellref34_Show.l0, rd_mid, wr1 p.length (by omega), rname_eq z0.1 z0.2, Option.bind_some, List.map_cons]
    refine Ev.ite_pos (by omega) (Ev.ite_pos (by omega) ((rquote_ev t z1).bind ?_))
    exact Ev.ite_pos (by omega) (Ev.ite_pos (by rw [ByteArray.size_append, s8]; omega) (Ev.ite_pos (by rw [ByteArray.size_append, ByteArray.size_append, s8, s1]; omega) (Ev.ite_pos (by omega) ih')))
theorem tshow_ev {l : List Tr} (h : OkL l) : Ev (fun k => trap_Show.f k l) (l.map sh) := tshow_loop l [] [] (by have := h.len; simp; omega) (by simp) h.siz h.rng
theorem rshow_ev {l : List Tr} (h : OkL l) : Ev (fun k => jobshellref34_Show.f k l) (l.map sh) := rshow_loop l [] [] (by have := h.len; simp; omega) (by simp) h.siz h.rng
theorem texts_loop (q : List ByteArray) : ∀ (p : List ByteArray), (p ++ q).length ≤ 1000 → Ev (fun k => jobshelllaw34_texts.l0 k (p ++ q) (p ++ q) (p.length : Int)) true := by
  induction q with
  | nil =>
    intro p _
    refine Ev.shift ?_
    simp only [jobshelllaw34_texts.l0]
    exact Ev.ite_neg (by simp) (Ev.pure' _)
  | cons t q ih =>
    intro p hlen
    have hl := len_mid p q t
    have ih' := ih (p ++ [t]) (by simpa using hlen)
    simp only [List.append_assoc, len_snoc, List.cons_append, List.nil_append] at ih'
    refine Ev.shift ?_
    simp only [jobshelllaw34_texts.l0, wr1 p.length (by omega)]
    exact Ev.ite_pos (by omega) (Ev.ite_pos (by omega) (Ev.ite_pos (by omega) (Ev.ite_pos (by simp) ih')))
theorem texts_ev {l : List ByteArray} (h : l.length ≤ 1000) : Ev (fun k => jobshelllaw34_texts.f k l l) true := by
  simp only [jobshelllaw34_texts.f]
  exact Ev.ite_pos (by simp) (texts_loop l [] (by simpa using h))
theorem rres_loop (sig : Int) (q : List Tr) : ∀ (p acc : List Tr), (p ++ q).length ≤ 1000 → acc.length ≤ p.length → Ev (fun k => jobshellref34_Reset.l0 k (p ++ q) sig acc (p.length : Int)) (acc ++ resL q sig) := by
  induction q with
  | nil =>
    intro p acc _ _
    refine Ev.shift ?_
    simp only [jobshellref34_Reset.l0, resL, List.filter_nil, List.append_nil]
    exact Ev.ite_neg (by omega) (Ev.pure' _)
  | cons t q ih =>
    intro p acc hlen hacc
    have hl := len_mid p q t
    have hl2 : p.length + 1 + q.length ≤ 1000 := by omega
    have ih' := fun acc h => ih (p ++ [t]) acc (by simpa using hlen) h
    simp only [List.append_assoc, len_snoc, List.cons_append, List.nil_append] at ih'
    refine Ev.shift ?_
    simp only [jobshellref34_Reset.l0, rd_mid, wr1 p.length (by omega)]
    refine Ev.ite_pos (by omega) (Ev.ite_pos (by omega) ?_)
    unfold resL
    by_cases h : t.f0 = sig
    · rw [List.filter_cons_of_neg (by simp [h])]
      exact Ev.ite_pos h (ih' acc (by simp; omega))
    · rw [List.filter_cons_of_pos (by simp [h])]
      have := ih' (acc ++ [t]) (by simp; omega)
      rw [List.append_assoc] at this
      exact Ev.ite_neg h (Ev.ite_pos (by omega) this)
theorem rres_ev {l : List Tr} (h : l.length ≤ 1000) (sig : Int) : Ev (fun k => jobshellref34_Reset.f k l sig) (resL l sig) := rres_loop sig l [] [] (by simpa using h) (by simp)
theorem rsub_loop (q : List Tr) : ∀ (p acc : List Tr), (p ++ q).length ≤ 1000 → acc.length ≤ p.length → Ev (fun k => jobshellref34_Sub.l0 k (p ++ q) acc (p.length : Int)) (acc ++ subL q) := by
  induction q with
  | nil =>
    intro p acc _ _
    refine Ev.shift ?_
    simp only [jobshellref34_Sub.l0, subL, List.filter_nil, List.append_nil]
    exact Ev.ite_neg (by omega) (Ev.pure' _)
  | cons t q ih =>
    intro p acc hlen hacc
    have hl := len_mid p q t
    have hl2 : p.length + 1 + q.length ≤ 1000 := by omega
    have ih' := fun acc h => ih (p ++ [t]) acc (by simpa using hlen) h
    simp only [List.append_assoc, len_snoc, List.cons_append, List.nil_append] at ih'
    refine Ev.shift ?_
    simp only [jobshellref34_Sub.l0, rd_mid, wr1 p.length (by omega)]
    refine Ev.ite_pos (by omega) (Ev.ite_pos (by omega) ?_)
    unfold subL
    by_cases h1 : t.f1.toList = []
    · refine Ev.ite_pos h1 ?_
      by_cases h : t.f0 = 0
      · rw [List.filter_cons_of_neg (by simp [h])]
        exact Ev.ite_pos h (ih' acc (by simp; omega))
      · rw [List.filter_cons_of_pos (by rw [h1]; simp [h])]
        have := ih' (acc ++ [t]) (by simp; omega)
        rw [List.append_assoc] at this
        exact Ev.ite_neg h (Ev.ite_pos (by omega) this)
    · rw [List.filter_cons_of_neg (by simp [h1])]
      exact Ev.ite_neg h1 (ih' acc (by simp; omega))
theorem rsub_ev {l : List Tr} (h : l.length ≤ 1000) : Ev (fun k => jobshellref34_Sub.f k l) (subL l) := rsub_loop l [] [] (by simpa using h) (by simp)
theorem TrapChanges (l : List S30) (sig : Int) (a : ByteArray) (hl : ∀ t ∈ l, (Lit.int .i64 t.f0).wf = true ∧ t.f1.size ≤ maxLen) (_ : (Lit.int .i64 sig).wf = true) (_ : a.size ≤ 140737488351232) : ∃ k, jobshelllaw34_TrapChanges.f k l sig a = some true := by
  refine Ev.get ?_
  simp only [jobshelllaw34_TrapChanges.f]
  have aw : ∀ x : Bool, x = true → Ev (fun k => jobshelllaw34_TrapChanges.j0 k l sig a x) true := by
    rintro x rfl
    refine Ev.shift ?_
    simp only [jobshelllaw34_TrapChanges.j0]
    exact Ev.ite_pos (by simp) awake_ev'
  obtain ⟨v, hb, hc⟩ := ok_ev l
  refine hb.bind ?_
  by_cases h1 : v = true
  · refine Ev.ite_pos h1 ?_
    have ok := hc h1
    have h30 := ok.len
    by_cases ha : (a.size : Int) > 500
    · exact aw _ (by simpa using ha)
    have l1 := setL_len l sig a
    have l4 : (resL l sig).length ≤ l.length := List.length_filter_le _ _
    have l5 : (subL l).length ≤ l.length := List.length_filter_le _ _
    refine Ev.shift ?_
    simp only [jobshelllaw34_TrapChanges.j0]
    refine Ev.ite_neg (by simpa using ha) ?_
    refine (tset_ev (l := l) (by omega) sig a).bind ?_
    refine (rset_ev ok sig a).bind ?_
    refine (sameL_ev (by omega)).bind (Ev.ite_pos (by simp) ?_)
    refine (tres_ev (l := l) (by omega) sig).bind ?_
    refine (rres_ev (l := l) (by omega) sig).bind ?_
    refine (sameL_ev (by omega)).bind (Ev.ite_pos (by simp) ?_)
    refine (tshow_ev ok).bind ?_
    refine (rshow_ev ok).bind ?_
    refine (texts_ev (by rw [List.length_map]; omega)).bind (Ev.ite_pos (by simp) ?_)
    refine (tsub_ev (l := l) (by omega)).bind ?_
    refine (rsub_ev (l := l) (by omega)).bind ?_
    exact (sameL_ev (by omega)).bind (Ev.ite_pos (by simp) awake_ev')
  · exact Ev.ite_neg h1 (aw _ rfl)
end Go.Proofs.YtphgcpoefpogfaaDoor.PS

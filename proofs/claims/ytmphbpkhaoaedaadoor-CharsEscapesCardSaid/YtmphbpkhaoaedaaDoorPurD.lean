import Derived.Test.YtmphbpkhaoaedaaDoorPurC
namespace Go.Proofs.YtmphbpkhaoaedaaDoor.PA
open Go.RowKit Go.Proofs.YtmphbpkhaoaedaaDoorW.PrintWords Go.Proofs.YtmphbpkhaoaedaaDoorW.PrintLast Go.Proofs.YtmphbpkhaoaedaaDoor.Ch
set_option linter.unusedSimpArgs false

/-! A string in double quotes. -/
def dq (c : UInt8) : List UInt8 := if isDbl c then [92, c] else [c]
theorem dbl_dq : ∀ (l m : List UInt8), dbl (l.flatMap dq ++ 34 :: m) = (l, m.length, 0)
  | [], m => dbl_34 m
  | c :: r, m => by
    have ih := dbl_dq r m
    rw [List.flatMap_cons, List.append_assoc]
    by_cases h : isDbl c = true
    · have h10 : ¬ c = 10 := by intro e; rw [e] at h; exact absurd h (by decide)
      rw [dq, if_pos h, List.cons_append, List.cons_append, List.nil_append, dbl_sp _ h h10, ih]; rfl
    · have c6 : ¬ c = 34 := by intro e; rw [e] at h; exact h (by decide)
      have c7 : ¬ (c = 36 ∨ c = 96) := by rintro (e | e) <;> (rw [e] at h; exact h (by decide))
      have c8 : ¬ c = 92 := by intro e; rw [e] at h; exact h (by decide)
      rw [dq, if_neg h, List.cons_append, List.nil_append, dbl_other _ c6 c7 c8, ih]; rfl
theorem unq_dq (l : List UInt8) : unquoteL (34 :: (l.flatMap dq ++ [34])) = (l, 0) := by
  unfold unquoteL
  have h := dbl_dq l []
  rw [List.length_cons, unq_34 _ (by rw [h]), h]
  dsimp only
  rw [List.length_nil, Nat.sub_zero, List.drop_length, unq_nil]
  simp [app]
theorem dq_len (l : List UInt8) : (l.flatMap dq).length ≤ 2 * l.length := by
  induction l with
  | nil => exact Nat.le_refl _
  | cons c r ih =>
    have : (dq c).length ≤ 2 := by unfold dq; split <;> simp
    simp only [List.flatMap_cons, List.length_append, List.length_cons]
    omega
theorem doubles_loop (s : ByteArray) (hs : s.size ≤ 1000) (d : Nat) : ∀ (i k : Nat) (acc : List UInt8), i + d = s.size → d < k → acc.length ≤ 2 * i + 1 → acc ++ (s.data.toList.drop i).flatMap dq = 34 :: s.data.toList.flatMap dq →
    jobshelllaw01_CharsDoubles.l0 k s (mkB acc) i = some true := by
  induction d with
  | zero =>
    intro i k acc hi hk ha he
    obtain ⟨k, rfl⟩ : ∃ m, k = m + 1 := ⟨k - 1, by omega⟩
    rw [drop_end s i (by omega), List.flatMap_nil, List.append_nil] at he
    have hl := dq_len s.data.toList
    have z : s.data.toList.length = s.size := rfl
    have hlen : (acc ++ [34]).length ≤ 10000000000 := by rw [List.length_append]; simp; omega
    simp only [jobshelllaw01_CharsDoubles.l0]
    rw [if_neg (by omega), if_pos (by rw [mkB_size]; omega), show (⟨#[34]⟩ : ByteArray) = mkB [34] from rfl, mkB_append, unquote_mk _ hlen, Option.bind_some, he, List.cons_append, unq_dq]
    dsimp only
    rw [if_pos rfl, mkB_self, if_pos rfl, awake_true]
    rfl
  | succ d ih =>
    intro i k acc hi hk ha he
    obtain ⟨k, rfl⟩ : ∃ m, k = m + 1 := ⟨k - 1, by omega⟩
    have hlt : i < s.size := by omega
    rw [drop_cons s i hlt, List.flatMap_cons, ← List.append_assoc] at he
    have e1 : (⟨#[92]⟩ : ByteArray) = mkB [92] := rfl
    simp only [jobshelllaw01_CharsDoubles.l0]
    rw [if_pos (by omega), if_pos (by omega), bt_nat s i hlt, wr1 i (by omega), toN, toN, ext1 s i hlt, e1]
    have spec : ∀ (h : isDbl s[i] = true), (if (mkB acc).size + 1 ≤ 9223372036854775807 then (if (i : Int) ≤ ((i + 1 : Nat) : Int) then (if ((i + 1 : Nat) : Int) ≤ (s.size : Int) then (if (mkB acc ++ mkB [92]).size + (mkB [s[i]]).size ≤ 9223372036854775807 then (jobshelllaw01_CharsDoubles.l0 k s ((mkB acc ++ mkB [92]) ++ mkB [s[i]]) ((i + 1 : Nat) : Int)) else (none)) else (none)) else (none)) else (none)) = some true := by
      intro h
      rw [dq, if_pos h] at he
      rw [mkB_append, mkB_append, mkB_size, mkB_size, mkB_size, if_pos (by omega), if_pos (by omega), if_pos (by omega), if_pos (by simp; omega), ih (i + 1) k _ (by omega) (by omega) (by simp; omega) (by rw [← he]; simp)]
    by_cases c1 : s[i] = 36
    · rw [if_pos (by rw [c1]; rfl)]; exact spec (by rw [c1]; decide)
    rw [if_neg (i_ne 36 c1 rfl)]
    by_cases c2 : s[i] = 96
    · rw [if_pos (by rw [c2]; rfl)]; exact spec (by rw [c2]; decide)
    rw [if_neg (i_ne 96 c2 rfl)]
    by_cases c3 : s[i] = 34
    · rw [if_pos (by rw [c3]; rfl)]; exact spec (by rw [c3]; decide)
    rw [if_neg (i_ne 34 c3 rfl)]
    by_cases c4 : s[i] = 92
    · rw [if_pos (by rw [c4]; rfl)]; exact spec (by rw [c4]; decide)
    have h : isDbl s[i] = false := by unfold isDbl; simp [c1, c2, c3, c4]
    rw [dq, if_neg (by rw [h]; decide)] at he
    rw [if_neg (i_ne 92 c4 rfl), if_pos (by omega), if_pos (by omega), if_pos (by rw [mkB_size, mkB_size]; simp; omega), mkB_append, ih (i + 1) k _ (by omega) (by omega) (by simp; omega) he]
theorem CharsDoubles : jobshelllaw01_CharsDoubles.Pure := by
  intro s _
  refine ⟨2000, ?_⟩
  unfold jobshelllaw01_CharsDoubles.f
  by_cases h : (s.size : Int) > 1000
  · rw [if_pos h, awake_true]; rfl
  have hL : jobshelllaw01_CharsDoubles.l0 2000 s (mkB [34]) 0 = some true := doubles_loop s (by omega) s.size 0 2000 [34] (by omega) (by omega) (by simp) (by rw [List.drop_zero]; rfl)
  rw [if_neg h]
  exact hL

/-! Escape and Unescape. -/
theorem escape_at (c : UInt8) : jobshellref01_escape.f (c.toNat : Int) = some (mkB (escB c)) := by
  obtain ⟨h0, h1⟩ := u8_facts c
  unfold jobshellref01_escape.f
  rw [if_pos ⟨h0, h1⟩]
  simp [mkB]
theorem escape_loop (s : ByteArray) (hs : s.size ≤ 1000000) (d : Nat) : ∀ (i k : Nat) (acc : List UInt8), i + d = s.size → d < k → acc.length ≤ 4 * i →
    jobshellref01_Escape.l0 k s (mkB acc) i = some (mkB (acc ++ escapeL (s.data.toList.drop i))) := by
  induction d with
  | zero =>
    intro i k acc hi hk ha
    obtain ⟨k, rfl⟩ : ∃ m, k = m + 1 := ⟨k - 1, by omega⟩
    simp only [jobshellref01_Escape.l0]
    rw [if_neg (by omega), drop_end s i (by omega)]
    simp [escapeL]
  | succ d ih =>
    intro i k acc hi hk ha
    obtain ⟨k, rfl⟩ : ∃ m, k = m + 1 := ⟨k - 1, by omega⟩
    have hlt : i < s.size := by omega
    have h4 := escB_len s[i]
    simp only [jobshellref01_Escape.l0]
    rw [if_pos (by omega), if_pos (by omega), bt_nat s i hlt, escape_at, Option.bind_some, wr1 i (by omega), if_pos (by rw [mkB_size, mkB_size]; omega), mkB_append, ih (i + 1) k _ (by omega) (by omega) (by rw [List.length_append]; omega), drop_cons s i hlt]
    simp [escapeL]
theorem refEscape_eq (s : ByteArray) (hs : s.size ≤ 1000000) (k : Nat) (hk : s.size < k) : jobshellref01_Escape.f k s = some (mkB (escapeL s.data.toList)) := by
  have hL : jobshellref01_Escape.l0 k s (mkB []) 0 = _ := escape_loop s hs s.size 0 k [] (by omega) hk (by simp)
  rw [List.drop_zero] at hL
  exact hL
theorem escB_print (c : UInt8) : (escB c).all (fun d => !(d < 32 || 126 < d)) = true := by
  refine u8_all (p := fun c => (escB c).all (fun d => !(d < 32 || 126 < d)) = true) ?_ c
  decide +kernel
theorem escapeL_print (l : List UInt8) : (escapeL l).all (fun d => !(d < 32 || 126 < d)) = true := by
  induction l with
  | nil => rfl
  | cons c r ih =>
    show (escB c ++ escapeL r).all _ = true
    rw [List.all_append, escB_print, ih]; rfl
theorem hex_back (c : UInt8) : (c < 32 || 126 < c) = true → c ≠ 10 → c ≠ 9 → c ≠ 92 → hexL [hexD (c / 16), hexD (c % 16)] = ((c.toNat : Int), 0) := by
  refine u8_all (p := fun c => (c < 32 || 126 < c) = true → c ≠ 10 → c ≠ 9 → c ≠ 92 → hexL [hexD (c / 16), hexD (c % 16)] = ((c.toNat : Int), 0)) ?_ c
  decide +kernel
theorem hexL_two (a b : UInt8) (r : List UInt8) : hexL (a :: b :: r) = hexL [a, b] := by
  by_cases c : hexV a < 0 ∨ (1 < hexV a ∧ hexV a < 7)
  · rw [hexL_1 _ c, hexL_1 _ c]
  · by_cases d : hexV b < 0 ∨ (16 * hexV a + hexV b) = 10 ∨ (16 * hexV a + hexV b) = 9 ∨ (32 ≤ (16 * hexV a + hexV b) ∧ (16 * hexV a + hexV b) ≤ 126)
    · rw [hexL_3 _ c d, hexL_3 _ c d]
    · rw [hexL_4 _ c d, hexL_4 _ c d]
theorem unesc_escB (c : UInt8) (r : List UInt8) : unesc (escB c ++ r) = app [c] (unesc r) := by
  unfold escB
  by_cases c1 : c = 10
  · subst c1; exact unesc_n r
  rw [if_neg c1]
  by_cases c2 : c = 9
  · subst c2; exact unesc_t r
  rw [if_neg c2]
  by_cases c3 : c = 92
  · subst c3; exact unesc_b r
  rw [if_neg c3]
  by_cases c4 : (c < 32 || 126 < c) = true
  · have hb := hex_back c c4 c1 c2 c3
    have hx : hexL (hexD (c / 16) :: hexD (c % 16) :: r) = ((c.toNat : Int), 0) := by rw [hexL_two, hb]
    rw [if_pos c4]
    show unesc (92 :: 120 :: hexD (c / 16) :: hexD (c % 16) :: r) = _
    rw [unesc_x _ _ r (by rw [hx]), hx]
    simp
  · rw [if_neg c4]
    exact unesc_plain r c4 c3
theorem unesc_escapeL (l : List UInt8) : unesc (escapeL l) = (l, 0) := by
  induction l with
  | nil => exact unesc_nil
  | cons c r ih =>
    show unesc (escB c ++ escapeL r) = _
    rw [unesc_escB, ih]; rfl
theorem escape_mk (s : ByteArray) (h : s.size ≤ 10000000000) : chars_Escape.f s = some (mkB (escapeL s.data.toList)) := by
  unfold chars_Escape.f; rw [if_pos h]; rfl
theorem unescape_mk (s : ByteArray) (h : s.size ≤ 10000000000) : chars_Unescape.f s = some (mkB (unesc s.data.toList).1, (unesc s.data.toList).2) := by
  unfold chars_Unescape.f; rw [if_pos h]; rfl
theorem unescape_mkl (l : List UInt8) (h : l.length ≤ 10000000000) : chars_Unescape.f (mkB l) = some (mkB (unesc l).1, (unesc l).2) := unescape_mk (mkB l) (by rw [mkB_size]; exact h)
theorem escapes_loop (s : ByteArray) (hs : s.size ≤ 500) (d : Nat) : ∀ (i k : Nat), i + d = (escapeL s.data.toList).length → d + 600 < k →
    jobshelllaw01_CharsEscapes.l0 k s (mkB (escapeL s.data.toList)) i = some true := by
  have hl := escapeL_len s.data.toList
  have z : s.data.toList.length = s.size := rfl
  induction d with
  | zero =>
    intro i k hi hk
    obtain ⟨k, rfl⟩ : ∃ m, k = m + 1 := ⟨k - 1, by omega⟩
    simp only [jobshelllaw01_CharsEscapes.l0]
    rw [if_neg (by rw [mkB_size]; omega), unescape_mkl _ (by omega), Option.bind_some, refEscape_eq s (by omega) _ (by omega), Option.bind_some, if_pos rfl, unesc_escapeL]
    dsimp only
    rw [mkB_self, if_pos rfl, if_pos rfl, awake_true]; rfl
  | succ d ih =>
    intro i k hi hk
    obtain ⟨k, rfl⟩ : ∃ m, k = m + 1 := ⟨k - 1, by omega⟩
    have hz : (mkB (escapeL s.data.toList)).size = (escapeL s.data.toList).length := mkB_size _
    have hlt : i < (mkB (escapeL s.data.toList)).size := by omega
    have hp : ¬ (((mkB (escapeL s.data.toList))[i]'hlt) < 32 || 126 < ((mkB (escapeL s.data.toList))[i]'hlt)) = true := by
      have := List.all_eq_true.1 (escapeL_print s.data.toList) ((mkB (escapeL s.data.toList))[i]'hlt) (List.getElem_mem _)
      simpa using this
    have hq : ¬ ((((mkB (escapeL s.data.toList))[i]'hlt).toNat : Int) < 32 ∨ 126 < (((mkB (escapeL s.data.toList))[i]'hlt).toNat : Int)) := fun e => hp ((unprint _).2 e)
    simp only [jobshelllaw01_CharsEscapes.l0]
    rw [if_pos (by omega), if_pos (by omega), bt_nat _ i hlt, if_neg (by omega), if_neg (by omega), wr1 i (by omega), ih (i + 1) k (by omega) (by omega)]
theorem CharsEscapes : jobshelllaw01_CharsEscapes.Pure := by
  intro s _
  refine ⟨3000, ?_⟩
  unfold jobshelllaw01_CharsEscapes.f
  by_cases h : (s.size : Int) > 500
  · rw [if_pos h, awake_true]; rfl
  have hl := escapeL_len s.data.toList
  have z : s.data.toList.length = s.size := rfl
  have hL : jobshelllaw01_CharsEscapes.l0 3000 s (mkB (escapeL s.data.toList)) 0 = some true := escapes_loop s (by omega) (escapeL s.data.toList).length 0 3000 (by omega) (by omega)
  rw [if_neg h, escape_mk s (by omega), Option.bind_some]
  exact hL
end Go.Proofs.YtmphbpkhaoaedaaDoor.PA

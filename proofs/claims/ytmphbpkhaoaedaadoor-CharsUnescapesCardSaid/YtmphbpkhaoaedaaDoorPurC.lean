import Derived.Test.YtmphbpkhaoaedaaDoorPurB
namespace Go.Proofs.YtmphbpkhaoaedaaDoor.PA
open Go.RowKit Go.Proofs.YtmphbpkhaoaedaaDoorW.PrintWords Go.Proofs.YtmphbpkhaoaedaaDoorW.PrintLast Go.Proofs.YtmphbpkhaoaedaaDoor.Ch
set_option linter.unusedSimpArgs false

theorem ib_ne {c d : UInt8} (m : Int) (h : ¬ c = d) (hm : (d.toNat : Int) = m) : ((c.toNat : Int) == m) = false := b_ne h hm
theorem ib_eq {c d : UInt8} (m : Int) (h : c = d) (hm : (d.toNat : Int) = m) : ((c.toNat : Int) == m) = true := b_eq h hm

theorem piece_j1 (s : ByteArray) (i k : Nat) (c : UInt8) (h92 : ¬ c = 92) (hk : 0 < k) (hlt : i < s.size) (hs : s.size ≤ 1000000) (hc : s[i] = c) :
    jobshellref01_piece.j1 k s i (c.toNat : Int) false = if isOp c = true then some (mkB [], 0, 6) else some (mkB [c], ((i + 1 : Nat) : Int), 0) := by
  obtain ⟨k, rfl⟩ : ∃ m, k = m + 1 := ⟨k - 1, by omega⟩
  simp only [jobshellref01_piece.j1]
  rw [if_neg (by decide), if_neg (i_ne 92 h92 rfl)]
  unfold jobshellref01_Blank.f jobshellref01_OpByte.f
  by_cases h9 : c = 9
  · subst h9; rfl
  by_cases h32 : c = 32
  · subst h32; rfl
  by_cases h10 : c = 10
  · subst h10; rfl
  by_cases h38 : c = 38
  · subst h38; rfl
  by_cases h124 : c = 124
  · subst h124; rfl
  by_cases h59 : c = 59
  · subst h59; rfl
  by_cases h40 : c = 40
  · subst h40; rfl
  by_cases h41 : c = 41
  · subst h41; rfl
  by_cases h60 : c = 60
  · subst h60; rfl
  by_cases h62 : c = 62
  · subst h62; rfl
  by_cases h36 : c = 36
  · subst h36; rfl
  by_cases h96 : c = 96
  · subst h96; rfl
  have hop : isOp c = false := by unfold isOp; simp [h9, h32, h10, h38, h124, h59, h40, h41, h60, h62, h36, h96]
  rw [hop, if_neg (show ¬ (false = true) by decide)]
  rw [if_neg (i_ne 9 h9 rfl), ib_ne 32 h32 rfl, Option.bind_some, if_neg (show ¬ (false = true) by decide), if_neg (i_ne 10 h10 rfl)]
  rw [if_neg (i_ne 38 h38 rfl), if_neg (i_ne 124 h124 rfl), if_neg (i_ne 59 h59 rfl), if_neg (i_ne 40 h40 rfl), if_neg (i_ne 41 h41 rfl), if_neg (i_ne 60 h60 rfl), ib_ne 62 h62 rfl, Option.bind_some, if_neg (show ¬ (false = true) by decide), if_neg (i_ne 36 h36 rfl), if_neg (i_ne 96 h96 rfl)]
  rw [wr1 i (by omega), if_pos (by omega), if_pos (by omega), if_pos (by omega), toN, toN, ext1 s i hlt, hc]
theorem piece_39 (s : ByteArray) (hs : s.size ≤ 1000000) (i k : Nat) (hlt : i < s.size) (hk : 3 * s.size + 12 < k) (c : s[i] = 39) : jobshellref01_piece.f k s i = jobshellref01_single.f k s i := by
  unfold jobshellref01_piece.f
  rw [if_pos (by omega), if_pos (by omega), bt_nat s i hlt, if_pos (by rw [c]; rfl), single_eq s hs i k hlt (by omega)]
  split <;> rfl
theorem piece_34 (s : ByteArray) (hs : s.size ≤ 1000000) (i k : Nat) (hlt : i < s.size) (hk : 3 * s.size + 12 < k) (c : s[i] = 34) : jobshellref01_piece.f k s i = some (dblOut s (dbl (s.data.toList.drop (i + 1)))) := by
  unfold jobshellref01_piece.f
  rw [if_pos (by omega), if_pos (by omega), bt_nat s i hlt, if_neg (by rw [c]; decide), if_pos (by rw [c]; rfl), double_eq s hs i k hlt (by omega)]
  rfl
theorem piece_92e (s : ByteArray) (hs : s.size ≤ 1000000) (i k : Nat) (hlt : i < s.size) (hk : 3 * s.size + 12 < k) (c : s[i] = 92) (he : i + 1 = s.size) : jobshellref01_piece.f k s i = some (mkB [], 0, 7) := by
  obtain ⟨k, rfl⟩ : ∃ m, k = m + 1 := ⟨k - 1, by omega⟩
  unfold jobshellref01_piece.f
  have hb : (wrap64 ((i : Int) + 1) == (s.size : Int)) = true := by rw [wr1 i (by omega), beq_iff_eq]; omega
  rw [if_pos (by omega), if_pos (by omega), bt_nat s i hlt, if_neg (by rw [c]; decide), if_neg (by rw [c]; decide), if_pos (by rw [c]; rfl), hb]
  rfl
theorem piece_92 (s : ByteArray) (hs : s.size ≤ 1000000) (i k : Nat) (hlt : i + 1 < s.size) (hk : 3 * s.size + 12 < k) (c : s[i] = 92) : jobshellref01_piece.f k s i = if s[i + 1] = 10 then some (mkB [], ((i + 2 : Nat) : Int), 0) else some (mkB [s[i + 1]], ((i + 2 : Nat) : Int), 0) := by
  obtain ⟨k, rfl⟩ : ∃ m, k = m + 2 := ⟨k - 2, by omega⟩
  have hlt0 : i < s.size := by omega
  unfold jobshellref01_piece.f
  have hb : (wrap64 ((i : Int) + 1) == (s.size : Int)) = false := by rw [wr1 i (by omega), beq_eq_false_iff_ne]; omega
  have h92 : (s[i].toNat : Int) = 92 := by rw [c]; rfl
  rw [if_pos (by omega), if_pos (by omega), bt_nat s i hlt0, h92, if_neg (by decide), if_neg (by decide), if_pos rfl, hb]
  simp only [jobshellref01_piece.j0]
  rw [if_neg (by decide), if_pos trivial, wr1 i (by omega), if_pos (by omega), if_pos (by omega), bt_nat s (i + 1) hlt]
  simp only [jobshellref01_piece.j1]
  by_cases h : s[i + 1] = 10
  · rw [ib_eq 10 h rfl, if_pos rfl, if_pos h, wr2 i (by omega)]; rfl
  · rw [ib_ne 10 h rfl, if_neg (by decide), if_pos trivial, wr1 i (by omega), wr2 i (by omega), if_pos (by omega), if_pos (by omega), if_pos (by omega), toN, toN, if_neg h, ext1 s (i + 1) hlt]
theorem piece_o (s : ByteArray) (hs : s.size ≤ 1000000) (i k : Nat) (hlt : i < s.size) (hk : 3 * s.size + 12 < k) (c1 : ¬ s[i] = 39) (c2 : ¬ s[i] = 34) (c3 : ¬ s[i] = 92) :
    jobshellref01_piece.f k s i = if isOp s[i] = true then some (mkB [], 0, 6) else some (mkB [s[i]], ((i + 1 : Nat) : Int), 0) := by
  obtain ⟨k, rfl⟩ : ∃ m, k = m + 1 := ⟨k - 1, by omega⟩
  unfold jobshellref01_piece.f
  rw [if_pos (by omega), if_pos (by omega), bt_nat s i hlt, if_neg (i_ne 39 c1 rfl), if_neg (i_ne 34 c2 rfl), if_neg (i_ne 92 c3 rfl)]
  simp only [jobshellref01_piece.j0]
  rw [if_neg (by decide), if_neg (i_ne 92 c3 rfl), piece_j1 s i k s[i] c3 (by omega) hlt hs rfl]

def unqOut (x : List UInt8 × Int) : ByteArray × Int := (mkB x.1, x.2)
theorem unq_loop (s : ByteArray) (hs : s.size ≤ 1000000) (d : Nat) : ∀ (i k f : Nat) (acc : List UInt8), i + d = s.size → d + (3 * s.size + 20) < k → acc.length ≤ i → d ≤ f →
    jobshellref01_Unquote.l0 k s (mkB acc) i = some (unqOut (app acc (unq f (s.data.toList.drop i)))) := by
  induction d using Nat.strongRecOn with
  | _ d ih =>
  intro i k f acc hi hk ha hf
  obtain ⟨k, rfl⟩ : ∃ m, k = m + 1 := ⟨k - 1, by omega⟩
  simp only [jobshellref01_Unquote.l0]
  by_cases hlt : i < s.size
  · obtain ⟨f, rfl⟩ : ∃ m, f = m + 1 := ⟨f - 1, by omega⟩
    rw [if_pos (by omega), drop_cons s i hlt]
    by_cases c1 : s[i] = 39
    · rw [piece_39 s hs i k hlt (by omega) c1, single_eq s hs i k hlt (by omega), c1]
      by_cases hq : (39 : UInt8) ∈ s.data.toList.drop (i + 1)
      · have hl := tw_len hq
        rw [drop_len] at hl
        rw [if_pos hq, Option.bind_some, if_pos rfl, if_pos (by rw [mkB_size, mkB_size]; omega), mkB_append, ih (s.size - (i + ((s.data.toList.drop (i + 1)).takeWhile (· != 39)).length + 2)) (by omega) _ k f _ (by omega) (by omega) (by rw [List.length_append]; omega) (by omega), unq_39 f hq, app_app, List.drop_drop]
        rw [show i + 1 + (((s.data.toList.drop (i + 1)).takeWhile (· != 39)).length + 1) = i + ((s.data.toList.drop (i + 1)).takeWhile (· != 39)).length + 2 by omega]
      · rw [if_neg hq, Option.bind_some, if_neg (by decide), unq_39_no f hq, app_err _ (by decide)]; rfl
    by_cases c2 : s[i] = 34
    · rw [piece_34 s hs i k hlt (by omega) c2, Option.bind_some, c2]
      unfold dblOut
      by_cases hq : (dbl (s.data.toList.drop (i + 1))).2.2 = 0
      · have hl := dbl_len _ hq
        rw [drop_len] at hl
        rw [if_pos hq]
        dsimp only
        rw [if_pos rfl, if_pos (by rw [mkB_size, mkB_size]; omega), mkB_append, unq_34 f hq, app_app, drop_len, List.drop_drop,
          show ((s.size : Int) - ((dbl (s.data.toList.drop (i + 1))).2.1 : Int)) = ((s.size - (dbl (s.data.toList.drop (i + 1))).2.1 : Nat) : Int) by omega,
          ih (dbl (s.data.toList.drop (i + 1))).2.1 (by omega) _ k f _ (by omega) (by omega) (by rw [List.length_append]; omega) (by omega),
          show i + 1 + (s.size - (i + 1) - (dbl (s.data.toList.drop (i + 1))).2.1) = s.size - (dbl (s.data.toList.drop (i + 1))).2.1 by omega]
      · rw [if_neg hq]
        dsimp only
        rw [if_neg hq, unq_34_no f hq, app_err _ hq]; rfl
    by_cases c3 : s[i] = 92
    · by_cases he : i + 1 = s.size
      · rw [piece_92e s hs i k hlt (by omega) c3 he, Option.bind_some, if_neg (by decide), c3, drop_end s (i + 1) (by omega), unq_92e, app_err _ (by decide)]; rfl
      have hlt1 : i + 1 < s.size := by omega
      rw [piece_92 s hs i k hlt1 (by omega) c3, c3, drop_cons s (i + 1) hlt1]
      by_cases c4 : s[i + 1] = 10
      · rw [if_pos c4, Option.bind_some, if_pos rfl, if_pos (by rw [mkB_size, mkB_size]; simp; omega), mkB_append, List.append_nil, ih (d - 2) (by omega) (i + 2) k f acc (by omega) (by omega) (by omega) (by omega), c4, unq_92_10]
      · rw [if_neg c4, Option.bind_some, if_pos rfl, if_pos (by rw [mkB_size, mkB_size]; simp; omega), mkB_append, ih (d - 2) (by omega) (i + 2) k f _ (by omega) (by omega) (by simp; omega) (by omega), unq_92 f _ c4, app_app]
    · rw [piece_o s hs i k hlt (by omega) c1 c2 c3]
      by_cases c4 : isOp s[i] = true
      · rw [if_pos c4, Option.bind_some, if_neg (by decide), unq_op f _ c1 c2 c3 c4, app_err _ (by decide)]; rfl
      · rw [if_neg c4, Option.bind_some, if_pos rfl, if_pos (by rw [mkB_size, mkB_size]; simp; omega), mkB_append, ih (d - 1) (by omega) (i + 1) k f _ (by omega) (by omega) (by simp; omega) (by omega), unq_other f _ c1 c2 c3 c4, app_app]
  · rw [if_neg (by omega), drop_end s i hlt, unq_nil]
    simp [app, unqOut]
theorem refUnquote_eq (s : ByteArray) (hs : s.size ≤ 1000000) (k : Nat) (hk : 4 * s.size + 20 < k) : jobshellref01_Unquote.f k s = some (unqOut (unquoteL s.data.toList)) := by
  unfold jobshellref01_Unquote.f
  have hL : jobshellref01_Unquote.l0 k s (mkB []) 0 = _ := unq_loop s hs s.size 0 k s.size [] (by omega) (by omega) (by simp) (by omega)
  rw [unq_norm, List.drop_zero] at hL
  exact hL
theorem CharsUnquotes : jobshelllaw01_CharsUnquotes.Pure := by
  intro s _
  unfold jobshelllaw01_CharsUnquotes.f
  by_cases h : (s.size : Int) > 1000
  · exact ⟨0, by rw [if_pos h, awake_true]; rfl⟩
  refine ⟨10000, ?_⟩
  rw [if_neg h, chars_Unquote.f, if_pos (by omega), Option.bind_some, refUnquote_eq s (by omega) _ (by omega), Option.bind_some]
  unfold unqOut
  dsimp only
  rw [show (⟨(unquoteL s.data.toList).1.toArray⟩ : ByteArray) = mkB (unquoteL s.data.toList).1 from rfl, if_pos rfl, if_pos rfl, awake_true]
  rfl

/-! Back: a plain string, or one in single quotes, read in front of whatever follows. -/
theorem okB_not_op (c : UInt8) (h : okB c = true) : ¬ c = 39 ∧ ¬ c = 34 ∧ ¬ c = 92 ∧ isOp c = false := by
  have := u8_all (p := fun c => okB c = true → (c ≠ 39 ∧ c ≠ 34 ∧ c ≠ 92 ∧ isOp c = false)) (by decide +kernel) c
  exact this h
theorem unq_plain : ∀ (l m : List UInt8) (f : Nat), l.all okB = true → l.length ≤ f → unq f (l ++ m) = app l (unq (f - l.length) m)
  | [], m, f => fun _ _ => by rw [List.nil_append, unq_norm]; rfl
  | c :: r, m, f => fun h hf => by
    obtain ⟨f, rfl⟩ : ∃ g, f = g + 1 := ⟨f - 1, by simp at hf; omega⟩
    simp only [List.all_cons, Bool.and_eq_true] at h
    obtain ⟨h1, h2, h3, h4⟩ := okB_not_op c h.1
    rw [List.cons_append, unq_other f _ h1 h2 h3 (by rw [h4]; decide), unq_plain r m f h.2 (by simp at hf; omega), app_app]
    simp
/-- The parts of a string between its single quotes, each behind an opening quote. -/
theorem unq_quoted : ∀ (l m : List UInt8) (f : Nat), 4 * l.length + 2 ≤ f → ∃ g, f ≤ g + 4 * l.length + 2 ∧ unq f (39 :: (l.flatMap quoB ++ [39] ++ m)) = app l (unq g m) := by
  intro l
  generalize hn : l.length = n
  induction n using Nat.strongRecOn generalizing l with
  | _ n ih =>
  intro m f hf
  subst hn
  obtain ⟨f, rfl⟩ : ∃ g, f = g + 1 := ⟨f - 1, by omega⟩
  by_cases hq : (39 : UInt8) ∈ l
  · -- up to the first quote, then the escaped quote, then the rest
    obtain ⟨a, b, rfl, ha⟩ : ∃ a b, l = a ++ 39 :: b ∧ ¬ (39 : UInt8) ∈ a := by
      exact List.eq_append_cons_of_mem hq
    have hqa : a.flatMap quoB = a := by
      clear ih hf hq
      induction a with
      | nil => rfl
      | cons c r ihr =>
        simp only [List.mem_cons, not_or] at ha
        rw [List.flatMap_cons, ihr ha.2, quoB, if_neg (fun e => ha.1 e.symm)]; rfl
    have htw : ∀ (x : List UInt8), ((a ++ 39 :: x).takeWhile (· != 39)) = a := by
      clear ih hf hqa hq
      intro x
      induction a with
      | nil => simp
      | cons c r ihr =>
        simp only [List.mem_cons, not_or] at ha
        rw [List.cons_append, List.takeWhile_cons_of_pos (by simpa using fun e => ha.1 e.symm), ihr ha.2]
    simp only [List.length_append, List.length_cons] at hf
    obtain ⟨f, rfl⟩ : ∃ g, f = g + 1 := ⟨f - 1, by omega⟩
    obtain ⟨g, hg, e⟩ := ih b.length (by simp only [List.length_append, List.length_cons]; omega) b rfl m f (by omega)
    refine ⟨g, by simp only [List.length_append, List.length_cons]; omega, ?_⟩
    have e1 : (a ++ 39 :: b).flatMap quoB ++ [39] ++ m = a ++ 39 :: (92 :: 39 :: 39 :: (b.flatMap quoB ++ [39] ++ m)) := by
      rw [List.flatMap_append, List.flatMap_cons, hqa]
      simp [quoB]
    have e2 : (a ++ 39 :: (92 :: 39 :: 39 :: (b.flatMap quoB ++ [39] ++ m))).drop (a.length + 1) = 92 :: 39 :: 39 :: (b.flatMap quoB ++ [39] ++ m) := by
      rw [List.drop_append, List.drop_eq_nil_of_le (by omega), show a.length + 1 - a.length = 1 by omega]; rfl
    rw [e1, unq_39 _ (by simp), htw, e2, unq_92 f _ (by decide), e, app_app, app_app]
    simp
  · have hql : l.flatMap quoB = l := by
      clear ih hf
      induction l with
      | nil => rfl
      | cons c r ihr =>
        simp only [List.mem_cons, not_or] at hq
        rw [List.flatMap_cons, ihr hq.2, quoB, if_neg (fun e => hq.1 e.symm)]; rfl
    have htw : ((l ++ 39 :: m).takeWhile (· != 39)) = l := by
      clear ih hf hql
      induction l with
      | nil => simp
      | cons c r ihr =>
        simp only [List.mem_cons, not_or] at hq
        rw [List.cons_append, List.takeWhile_cons_of_pos (by simpa using fun e => hq.1 e.symm), ihr hq.2]
    refine ⟨f, by omega, ?_⟩
    rw [hql, show l ++ [39] ++ m = l ++ 39 :: m by simp, unq_39 f (by simp), htw, List.drop_append, List.drop_eq_nil_of_le (by omega), show l.length + 1 - l.length = 1 by omega]
    rfl
theorem quoteL_len (l : List UInt8) : (quoteL l).length ≤ 4 * l.length + 2 := by
  unfold quoteL
  split
  · omega
  · have : (l.flatMap quoB).length ≤ 4 * l.length := Rep.quoAll_len l
    simp only [List.length_append, List.length_cons, List.length_nil]
    omega
theorem unq_quoteL (l m : List UInt8) (f : Nat) (hf : 4 * l.length + 2 ≤ f) : ∃ g, f ≤ g + 4 * l.length + 2 ∧ unq f (quoteL l ++ m) = app l (unq g m) := by
  unfold quoteL
  by_cases h : plainL l = true
  · rw [if_pos h]
    unfold plainL at h
    simp only [Bool.and_eq_true] at h
    exact ⟨f - l.length, by omega, unq_plain l m f h.1 (by omega)⟩
  · rw [if_neg h]
    obtain ⟨g, h1, h2⟩ := unq_quoted l m f hf
    exact ⟨g, h1, by rw [← h2]; simp⟩
theorem unq_fuel : ∀ (f : Nat) (l : List UInt8), l.length ≤ f → unq f l = unq l.length l := by
  have key : ∀ (f g : Nat) (l : List UInt8), l.length ≤ f → l.length ≤ g → unq f l = unq g l := by
    intro f
    induction f with
    | zero => intro g l h1 h2; have : l = [] := List.eq_nil_of_length_eq_zero (by omega); rw [this, unq_nil, unq_nil]
    | succ f ih =>
      intro g l h1 h2
      match l, h1, h2 with
      | [], _, _ => rw [unq_nil, unq_nil]
      | c :: r, h1, h2 =>
        simp only [List.length_cons] at h1 h2
        obtain ⟨g, rfl⟩ : ∃ m, g = m + 1 := ⟨g - 1, by omega⟩
        by_cases c1 : c = 39
        · subst c1
          by_cases hq : (39 : UInt8) ∈ r
          · rw [unq_39 f hq, unq_39 g hq, ih g _ (by rw [List.length_drop]; omega) (by rw [List.length_drop]; omega)]
          · rw [unq_39_no f hq, unq_39_no g hq]
        by_cases c2 : c = 34
        · subst c2
          by_cases hq : (dbl r).2.2 = 0
          · rw [unq_34 f hq, unq_34 g hq, ih g _ (by rw [List.length_drop]; omega) (by rw [List.length_drop]; omega)]
          · rw [unq_34_no f hq, unq_34_no g hq]
        by_cases c3 : c = 92
        · subst c3
          match r, h1, h2 with
          | [], _, _ => rw [unq_92e, unq_92e]
          | d :: r, h1, h2 =>
            simp only [List.length_cons] at h1 h2
            by_cases c4 : d = 10
            · subst c4; rw [unq_92_10, unq_92_10, ih g r (by omega) (by omega)]
            · rw [unq_92 f _ c4, unq_92 g _ c4, ih g r (by omega) (by omega)]
        by_cases c4 : isOp c = true
        · rw [unq_op f _ c1 c2 c3 c4, unq_op g _ c1 c2 c3 c4]
        · rw [unq_other f _ c1 c2 c3 c4, unq_other g _ c1 c2 c3 c4, ih g r (by omega) (by omega)]
  exact fun f l h => key f l.length l h (Nat.le_refl _)
theorem back (a b : List UInt8) : unquoteL (quoteL a ++ quoteL b) = (a ++ b, 0) := by
  have hf := unq_fuel (4 * a.length + 2 + (4 * b.length + 2)) (quoteL a ++ quoteL b) (by rw [List.length_append]; have := quoteL_len a; have := quoteL_len b; omega)
  unfold unquoteL
  rw [← hf]
  obtain ⟨g, h1, h2⟩ := unq_quoteL a (quoteL b) (4 * a.length + 2 + (4 * b.length + 2)) (by omega)
  obtain ⟨g2, h3, h4⟩ := unq_quoteL b [] g (by omega)
  rw [List.append_nil] at h4
  rw [h2, h4, unq_nil, app_app]
  simp [app]
theorem quote_mk (s : ByteArray) (h : s.size ≤ 10000000000) : chars_Quote.f s = some (mkB (quoteL s.data.toList)) := by
  unfold chars_Quote.f; rw [if_pos h]; rfl
theorem unquote_mk (l : List UInt8) (h : l.length ≤ 10000000000) : chars_Unquote.f (mkB l) = some (mkB (unquoteL l).1, (unquoteL l).2) := by
  unfold chars_Unquote.f; rw [if_pos (by rw [mkB_size]; exact h)]; rfl
theorem CharsBack : jobshelllaw01_CharsBack.Pure := by
  intro s t _ _
  refine ⟨1, ?_⟩
  unfold jobshelllaw01_CharsBack.f
  by_cases h : (s.size : Int) > 1000
  · rw [if_pos h]
    simp only [jobshelllaw01_CharsBack.j0]
    rw [if_pos trivial, awake_true]; rfl
  rw [if_neg h]
  simp only [jobshelllaw01_CharsBack.j0]
  by_cases h2 : (t.size : Int) > 1000
  · rw [decide_eq_true h2, if_pos rfl, awake_true]; rfl
  have l1 := quoteL_len s.data.toList
  have l2 := quoteL_len t.data.toList
  have z1 : s.data.toList.length = s.size := rfl
  have z2 : t.data.toList.length = t.size := rfl
  have hab : mkB (s.data.toList ++ t.data.toList) = s ++ t := by rw [← mkB_append, mkB_self, mkB_self]
  rw [decide_eq_false h2, if_neg (by decide), quote_mk s (by omega), Option.bind_some, quote_mk t (by omega), Option.bind_some, mkB_size, mkB_size, if_pos (by omega), mkB_append, unquote_mk _ (by rw [List.length_append]; omega), Option.bind_some, back, hab]
  dsimp only
  rw [if_pos rfl, if_pos (by omega), if_pos rfl, awake_true]
  rfl
end Go.Proofs.YtmphbpkhaoaedaaDoor.PA

import Derived.Test.YtmphbpkhaoaedaaDoorPurD
namespace Go.Proofs.YtmphbpkhaoaedaaDoor.PA
open Go.RowKit Go.Proofs.YtmphbpkhaoaedaaDoorW.PrintWords Go.Proofs.YtmphbpkhaoaedaaDoorW.PrintLast Go.Proofs.YtmphbpkhaoaedaaDoor.Ch
set_option linter.unusedSimpArgs false

/-! One step of Unescape: the byte, how many bytes it takes, the error. -/
def stepU : List UInt8 → Int × Nat × Int
  | [] => (0, 0, 0)
  | c :: r =>
    if c < 32 || 126 < c then (0, 0, 6)
    else if c ≠ 92 then ((c.toNat : Int), 1, 0)
    else match r with
      | [] => (0, 0, 28)
      | d :: r' =>
        if d = 110 then (10, 2, 0) else if d = 116 then (9, 2, 0) else if d = 92 then (92, 2, 0)
        else if d = 120 then (if (hexL r').2 = 0 then ((hexL r').1, 4, 0) else (0, 0, (hexL r').2))
        else (0, 0, 6)
theorem stepU_bad {c : UInt8} (r : List UInt8) (h : (c < 32 || 126 < c) = true) : stepU (c :: r) = (0, 0, 6) := by rw [stepU.eq_def]; simp only [if_pos h]
theorem stepU_plain {c : UInt8} (r : List UInt8) (h : ¬ (c < 32 || 126 < c) = true) (h2 : ¬ c = 92) : stepU (c :: r) = ((c.toNat : Int), 1, 0) := by rw [stepU.eq_def]; simp only [if_neg h, if_pos h2, ne_eq]
theorem stepU_e : stepU [92] = (0, 0, 28) := rfl
theorem stepU_n (r : List UInt8) : stepU (92 :: 110 :: r) = (10, 2, 0) := rfl
theorem stepU_t (r : List UInt8) : stepU (92 :: 116 :: r) = (9, 2, 0) := rfl
theorem stepU_b (r : List UInt8) : stepU (92 :: 92 :: r) = (92, 2, 0) := rfl
theorem stepU_x (r : List UInt8) : stepU (92 :: 120 :: r) = if (hexL r).2 = 0 then ((hexL r).1, 4, 0) else (0, 0, (hexL r).2) := rfl
theorem stepU_o {d : UInt8} (r : List UInt8) (h1 : ¬ d = 110) (h2 : ¬ d = 116) (h3 : ¬ d = 92) (h4 : ¬ d = 120) : stepU (92 :: d :: r) = (0, 0, 6) := by
  show (if d = 110 then _ else _) = _
  rw [if_neg h1, if_neg h2, if_neg h3, if_neg h4]
theorem unesc_step (u : List UInt8) (hu : u ≠ []) : unesc u = if (stepU u).2.2 = 0 then app [UInt8.ofNat (stepU u).1.toNat] (unesc (u.drop (stepU u).2.1)) else ([], (stepU u).2.2) := by
  match u, hu with
  | c :: r, _ =>
    by_cases h1 : (c < 32 || 126 < c) = true
    · rw [unesc_bad r h1, stepU_bad r h1]; rfl
    by_cases h2 : c = 92
    · subst h2
      match r with
      | [] => rfl
      | d :: r =>
        by_cases d1 : d = 110
        · subst d1; rw [unesc_n, stepU_n]; rfl
        by_cases d2 : d = 116
        · subst d2; rw [unesc_t, stepU_t]; rfl
        by_cases d3 : d = 92
        · subst d3; rw [unesc_b, stepU_b]; rfl
        by_cases d4 : d = 120
        · subst d4
          rw [stepU_x]
          by_cases e : (hexL r).2 = 0
          · obtain ⟨a, b, r', rfl, _⟩ := hexL_ok r e
            rw [unesc_x a b r' e, if_pos e]; rfl
          · rw [unesc_xe r e, if_neg e]; dsimp only; rw [if_neg e]
        · rw [unesc_o r d1 d2 d3 d4, stepU_o r d1 d2 d3 d4]; rfl
    · rw [unesc_plain r h1 h2, stepU_plain r h1 h2]
      simp
theorem stepU_escB (c : UInt8) (r : List UInt8) : stepU (escB c ++ r) = ((c.toNat : Int), (escB c).length, 0) := by
  unfold escB
  by_cases c1 : c = 10
  · subst c1; exact stepU_n r
  rw [if_neg c1]
  by_cases c2 : c = 9
  · subst c2; exact stepU_t r
  rw [if_neg c2]
  by_cases c3 : c = 92
  · subst c3; exact stepU_b r
  rw [if_neg c3]
  by_cases c4 : (c < 32 || 126 < c) = true
  · have hx : hexL (hexD (c / 16) :: hexD (c % 16) :: r) = ((c.toNat : Int), 0) := by rw [hexL_two, hex_back c c4 c1 c2 c3]
    rw [if_pos c4]
    show stepU (92 :: 120 :: hexD (c / 16) :: hexD (c % 16) :: r) = _
    rw [stepU_x, hx]; rfl
  · rw [if_neg c4]
    exact stepU_plain r c4 c3
theorem hexV_back (h : UInt8) : 0 ≤ hexV h → hexD (UInt8.ofNat (hexV h).toNat) = h := by
  refine u8_all (p := fun h => 0 ≤ hexV h → hexD (UInt8.ofNat (hexV h).toNat) = h) ?_ h
  decide +kernel
theorem ofNat_div (n : Nat) (h : n < 256) : (UInt8.ofNat n) / 16 = UInt8.ofNat (n / 16) := by
  rw [← UInt8.toNat_inj, UInt8.toNat_div, UInt8.toNat_ofNat', UInt8.toNat_ofNat']
  show n % 2 ^ 8 / 16 = _
  omega
theorem ofNat_mod (n : Nat) (_h : n < 256) : (UInt8.ofNat n) % 16 = UInt8.ofNat (n % 16) := by
  rw [← UInt8.toNat_inj, UInt8.toNat_mod, UInt8.toNat_ofNat', UInt8.toNat_ofNat']
  show n % 2 ^ 8 % 16 = _
  omega
theorem ofNat_ne (n : Nat) (d : UInt8) (h : n < 256) (hne : n ≠ d.toNat) : ¬ UInt8.ofNat n = d := by
  intro e
  have := congrArg UInt8.toNat e
  rw [UInt8.toNat_ofNat'] at this
  omega
theorem stepU_ok (u : List UInt8) (hu : u ≠ []) (h : (stepU u).2.2 = 0) : ∃ c r, u = escB c ++ r := by
  match u, hu, h with
  | c :: r, _, h =>
    by_cases h1 : (c < 32 || 126 < c) = true
    · rw [stepU_bad r h1] at h; exact absurd h (by decide)
    by_cases h2 : c = 92
    · subst h2
      match r, h with
      | [], h => exact absurd h (by decide)
      | d :: r, h =>
        by_cases d1 : d = 110
        · subst d1; exact ⟨10, r, rfl⟩
        by_cases d2 : d = 116
        · subst d2; exact ⟨9, r, rfl⟩
        by_cases d3 : d = 92
        · subst d3; exact ⟨92, r, rfl⟩
        by_cases d4 : d = 120
        · subst d4
          rw [stepU_x] at h
          by_cases e : (hexL r).2 = 0
          · obtain ⟨a, b, r', rfl, _⟩ := hexL_ok r e
            by_cases c : hexV a < 0 ∨ (1 < hexV a ∧ hexV a < 7)
            · rw [hexL_1 _ c] at e; exact absurd e (by decide)
            by_cases d : hexV b < 0 ∨ (16 * hexV a + hexV b) = 10 ∨ (16 * hexV a + hexV b) = 9 ∨ (32 ≤ (16 * hexV a + hexV b) ∧ (16 * hexV a + hexV b) ≤ 126)
            · rw [hexL_3 _ c d] at e; exact absurd e (by decide)
            obtain ⟨ra0, ra1⟩ := hexV_range a
            obtain ⟨rb0, rb1⟩ := hexV_range b
            obtain ⟨x, hx⟩ : ∃ x : Nat, hexV a = x := ⟨(hexV a).toNat, by omega⟩
            obtain ⟨y, hy⟩ : ∃ y : Nat, hexV b = y := ⟨(hexV b).toNat, by omega⟩
            have ea := hexV_back a (by omega)
            have eb := hexV_back b (by omega)
            rw [hx] at ea c d
            rw [hy] at eb d
            rw [Int.toNat_natCast] at ea eb
            rw [hx] at ra1; rw [hy] at rb1
            refine ⟨UInt8.ofNat (16 * x + y), r', ?_⟩
            unfold escB
            rw [if_neg (ofNat_ne _ 10 (by omega) (by show _ ≠ 10; omega)), if_neg (ofNat_ne _ 9 (by omega) (by show _ ≠ 9; omega)), if_neg (ofNat_ne _ 92 (by omega) (by show _ ≠ 92; omega)), if_pos, ofNat_div _ (by omega), ofNat_mod _ (by omega), show (16 * x + y) / 16 = x by omega, show (16 * x + y) % 16 = y by omega, ea, eb]
            · rfl
            · rw [unprint, UInt8.toNat_ofNat']; omega
          · rw [if_neg e] at h; exact absurd h e
        · rw [stepU_o r d1 d2 d3 d4] at h; exact absurd h (by decide)
    · exact ⟨c, r, by
        unfold escB
        rw [if_neg, if_neg, if_neg h2, if_neg h1]
        · rfl
        · intro e; subst e; exact h1 (by decide)
        · intro e; subst e; exact h1 (by decide)⟩

/-! begins. -/
def beg : List UInt8 → List UInt8 → Bool × Bool
  | _, [] => (true, false)
  | [], _ :: _ => (false, true)
  | a :: u, t :: ts => if a = t then beg u ts else (false, false)
theorem beg_loop (s t : ByteArray) (i : Nat) (hs : s.size ≤ 1000000) (hi : i ≤ s.size) (ht : t.size ≤ 1000) (d : Nat) : ∀ (j k : Nat), j + d = t.size → d < k →
    jobshellref01_begins.l0 k s i t j = some (beg (s.data.toList.drop (i + j)) (t.data.toList.drop j)) := by
  induction d with
  | zero =>
    intro j k hj hk
    obtain ⟨k, rfl⟩ : ∃ m, k = m + 1 := ⟨k - 1, by omega⟩
    simp only [jobshellref01_begins.l0]
    rw [if_neg (by omega), drop_end t j (by omega)]
    unfold beg; rfl
  | succ d ih =>
    intro j k hj hk
    obtain ⟨k, rfl⟩ : ∃ m, k = m + 1 := ⟨k - 1, by omega⟩
    have hlt : j < t.size := by omega
    simp only [jobshellref01_begins.l0]
    rw [if_pos (by omega), show wrap64 ((i : Int) + (j : Int)) = ((i + j : Nat) : Int) by rw [wr (by omega) (by omega)]; omega, drop_cons t j hlt]
    by_cases he : i + j < s.size
    · rw [if_neg (by omega), if_pos (by omega), if_pos (by omega), if_pos (by omega), bt_nat s (i + j) he, bt_nat t j hlt, wr1 j (by omega), drop_cons s (i + j) he]
      by_cases h : s[i + j] = t[j]
      · rw [if_pos (by rw [h]), ih (j + 1) k (by omega) (by omega), beg, if_pos h]; rfl
      · rw [if_neg (fun e => h (u8_eq_iff.2 e)), beg, if_neg h]
    · rw [if_pos (by omega), drop_end s (i + j) he]; rfl
theorem begins_eq (s : ByteArray) (l : List UInt8) (i k : Nat) (hs : s.size ≤ 1000000) (hi : i ≤ s.size) (hl : l.length ≤ 1000) (hk : l.length < k) : jobshellref01_begins.f k s i (mkB l) = some (beg (s.data.toList.drop i) l) :=
  beg_loop s (mkB l) i hs hi (by rw [mkB_size]; exact hl) l.length 0 k (by rw [mkB_size]; omega) hk
theorem beg_pre : ∀ (u t : List UInt8), (beg u t).1 = true ↔ ∃ r, u = t ++ r
  | u, [] => by unfold beg; simp
  | [], t :: ts => by unfold beg; simp
  | a :: u, t :: ts => by
    unfold beg
    by_cases h : a = t
    · subst h; rw [if_pos rfl, beg_pre u ts]; simp
    · rw [if_neg h]; simp [h]
theorem beg_short : ∀ (u t : List UInt8), (beg u t).2 = true ↔ u.length < t.length ∧ u = t.take u.length
  | u, [] => by unfold beg; simp
  | [], t :: ts => by unfold beg; simp
  | a :: u, t :: ts => by
    unfold beg
    by_cases h : a = t
    · subst h; rw [if_pos rfl, beg_short u ts]; simp
    · rw [if_neg h]; simp [h]

/-! The search for the byte. -/
def mt (u : List UInt8) (j : Nat) : Bool := (beg u (escB (UInt8.ofNat j))).1
def st (u : List UInt8) (j : Nat) : Bool := (beg u (escB (UInt8.ofNat j))).2
def fin (u : List UInt8) : Nat → Nat → Int → Bool → Int × Bool
  | 0, _, n, e => (n, e)
  | d + 1, j, n, e => fin u d (j + 1) (if mt u j then (j : Int) else n) (e || st u j)
theorem fin_n (u : List UInt8) : ∀ (d j : Nat) (n : Int) (e : Bool), ((fin u d j n e).1 = n ∧ ∀ c, j ≤ c → c < j + d → mt u c = false) ∨ (∃ c, j ≤ c ∧ c < j + d ∧ mt u c = true ∧ (fin u d j n e).1 = (c : Int))
  | 0, j, n, e => .inl ⟨rfl, fun c h1 h2 => by omega⟩
  | d + 1, j, n, e => by
    have ih := fin_n u d (j + 1) (if mt u j then (j : Int) else n) (e || st u j)
    have hfin : fin u (d + 1) j n e = fin u d (j + 1) (if mt u j then (j : Int) else n) (e || st u j) := rfl
    rw [hfin]
    rcases ih with ⟨h1, h2⟩ | ⟨c, h1, h2, h3, h4⟩
    · cases h : mt u j
      · rw [h, if_neg (by decide)] at h1
        refine .inl ⟨h1, fun c a b => ?_⟩
        by_cases hc : c = j
        · subst hc; exact h
        · exact h2 c (by omega) (by omega)
      · rw [h, if_pos rfl] at h1
        exact .inr ⟨j, Nat.le_refl _, by omega, h, h1⟩
    · exact .inr ⟨c, by omega, by omega, h3, h4⟩
theorem fin_e (u : List UInt8) : ∀ (d j : Nat) (n : Int) (e : Bool), (fin u d j n e).2 = true ↔ e = true ∨ ∃ c, j ≤ c ∧ c < j + d ∧ st u c = true
  | 0, j, n, e => by
    show e = true ↔ _
    constructor
    · exact .inl
    · rintro (h | ⟨c, h1, h2, _⟩)
      · exact h
      · omega
  | d + 1, j, n, e => by
    show (fin u d (j + 1) _ (e || st u j)).2 = true ↔ _
    rw [fin_e u d (j + 1), Bool.or_eq_true]
    constructor
    · rintro ((h | h) | ⟨c, h1, h2, h3⟩)
      · exact .inl h
      · exact .inr ⟨j, Nat.le_refl _, by omega, h⟩
      · exact .inr ⟨c, by omega, by omega, h3⟩
    · rintro (h | ⟨c, h1, h2, h3⟩)
      · exact .inl (.inl h)
      · by_cases hc : c = j
        · subst hc; exact .inl (.inr h3)
        · exact .inr ⟨c, by omega, by omega, h3⟩
theorem take_28 (c : UInt8) : ∀ j, j < 4 → 0 < j → j < (escB c).length → stepU ((escB c).take j) = (0, 0, 28) := by
  refine u8_all (p := fun c => ∀ j, j < 4 → 0 < j → j < (escB c).length → stepU ((escB c).take j) = (0, 0, 28)) ?_ c
  decide +kernel
theorem hex_some (h : UInt8) : ¬ (hexV h < 0 ∨ (1 < hexV h ∧ hexV h < 7)) → (beg [92, 120, h] (escB (UInt8.ofNat (16 * (hexV h).toNat + 15)))).2 = true := by
  refine u8_all (p := fun h => ¬ (hexV h < 0 ∨ (1 < hexV h ∧ hexV h < 7)) → (beg [92, 120, h] (escB (UInt8.ofNat (16 * (hexV h).toNat + 15)))).2 = true) ?_ h
  decide +kernel
theorem short_28 (u : List UInt8) (hu : u ≠ []) (h : (stepU u).2.2 = 28) : ∃ c, c < 256 ∧ st u c = true := by
  match u, hu, h with
  | c :: r, _, h =>
    by_cases h1 : (c < 32 || 126 < c) = true
    · rw [stepU_bad r h1] at h; exact absurd h (by decide)
    by_cases h2 : c = 92
    · subst h2
      match r, h with
      | [], h => exact ⟨10, by omega, by decide⟩
      | d :: r, h =>
        by_cases d1 : d = 110
        · subst d1; exact absurd h (by rw [stepU_n]; decide)
        by_cases d2 : d = 116
        · subst d2; exact absurd h (by rw [stepU_t]; decide)
        by_cases d3 : d = 92
        · subst d3; exact absurd h (by rw [stepU_b]; decide)
        by_cases d4 : d = 120
        · subst d4
          rw [stepU_x] at h
          match r, h with
          | [], _ => exact ⟨0, by omega, by decide⟩
          | [a], h =>
            by_cases c : hexV a < 0 ∨ (1 < hexV a ∧ hexV a < 7)
            · rw [hexL_1 _ c] at h; exact absurd h (by decide)
            · obtain ⟨r0, r1⟩ := hexV_range a
              exact ⟨16 * (hexV a).toNat + 15, by omega, hex_some a c⟩
          | a :: b :: r, h =>
            by_cases c : hexV a < 0 ∨ (1 < hexV a ∧ hexV a < 7)
            · rw [hexL_1 _ c] at h; exact absurd h (by decide)
            by_cases d : hexV b < 0 ∨ (16 * hexV a + hexV b) = 10 ∨ (16 * hexV a + hexV b) = 9 ∨ (32 ≤ (16 * hexV a + hexV b) ∧ (16 * hexV a + hexV b) ≤ 126)
            · rw [hexL_3 _ c d] at h; exact absurd h (by decide)
            · rw [hexL_4 _ c d] at h; simp at h
        · rw [stepU_o r d1 d2 d3 d4] at h; exact absurd h (by decide)
    · rw [stepU_plain r h1 h2] at h; simp at h
theorem hexL_errs (r : List UInt8) : (hexL r).2 = 0 ∨ (hexL r).2 = 6 ∨ (hexL r).2 = 28 := by
  match r with
  | [] => exact .inr (.inr rfl)
  | [a] =>
    by_cases c : hexV a < 0 ∨ (1 < hexV a ∧ hexV a < 7)
    · rw [hexL_1 _ c]; exact .inr (.inl rfl)
    · rw [hexL_2 c]; exact .inr (.inr rfl)
  | a :: b :: r =>
    by_cases c : hexV a < 0 ∨ (1 < hexV a ∧ hexV a < 7)
    · rw [hexL_1 _ c]; exact .inr (.inl rfl)
    by_cases d : hexV b < 0 ∨ (16 * hexV a + hexV b) = 10 ∨ (16 * hexV a + hexV b) = 9 ∨ (32 ≤ (16 * hexV a + hexV b) ∧ (16 * hexV a + hexV b) ≤ 126)
    · rw [hexL_3 _ c d]; exact .inr (.inl rfl)
    · rw [hexL_4 _ c d]; exact .inl rfl
theorem stepU_errs (u : List UInt8) : (stepU u).2.2 = 0 ∨ (stepU u).2.2 = 6 ∨ (stepU u).2.2 = 28 := by
  match u with
  | [] => exact .inl rfl
  | c :: r =>
    by_cases h1 : (c < 32 || 126 < c) = true
    · rw [stepU_bad r h1]; exact .inr (.inl rfl)
    by_cases h2 : c = 92
    · subst h2
      match r with
      | [] => exact .inr (.inr rfl)
      | d :: r =>
        by_cases d1 : d = 110
        · subst d1; exact .inl rfl
        by_cases d2 : d = 116
        · subst d2; exact .inl rfl
        by_cases d3 : d = 92
        · subst d3; exact .inl rfl
        by_cases d4 : d = 120
        · subst d4
          rw [stepU_x]
          by_cases e : (hexL r).2 = 0
          · rw [if_pos e]; exact .inl rfl
          · rw [if_neg e]; exact hexL_errs r
        · rw [stepU_o r d1 d2 d3 d4]; exact .inr (.inl rfl)
    · rw [stepU_plain r h1 h2]; exact .inl rfl
/-- What the search comes to, by the step. -/
theorem fin_spec (u : List UInt8) (hu : u ≠ []) :
    ((stepU u).2.2 = 0 ∧ ∃ c : UInt8, (fin u 256 0 (-1) false).1 = (c.toNat : Int) ∧ stepU u = ((c.toNat : Int), (escB c).length, 0)) ∨
    ((stepU u).2.2 = 28 ∧ fin u 256 0 (-1) false = (-1, true)) ∨ ((stepU u).2.2 = 6 ∧ fin u 256 0 (-1) false = (-1, false)) := by
  have hn := fin_n u 256 0 (-1) false
  have he := fin_e u 256 0 (-1) false
  have hm : ∀ c, mt u c = true → ∃ r, u = escB (UInt8.ofNat c) ++ r := fun c h => (beg_pre _ _).1 h
  rcases stepU_errs u with h | h | h
  · obtain ⟨c, r, hc⟩ := stepU_ok u hu h
    refine .inl ⟨h, c, ?_, by rw [hc, stepU_escB]⟩
    rcases hn with ⟨_, h2⟩ | ⟨c', h1, h2, h3, h4⟩
    · have : mt u c.toNat = true := (beg_pre _ _).2 ⟨r, by rw [UInt8.ofNat_toNat]; exact hc⟩
      rw [h2 c.toNat (by omega) (by have := c.toNat_lt; omega)] at this
      cases this
    · obtain ⟨r', hr'⟩ := hm c' h3
      have e1 : stepU u = ((c.toNat : Int), (escB c).length, 0) := by rw [hc, stepU_escB]
      have e2 : stepU u = (((UInt8.ofNat c').toNat : Int), (escB (UInt8.ofNat c')).length, 0) := by rw [hr', stepU_escB]
      rw [h4]
      have := (Prod.mk.inj (e1.symm.trans e2)).1
      rw [UInt8.toNat_ofNat'] at this
      omega
  · refine .inr (.inr ⟨h, ?_⟩)
    have e1 : (fin u 256 0 (-1) false).1 = -1 := by
      rcases hn with ⟨h1, _⟩ | ⟨c', _, _, h3, _⟩
      · exact h1
      · obtain ⟨r', hr'⟩ := hm c' h3
        rw [hr', stepU_escB] at h; simp at h
    have e2 : (fin u 256 0 (-1) false).2 = false := by
      cases hf : (fin u 256 0 (-1) false).2
      · rfl
      · rcases he.1 hf with h' | ⟨c, _, _, h3⟩
        · cases h'
        · obtain ⟨h4, h5⟩ := (beg_short _ _).1 h3
          have h6 := escB_len (UInt8.ofNat c)
          have h7 : 0 < u.length := List.length_pos_iff.2 hu
          have := take_28 (UInt8.ofNat c) u.length (by omega) h7 h4
          rw [← h5, Prod.ext_iff, Prod.ext_iff] at this
          rw [this.2.2] at h; exact absurd h (by decide)
    exact Prod.ext e1 e2
  · refine .inr (.inl ⟨h, ?_⟩)
    have e1 : (fin u 256 0 (-1) false).1 = -1 := by
      rcases hn with ⟨h1, _⟩ | ⟨c', _, _, h3, _⟩
      · exact h1
      · obtain ⟨r', hr'⟩ := hm c' h3
        rw [hr', stepU_escB] at h; simp at h
    obtain ⟨c, hc, hs⟩ := short_28 u hu h
    exact Prod.ext e1 (he.2 (.inr ⟨c, by omega, by omega, hs⟩))
theorem srch_loop (s : ByteArray) (hs : s.size ≤ 1000000) (i : Nat) (hi : i ≤ s.size) (acc : ByteArray) (R : ByteArray × Int) (K : Nat) (d : Nat) : ∀ (j k : Nat) (n : Int) (e : Bool), j + d = 256 → d + K + 6 < k →
    (∀ k, K < k → (if (fin (s.data.toList.drop i) d j n e).1 < 0 then jobshellref01_Unescape.j2 k s acc i (fin (s.data.toList.drop i) d j n e).1 (fin (s.data.toList.drop i) d j n e).2 else jobshellref01_Unescape.j2 k s acc i (fin (s.data.toList.drop i) d j n e).1 false) = some R) →
    jobshellref01_Unescape.l1 k s acc i n e j = some R := by
  induction d with
  | zero =>
    intro j k n e hj hk hR
    obtain ⟨k, rfl⟩ : ∃ m, k = m + 1 := ⟨k - 1, by omega⟩
    simp only [jobshellref01_Unescape.l1]
    rw [if_neg (by omega)]
    exact hR k (by omega)
  | succ d ih =>
    intro j k n e hj hk hR
    obtain ⟨k, rfl⟩ : ∃ m, k = m + 1 := ⟨k - 1, by omega⟩
    simp only [jobshellref01_Unescape.l1]
    have hb : ((UInt8.ofNat j).toNat : Int) = (j : Int) % 256 := by rw [UInt8.toNat_ofNat']; omega
    have h4 := escB_len (UInt8.ofNat j)
    have hR' : ∀ n' e', n' = (if mt (s.data.toList.drop i) j then (j : Int) else n) → e' = (e || st (s.data.toList.drop i) j) → jobshellref01_Unescape.l1 k s acc i n' e' ((j + 1 : Nat) : Int) = some R := by
      intro n' e' h1 h2
      subst h1; subst h2
      exact ih (j + 1) k _ _ (by omega) (by omega) hR
    rw [if_pos (by omega), ← hb, escape_at, Option.bind_some, begins_eq s _ i k hs hi (by omega) (by omega), Option.bind_some, wr1 j (by omega)]
    have em : (beg (s.data.toList.drop i) (escB (UInt8.ofNat j))).1 = mt (s.data.toList.drop i) j := rfl
    have es : (beg (s.data.toList.drop i) (escB (UInt8.ofNat j))).2 = st (s.data.toList.drop i) j := rfl
    rw [em, es]
    cases h1 : mt (s.data.toList.drop i) j <;> cases h2 : e
    · rw [if_neg (by decide), if_neg (by decide)]; exact hR' _ _ (by rw [h1]; rfl) (by rw [h2]; rfl)
    · rw [if_neg (by decide), if_pos rfl]; exact hR' _ _ (by rw [h1]; rfl) (by rw [h2]; rfl)
    · rw [if_pos rfl, if_neg (by decide)]; exact hR' _ _ (by rw [h1]; rfl) (by rw [h2]; rfl)
    · rw [if_pos rfl, if_pos rfl]; exact hR' _ _ (by rw [h1]; rfl) (by rw [h2]; rfl)
theorem nums1 (c : UInt8) : strOfNums [(c.toNat : Int) % 256] = mkB [c] := by
  refine ba_ext ?_
  have := c.toNat_lt
  rw [show (c.toNat : Int) % 256 = (c.toNat : Int) by omega]
  simp [strOfNums, mkB]
theorem unesc_loop (s : ByteArray) (hs : s.size ≤ 1000000) (d : Nat) : ∀ (i k : Nat) (acc : List UInt8), i + d = s.size → 300 * d + 10 < k → acc.length ≤ i →
    jobshellref01_Unescape.l0 k s (mkB acc) i = some (unqOut (app acc (unesc (s.data.toList.drop i)))) := by
  induction d using Nat.strongRecOn with
  | _ d ih =>
  intro i k acc hi hk ha
  obtain ⟨k, rfl⟩ : ∃ m, k = m + 1 := ⟨k - 1, by omega⟩
  simp only [jobshellref01_Unescape.l0]
  by_cases hlt : i < s.size
  · rw [if_pos (by omega)]
    have hu : s.data.toList.drop i ≠ [] := by rw [drop_cons s i hlt]; exact fun e => by cases e
    refine srch_loop s hs i (by omega) (mkB acc) _ (300 * (d - 1) + 11) 256 0 k (-1) false (by omega) (by omega) ?_
    intro k hk
    obtain ⟨k, rfl⟩ : ∃ m, k = m + 1 := ⟨k - 1, by omega⟩
    rw [unesc_step _ hu]
    rcases fin_spec _ hu with ⟨h1, c, h2, h3⟩ | ⟨h1, h2⟩ | ⟨h1, h2⟩
    · have h4 := escB_len c
      have h5 := stepU_ok _ hu h1
      obtain ⟨c2, r2, h6⟩ := h5
      have h7 : c2 = c := by
        have := h3
        rw [h6, stepU_escB] at this
        exact u8_eq_iff.2 (Prod.mk.inj this).1
      subst h7
      have h8 := congrArg List.length h6
      rw [drop_len, List.length_append] at h8
      have h9 : 0 < (escB c2).length := by
        refine List.length_pos_iff.2 ?_
        unfold escB
        repeat' split
        all_goals exact fun e => by cases e
      rw [h2, if_neg (by omega)]
      simp only [jobshellref01_Unescape.j2]
      rw [if_neg (by decide), if_neg (by omega), Option.bind_some, nums1, if_pos (by rw [mkB_size, mkB_size]; simp; omega), show (c2.toNat : Int) % 256 = (c2.toNat : Int) by have := c2.toNat_lt; omega, escape_at, Option.bind_some, mkB_append, mkB_size,
        show wrap64 ((i : Int) + ((escB c2).length : Int)) = ((i + (escB c2).length : Nat) : Int) by rw [wr (by omega) (by omega)]; omega,
        ih (d - (escB c2).length) (by omega) (i + (escB c2).length) k _ (by omega) (by omega) (by simp; omega), h3]
      dsimp only
      rw [if_pos rfl, app_app, List.drop_drop]
      simp
    · rw [h2, if_pos (by decide)]
      simp only [jobshellref01_Unescape.j2]
      rw [if_pos trivial, h1, if_neg (by decide), app_err _ (by decide)]; rfl
    · rw [h2, if_pos (by decide)]
      simp only [jobshellref01_Unescape.j2]
      rw [if_neg (by decide), if_pos (by decide), h1, if_neg (by decide), app_err _ (by decide)]; rfl
  · rw [if_neg (by omega), drop_end s i hlt, unesc_nil]
    simp [app, unqOut]
theorem refUnescape_eq (s : ByteArray) (hs : s.size ≤ 1000000) (k : Nat) (hk : 300 * s.size + 10 < k) : jobshellref01_Unescape.f k s = some (unqOut (unesc s.data.toList)) := by
  have hL : jobshellref01_Unescape.l0 k s (mkB []) 0 = _ := unesc_loop s hs s.size 0 k [] (by omega) hk (by simp)
  rw [List.drop_zero, app_nil_of _ (unesc_err _)] at hL
  exact hL
/-- Where Unescape has no error, Escape inverts it. -/
theorem escape_unesc : ∀ (n : Nat) (l : List UInt8), l.length ≤ n → (unesc l).2 = 0 → escapeL (unesc l).1 = l
  | _, [], _, _ => by rw [unesc_nil]; rfl
  | 0, _ :: _, h, _ => by simp at h
  | n + 1, c :: r, h, e => by
    have hu : c :: r ≠ [] := fun e => by cases e
    rw [unesc_step _ hu] at e ⊢
    by_cases h0 : (stepU (c :: r)).2.2 = 0
    · rw [if_pos h0] at e ⊢
      obtain ⟨d, r2, h6⟩ := stepU_ok _ hu h0
      have h3 : stepU (c :: r) = ((d.toNat : Int), (escB d).length, 0) := by rw [h6, stepU_escB]
      rw [h3] at e ⊢
      dsimp only at e ⊢
      have hd : (c :: r).drop (escB d).length = r2 := by rw [h6, List.drop_append, List.drop_length]; simp
      rw [hd] at e ⊢
      have h9 : 0 < (escB d).length := by
        refine List.length_pos_iff.2 ?_
        unfold escB
        repeat' split
        all_goals exact fun e => by cases e
      have h8 := congrArg List.length h6
      rw [List.length_append] at h8
      by_cases e2 : (unesc r2).2 = 0
      · have ih := escape_unesc n r2 (by simp only [List.length_cons] at h h8; omega) e2
        unfold app
        rw [if_pos e2]
        show escapeL ([UInt8.ofNat ((d.toNat : Int)).toNat] ++ (unesc r2).1) = _
        rw [show UInt8.ofNat ((d.toNat : Int)).toNat = d by simp]
        show escB d ++ escapeL (unesc r2).1 = _
        rw [ih, h6]
      · unfold app at e
        rw [if_neg e2] at e
        exact absurd e e2
    · rw [if_neg h0] at e
      exact absurd e h0
theorem unesc_len : ∀ (n : Nat) (l : List UInt8), l.length ≤ n → (unesc l).1.length ≤ l.length
  | _, [], _ => by rw [unesc_nil]; exact Nat.le_refl _
  | 0, _ :: _, h => by simp at h
  | n + 1, c :: r, h => by
    have hu : c :: r ≠ [] := fun e => by cases e
    rw [unesc_step _ hu]
    by_cases h0 : (stepU (c :: r)).2.2 = 0
    · rw [if_pos h0]
      obtain ⟨d, r2, h6⟩ := stepU_ok _ hu h0
      have h3 : stepU (c :: r) = ((d.toNat : Int), (escB d).length, 0) := by rw [h6, stepU_escB]
      have hd : (c :: r).drop (escB d).length = r2 := by rw [h6, List.drop_append, List.drop_length]; simp
      have h9 : 0 < (escB d).length := by
        refine List.length_pos_iff.2 ?_
        unfold escB
        repeat' split
        all_goals exact fun e => by cases e
      have h8 := congrArg List.length h6
      rw [List.length_append] at h8
      rw [h3]
      dsimp only
      rw [hd]
      have ih := unesc_len n r2 (by simp only [List.length_cons] at h h8; omega)
      unfold app
      split
      · simp only [List.length_append, List.length_cons, List.length_nil]; simp only [List.length_cons] at h8; omega
      · simp
    · rw [if_neg h0]; simp
theorem CharsUnescapes : jobshelllaw01_CharsUnescapes.Pure := by
  intro s _
  refine ⟨100000, ?_⟩
  unfold jobshelllaw01_CharsUnescapes.f
  by_cases h : (s.size : Int) > 300
  · rw [if_pos h, awake_true]; rfl
  have hl := unesc_len _ s.data.toList (Nat.le_refl _)
  have z : s.data.toList.length = s.size := rfl
  rw [if_neg h, unescape_mk s (by omega), Option.bind_some, refUnescape_eq s (by omega) _ (by omega), Option.bind_some]
  unfold unqOut
  dsimp only
  rw [if_pos rfl, if_pos rfl]
  by_cases e : (unesc s.data.toList).2 = 0
  · rw [if_pos e, escape_mk _ (by rw [mkB_size]; omega), Option.bind_some, mkB_data, escape_unesc _ _ (Nat.le_refl _) e, mkB_self, if_pos rfl, awake_true]; rfl
  · rw [if_neg e, awake_true]; rfl
end Go.Proofs.YtmphbpkhaoaedaaDoor.PA

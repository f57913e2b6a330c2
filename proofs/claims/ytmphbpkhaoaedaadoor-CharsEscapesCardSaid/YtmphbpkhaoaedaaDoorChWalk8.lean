import Derived.Test.YtmphbpkhaoaedaaDoorChWalk7
namespace Go.Proofs.YtmphbpkhaoaedaaDoor.Ch
open Go.RowKit

theorem app_app (a b : List UInt8) (x : List UInt8 × Int) : app a (app b x) = app (a ++ b) x := by
  unfold app
  by_cases h : x.2 = 0
  · simp [h]
  · simp [h]
theorem unq_nil (f : Nat) : unq f [] = ([], 0) := by cases f <;> rfl
theorem unq_39 (f : Nat) {r : List UInt8} (h : (39 : UInt8) ∈ r) : unq (f + 1) (39 :: r) = app (r.takeWhile (· != 39)) (unq f (r.drop ((r.takeWhile (· != 39)).length + 1))) := by rw [unq.eq_def]; simp [h]
theorem unq_39_no (f : Nat) {r : List UInt8} (h : ¬ (39 : UInt8) ∈ r) : unq (f + 1) (39 :: r) = ([], 7) := by rw [unq.eq_def]; simp [h]
theorem unq_34 (f : Nat) {r : List UInt8} (h : (dbl r).2.2 = 0) : unq (f + 1) (34 :: r) = app (dbl r).1 (unq f (r.drop (r.length - (dbl r).2.1))) := by rw [unq.eq_def]; simp [h]
theorem unq_34_no (f : Nat) {r : List UInt8} (h : ¬ (dbl r).2.2 = 0) : unq (f + 1) (34 :: r) = ([], (dbl r).2.2) := by rw [unq.eq_def]; simp [h]
theorem unq_92e (f : Nat) : unq (f + 1) [92] = ([], 7) := by rw [unq.eq_def]; simp
theorem unq_92_10 (f : Nat) (r : List UInt8) : unq (f + 1) (92 :: 10 :: r) = unq f r := by rw [unq.eq_def]; simp
theorem unq_92 (f : Nat) {d : UInt8} (r : List UInt8) (h : ¬ d = 10) : unq (f + 1) (92 :: d :: r) = app [d] (unq f r) := by rw [unq.eq_def]; simp [h]
theorem unq_op (f : Nat) {c : UInt8} (r : List UInt8) (h1 : ¬ c = 39) (h2 : ¬ c = 34) (h3 : ¬ c = 92) (h : isOp c = true) : unq (f + 1) (c :: r) = ([], 6) := by rw [unq.eq_def]; simp [h, h1, h2, h3]
theorem unq_other (f : Nat) {c : UInt8} (r : List UInt8) (h1 : ¬ c = 39) (h2 : ¬ c = 34) (h3 : ¬ c = 92) (h : ¬ isOp c = true) : unq (f + 1) (c :: r) = app [c] (unq f r) := by rw [unq.eq_def]; simp [h, h1, h2, h3]

theorem pre_len {a : List UInt8} {x : List UInt8 × Nat × Int} {n : Nat} (hx : x.2.2 = 0 → x.1.length + x.2.1 + 1 ≤ n) (h : (pre a x).2.2 = 0) : (pre a x).1.length + (pre a x).2.1 + 1 ≤ a.length + n := by
  unfold pre at h ⊢
  by_cases e : x.2.2 = 0
  · have := hx e
    simp [e] at h ⊢
    omega
  · simp [e] at h
theorem dbl_len (l : List UInt8) : (dbl l).2.2 = 0 → (dbl l).1.length + (dbl l).2.1 + 1 ≤ l.length := by
  match l with
  | [] => intro h; exact absurd h (by decide)
  | c :: r =>
    rw [dbl.eq_def]
    dsimp only
    split
    · intro _; simp
    · split
      · intro h; exact absurd h (by decide)
      · split
        · split
          · intro h; exact absurd h (by decide)
          · split
            · intro h; have := dbl_len _ h; simp only [List.length_cons] at this ⊢; omega
            · split
              · intro h; have := pre_len (dbl_len _) h; simp only [List.length_cons, List.length_nil] at this ⊢; omega
              · intro h; have := pre_len (dbl_len _) h; simp only [List.length_cons, List.length_nil] at this ⊢; omega
        · intro h; have := pre_len (dbl_len _) h; simp only [List.length_cons, List.length_nil] at this ⊢; omega

theorem ix_39 (r : List UInt8) : Lib.indexByte r 39 = if (39 : UInt8) ∈ r then ((r.takeWhile (· != 39)).length : Int) else -1 := by
  induction r with
  | nil => rfl
  | cons c r ih =>
    unfold Lib.indexByte
    by_cases h : c = 39
    · subst h; simp
    · have h' : ¬ (39 : UInt8) = c := fun e => h e.symm
      have hb : ¬ (c == 39) = true := by simpa using h
      rw [if_neg hb, ih]
      by_cases h2 : (39 : UInt8) ∈ r
      · have h3 : (39 : UInt8) ∈ c :: r := List.mem_cons_of_mem _ h2
        have h4 : ¬ (((List.takeWhile (· != 39) r).length : Int) == -1) = true := by rw [beq_iff_eq]; omega
        rw [if_pos h2, if_pos h3, if_neg h4, List.takeWhile_cons_of_pos (by simpa using h)]
        simp
      · have h3 : ¬ (39 : UInt8) ∈ c :: r := by simp [h2, h']
        rw [if_neg h2, if_neg h3]
        rfl
theorem tw_len {r : List UInt8} (h : (39 : UInt8) ∈ r) : (r.takeWhile (· != 39)).length + 1 ≤ r.length := by
  induction r with
  | nil => simp at h
  | cons c r ih =>
    by_cases e : c = 39
    · subst e; simp
    · rw [List.takeWhile_cons_of_pos (by simpa using e)]
      have := ih (by simpa [Ne.symm e] using h)
      simp only [List.length_cons]; omega
theorem take_tw (r : List UInt8) : r.take (r.takeWhile (· != 39)).length = r.takeWhile (· != 39) := by
  induction r with
  | nil => rfl
  | cons c r ih =>
    by_cases e : c = 39
    · subst e; simp
    · rw [List.takeWhile_cons_of_pos (by simpa using e)]
      simp only [List.length_cons, List.take_succ_cons, ih]

theorem ix39_yes (t : ByteArray) (w : World) (h : (39 : UInt8) ∈ t.data.toList) : Calls Tryd.prog 32 #[.string t, .int .u8 39] w fun e w' => e = .returned (.int .i64 ((t.data.toList.takeWhile (· != 39)).length : Int)) ∧ w' = w := by
  refine (Tryd.strings_IndexByte _ _ w).mono ?_
  rintro e w' ⟨rfl, rfl⟩
  rw [show ((39 : Int)).toNat.toUInt8 = 39 from rfl, ix_39, if_pos h]
  exact ⟨rfl, rfl⟩
theorem ix39_no (t : ByteArray) (w : World) (h : ¬ (39 : UInt8) ∈ t.data.toList) : Calls Tryd.prog 32 #[.string t, .int .u8 39] w fun e w' => e = .returned (.int .i64 (-1)) ∧ w' = w := by
  refine (Tryd.strings_IndexByte _ _ w).mono ?_
  rintro e w' ⟨rfl, rfl⟩
  rw [show ((39 : Int)).toNat.toUInt8 = 39 from rfl, ix_39, if_neg h]
  exact ⟨rfl, rfl⟩
theorem rt2_of {x y : List UInt8} {c d : Int} (h1 : x = y) (h3 : c = d) : Ending.returned (.tuple #[.string ⟨x.toArray⟩, .int .i64 c]) = Ending.returned (.tuple #[.string ⟨y.toArray⟩, .int .i64 d]) := by
  subst h1; subst h3; rfl
theorem hid_eq {α : Type} {a b : α} (h : Hid (a = b)) : a = b := h

theorem app_nil_app (a : List UInt8) (x : List UInt8 × Int) : app [] (app a x) = app a x := by rw [app_app]; rfl
theorem unq_norm : ∀ (f : Nat) (l : List UInt8), app [] (unq f l) = unq f l
  | f, [] => by rw [unq_nil]; rfl
  | 0, _ :: _ => rfl
  | f + 1, c :: r => by
    by_cases h1 : c = 39
    · subst h1
      by_cases h : (39 : UInt8) ∈ r
      · rw [unq_39 f h, app_nil_app]
      · rw [unq_39_no f h]; rfl
    by_cases h2 : c = 34
    · subst h2
      by_cases h : (dbl r).2.2 = 0
      · rw [unq_34 f h, app_nil_app]
      · rw [unq_34_no f h]; simp [app, h]
    by_cases h3 : c = 92
    · subst h3
      match r with
      | [] => rw [unq_92e]; rfl
      | d :: r =>
        by_cases h : d = 10
        · subst h; rw [unq_92_10, unq_norm]
        · rw [unq_92 f r h, app_nil_app]
    by_cases h4 : isOp c = true
    · rw [unq_op f r h1 h2 h3 h4]; rfl
    · rw [unq_other f r h1 h2 h3 h4, app_nil_app]
theorem app_err (a : List UInt8) {e : Int} (h : ¬ e = 0) : app a ([], e) = ([], e) := by simp [app, h]
theorem dbl_call (s : ByteArray) (k : Nat) (x : Int) (hx : x = (k : Int)) (w : World) (hs : s.size ≤ 10000000000) (hk0 : k ≤ s.size) (R : List UInt8 × Nat × Int) (hR : Hid (dbl (s.data.toList.drop k) = R)) :
    Calls Tryd.prog 34 #[.string s, .int .i64 x] w fun e w' => e = .returned (.tuple #[.string ⟨R.1.toArray⟩, .int .i64 (dblAt s R), .int .i64 R.2.2]) ∧ Below w.heap.size w w' := by
  subst hx; exact double_walk s k w hs hk0 R hR
theorem lt_of_heap {w : World} {b : Nat} {o : Obj} (h : w.heap[b]? = some o) : b < w.heap.size := (Array.getElem?_eq_some_iff.1 h).1
theorem row_below {w w' : World} {B e size n : Nat} {v : Value} {xs : List Value} (h : w.ownsRow B e size v n xs) (hb : Below w.heap.size w w') : w'.ownsRow B e size v n xs := by
  refine ⟨h.1, ?_⟩
  rcases h.2 with h | ⟨g, cap, cur, hv, hg, hblk, h'⟩
  · exact .inl h
  · exact .inr ⟨g, cap, cur, hv, hg, by rw [hb.block g (lt_of_heap hblk)]; exact hblk, h'⟩
theorem at_below {T e B b : Nat} {p : Value} {bs : List Value} {w w' : World} (h : Lib.BuilderAt T e B b p bs w) (hb : Below w.heap.size w w') : Lib.BuilderAt T e B b p bs w' := by
  obtain ⟨h1, v, h2, h3, h4⟩ := h
  exact ⟨h1, v, by rw [hb.block b (lt_of_heap h2)]; exact h2, row_below h3 hb, h4⟩
theorem isBuilder_below {T e B b : Nat} {bs : List Value} {w w' : World} (h : Lib.IsBuilder T e B b bs w) (hb : Below w.heap.size w w') : Lib.IsBuilder T e B b bs w' := by
  rcases h with h | h
  · exact .inl (at_below h hb)
  · exact .inr (at_below h hb)
theorem has_below {w W W' : World} {l : List UInt8} (h : Has w l W) (hb : Below W.heap.size W W') : Has w l W' := ⟨isBuilder_below h.1 hb, h.2.trans (hb.mono h.2.size)⟩
set_option maxHeartbeats 8000000 in
set_option maxRecDepth 100000 in
theorem unquote_walk (s : ByteArray) (w : World) (hs : s.size ≤ 10000000000) (R : List UInt8 × Int) (hR : Hid (unquoteL s.data.toList = R)) :
    Calls Tryd.prog 19 #[.string s] w fun e w' => e = .returned (.tuple #[.string ⟨R.1.toArray⟩, .int .i64 R.2]) ∧ Below w.heap.size w w' := by
  go_enter Tryd.func19, Tryd.ntmps19
  go_wp2
  go_loopw [5] (fun v wr => ∃ (k : Nat) (acc : List UInt8) (f : Nat), v = .int .i64 k ∧ k ≤ s.size ∧ acc.length ≤ k ∧ s.size - k ≤ f ∧ Hid (Has w acc wr) ∧ Hid (app acc (unq f (s.data.toList.drop k)) = R)) (fun v _ => s.size - (intOf v).toNat)
  case atStart => exact ⟨0, [], s.size, rfl, Nat.zero_le _, Nat.zero_le _, Nat.sub_le _ _, has_fresh w, eh (by rw [List.drop_zero, unq_norm]; exact hid_eq hR)⟩
  case round =>
    obtain ⟨k, acc, f, rfl, hk, hal, hf, hH, hP⟩ := hrel
    by_cases hlt : k < s.size
    · obtain ⟨f, rfl⟩ : ∃ g, f = g + 1 := ⟨f - 1, by omega⟩
      have HD := Lib.hid (drop_cons s k hlt)
      have i1 : (0 : Int) ≤ (k : Int) + 1 := by omega
      have i2 : (k : Int) + 1 ≤ (s.size : Int) := by omega
      by_cases c1 : s[k] = 39
      · have b1 : ((s[k].toNat : Int) == 39) = true := b_eq c1 rfl
        have hx : (s.extract (k + 1) s.size).data.toList = s.data.toList.drop (k + 1) := Lib.extract_to_end s (k + 1)
        by_cases hq : (39 : UInt8) ∈ s.data.toList.drop (k + 1)
        · obtain ⟨n, hn⟩ : ∃ n, ((s.data.toList.drop (k + 1)).takeWhile (· != 39)).length = n := ⟨_, rfl⟩
          have hnl := tw_len hq
          rw [hn, drop_len] at hnl
          have E : Hid (app (acc ++ (s.data.toList.drop (k + 1)).takeWhile (· != 39)) (unq f (s.data.toList.drop (k + n + 2))) = R) := eh (by
            rw [← hid_eq hP, HD.out, c1, unq_39 f hq, app_app, hn, List.drop_drop]; rw [show k + 1 + (n + 1) = k + n + 2 by omega])
          have hy : (s.extract (k + 1) (k + 1 + n)).data.toList = (s.data.toList.drop (k + 1)).takeWhile (· != 39) := by
            rw [Lib.extract_data, show k + 1 + n - (k + 1) = n by omega, ← hn, take_tw]
          have C := ix39_yes (s.extract (k + 1) s.size) wr (by rw [hx]; exact hq)
          rw [hx, hn] at C
          have HC := Lib.hid C
          have HN := Lib.hid hn
          have HY := Lib.hid hy
          have HQ := Lib.hid hq
          clear C hx hn hy hq c1
          have i3 : (k : Int) + 1 ≤ (k : Int) + 1 + (n : Int) := by omega
          have i4 : (k : Int) + 1 + (n : Int) ≤ (s.size : Int) := by omega
          go_wp2_with fail
          refine HC.out.mono ?_
          rintro e w1 ⟨rfl, rfl⟩
          go_wp2_with fail
          refine (writeString_any w _ _ _ _ HY.out hH (by rw [HN.out]; omega)).mono ?_
          rintro e w2 ⟨rfl, h2⟩
          go_wp2
          go_roundw
          case rel => exact ⟨k + n + 2, _, f, by go_num, by omega, by rw [List.length_append, HN.out]; omega, by omega, h2, E⟩
          case measure => simp [intOf]; omega
        · have E : Hid (R = ([], 7)) := eh (by rw [← hid_eq hP, HD.out, c1, unq_39_no f hq, app_err _ (by decide)])
          have C := ix39_no (s.extract (k + 1) s.size) wr (by rw [hx]; exact hq)
          have HC := Lib.hid C
          clear C hx hq c1
          go_wp2_with fail
          refine HC.out.mono ?_
          rintro e w1 ⟨rfl, rfl⟩
          go_wp2
          go_ret2
          rw [hid_eq E]
          exact ⟨rt2_of rfl rfl, hH.out.2⟩
      have b1 : ((s[k].toNat : Int) == 39) = false := b_ne c1 rfl
      by_cases c2 : s[k] = 34
      · have b2 : ((s[k].toNat : Int) == 34) = true := b_eq c2 rfl
        obtain ⟨D, hD⟩ : ∃ D, dbl (s.data.toList.drop (k + 1)) = D := ⟨_, rfl⟩
        have HDD := Lib.hid hD
        by_cases hq : D.2.2 = 0
        · have hl := dbl_len (s.data.toList.drop (k + 1)) (by rw [hD]; exact hq)
          rw [hD, drop_len] at hl
          obtain ⟨k', hk'⟩ : ∃ k', k' = s.size - D.2.1 := ⟨_, rfl⟩
          have hat : dblAt s D = (k' : Int) := by unfold dblAt; rw [if_pos hq]; omega
          have E : Hid (app (acc ++ D.1) (unq f (s.data.toList.drop k')) = R) := eh (by
            rw [← hid_eq hP, HD.out, c2, unq_34 f (by rw [hD]; exact hq), app_app, hD, drop_len, List.drop_drop]; rw [show k + 1 + (s.size - (k + 1) - D.2.1) = k' by omega])
          have hk2 : k + 2 ≤ k' := by omega
          have hk3 : k' ≤ s.size := by omega
          have hdl : D.1.length + k + 1 < k' := by omega
          have C := dbl_call s (k + 1) ((k : Int) + 1) (by omega) wr hs (by omega) D HDD
          rw [hat, hq] at C
          have HC := Lib.hid C
          obtain ⟨D1, hD1⟩ : ∃ D1, D.1 = D1 := ⟨_, rfl⟩
          rw [hD1] at HC E hdl
          clear C hD hq hk' hat c2 hl HDD hD1
          go_wp2_with fail
          refine HC.out.mono ?_
          rintro e w1 ⟨rfl, hb⟩
          have hH1 := Lib.hid (has_below hH.out hb)
          clear hb
          go_wp2_with fail
          refine (writeString_any w _ _ D1 _ rfl hH1 (by omega)).mono ?_
          rintro e w2 ⟨rfl, h2⟩
          go_wp2
          go_roundw
          case rel => exact ⟨k', _, f, rfl, by omega, by rw [List.length_append]; omega, by omega, h2, E⟩
          case measure => simp [intOf]; omega
        · have E : Hid (R = ([], D.2.2)) := eh (by rw [← hid_eq hP, HD.out, c2, unq_34_no f (by rw [hD]; exact hq), hD, app_err _ hq])
          have C := dbl_call s (k + 1) ((k : Int) + 1) (by omega) wr hs (by omega) D HDD
          have b3 : (D.2.2 != 0) = true := by simpa using hq
          have HC := Lib.hid C
          clear C hD hq c2 HDD
          go_wp2_with fail
          refine HC.out.mono ?_
          rintro e w1 ⟨rfl, hb⟩
          have hH1 := Lib.hid (has_below hH.out hb)
          clear hb
          go_wp2
          go_ret2
          rw [hid_eq E]
          exact ⟨rt2_of rfl rfl, hH1.out.2⟩
      have b2 : ((s[k].toNat : Int) == 34) = false := b_ne c2 rfl
      by_cases c3 : s[k] = 92
      · have b3 : ((s[k].toNat : Int) == 92) = true := b_eq c3 rfl
        by_cases hend : k + 1 = s.size
        · have E : Hid (R = ([], 7)) := eh (by rw [← hid_eq hP, HD.out, drop_end s (k + 1) (by omega), c3, unq_92e, app_err _ (by decide)])
          have b5 : ((k : Int) + 1 == (s.size : Int)) = true := beq_iff_eq.2 (by omega)
          clear c1 c2 c3 hend
          go_wp2
          go_ret2
          rw [hid_eq E]
          exact ⟨rt2_of rfl rfl, hH.out.2⟩
        have b5 : ((k : Int) + 1 == (s.size : Int)) = false := beq_eq_false_iff_ne.2 (by omega)
        have hlt1 : k + 1 < s.size := by omega
        have HD1 := Lib.hid (drop_cons s (k + 1) hlt1)
        clear hend
        by_cases c4 : s[k + 1] = 10
        · have b6 : ((s[k + 1].toNat : Int) != 10) = false := b_eq' c4 rfl
          have E : Hid (app acc (unq f (s.data.toList.drop (k + 2))) = R) := eh (by rw [← hid_eq hP, HD.out, HD1.out, c3, c4, unq_92_10])
          clear c1 c2 c3 c4
          go_wp2
          go_roundw
          case rel => exact ⟨k + 2, acc, f, by go_num, by omega, by omega, by omega, hH, E⟩
          case measure => simp [intOf]; omega
        · have b6 : ((s[k + 1].toNat : Int) != 10) = true := b_ne' c4 rfl
          have E : Hid (app (acc ++ [s[k + 1]]) (unq f (s.data.toList.drop (k + 2))) = R) := eh (by rw [← hid_eq hP, HD.out, HD1.out, c3, unq_92 f _ c4, app_app])
          clear c1 c2 c3 c4
          go_wp2_with fail
          refine (writeByte_any w _ _ _ s[k + 1] rfl hH (by omega)).mono ?_
          rintro e w2 ⟨rfl, h2⟩
          go_wp2
          go_roundw
          case rel => exact ⟨k + 2, _, f, by go_num, by omega, by simp; omega, by omega, h2, E⟩
          case measure => simp [intOf]; omega
      have b3 : ((s[k].toNat : Int) == 92) = false := b_ne c3 rfl
      by_cases c4 : isOp s[k] = true
      · have E : Hid (R = ([], 6)) := eh (by rw [← hid_eq hP, HD.out, unq_op f _ c1 c2 c3 c4, app_err _ (by decide)])
        have hop : s[k] = 32 ∨ s[k] = 9 ∨ s[k] = 10 ∨ s[k] = 38 ∨ s[k] = 124 ∨ s[k] = 59 ∨ s[k] = 40 ∨ s[k] = 41 ∨ s[k] = 60 ∨ s[k] = 62 ∨ s[k] = 36 ∨ s[k] = 96 := by
          unfold isOp at c4
          simpa [or_assoc] using c4
        clear c1 c2 c3 c4
        rcases hop with h | h | h | h | h | h | h | h | h | h | h | h
        · have hv : (s[k].toNat : Int) = 32 := by rw [h]; rfl
          clear h
          go_wp2
          go_ret2
          rw [hid_eq E]
          exact ⟨rt2_of rfl rfl, hH.out.2⟩
        · have hv : (s[k].toNat : Int) = 9 := by rw [h]; rfl
          clear h
          go_wp2
          go_ret2
          rw [hid_eq E]
          exact ⟨rt2_of rfl rfl, hH.out.2⟩
        · have hv : (s[k].toNat : Int) = 10 := by rw [h]; rfl
          clear h
          go_wp2
          go_ret2
          rw [hid_eq E]
          exact ⟨rt2_of rfl rfl, hH.out.2⟩
        · have hv : (s[k].toNat : Int) = 38 := by rw [h]; rfl
          clear h
          go_wp2
          go_ret2
          rw [hid_eq E]
          exact ⟨rt2_of rfl rfl, hH.out.2⟩
        · have hv : (s[k].toNat : Int) = 124 := by rw [h]; rfl
          clear h
          go_wp2
          go_ret2
          rw [hid_eq E]
          exact ⟨rt2_of rfl rfl, hH.out.2⟩
        · have hv : (s[k].toNat : Int) = 59 := by rw [h]; rfl
          clear h
          go_wp2
          go_ret2
          rw [hid_eq E]
          exact ⟨rt2_of rfl rfl, hH.out.2⟩
        · have hv : (s[k].toNat : Int) = 40 := by rw [h]; rfl
          clear h
          go_wp2
          go_ret2
          rw [hid_eq E]
          exact ⟨rt2_of rfl rfl, hH.out.2⟩
        · have hv : (s[k].toNat : Int) = 41 := by rw [h]; rfl
          clear h
          go_wp2
          go_ret2
          rw [hid_eq E]
          exact ⟨rt2_of rfl rfl, hH.out.2⟩
        · have hv : (s[k].toNat : Int) = 60 := by rw [h]; rfl
          clear h
          go_wp2
          go_ret2
          rw [hid_eq E]
          exact ⟨rt2_of rfl rfl, hH.out.2⟩
        · have hv : (s[k].toNat : Int) = 62 := by rw [h]; rfl
          clear h
          go_wp2
          go_ret2
          rw [hid_eq E]
          exact ⟨rt2_of rfl rfl, hH.out.2⟩
        · have hv : (s[k].toNat : Int) = 36 := by rw [h]; rfl
          clear h
          go_wp2
          go_ret2
          rw [hid_eq E]
          exact ⟨rt2_of rfl rfl, hH.out.2⟩
        · have hv : (s[k].toNat : Int) = 96 := by rw [h]; rfl
          clear h
          go_wp2
          go_ret2
          rw [hid_eq E]
          exact ⟨rt2_of rfl rfl, hH.out.2⟩
      · have E : Hid (app (acc ++ [s[k]]) (unq f (s.data.toList.drop (k + 1))) = R) := eh (by rw [← hid_eq hP, HD.out, unq_other f _ c1 c2 c3 c4, app_app])
        unfold isOp at c4
        simp only [Bool.or_eq_true, beq_iff_eq, not_or] at c4
        obtain ⟨⟨⟨⟨⟨⟨⟨⟨⟨⟨⟨d1, d2⟩, d3⟩, d4⟩, d5⟩, d6⟩, d7⟩, d8⟩, d9⟩, d10⟩, d11⟩, d12⟩ := c4
        have e1 : ((s[k].toNat : Int) == 32) = false := b_ne d1 rfl
        have e2 : ((s[k].toNat : Int) == 9) = false := b_ne d2 rfl
        have e3 : ((s[k].toNat : Int) == 10) = false := b_ne d3 rfl
        have e4 : ((s[k].toNat : Int) == 38) = false := b_ne d4 rfl
        have e5 : ((s[k].toNat : Int) == 124) = false := b_ne d5 rfl
        have e6 : ((s[k].toNat : Int) == 59) = false := b_ne d6 rfl
        have e7 : ((s[k].toNat : Int) == 40) = false := b_ne d7 rfl
        have e8 : ((s[k].toNat : Int) == 41) = false := b_ne d8 rfl
        have e9 : ((s[k].toNat : Int) == 60) = false := b_ne d9 rfl
        have e10 : ((s[k].toNat : Int) == 62) = false := b_ne d10 rfl
        have e11 : ((s[k].toNat : Int) == 36) = false := b_ne d11 rfl
        have e12 : ((s[k].toNat : Int) == 96) = false := b_ne d12 rfl
        clear c1 c2 c3 d1 d2 d3 d4 d5 d6 d7 d8 d9 d10 d11 d12
        go_wp2_with fail
        refine (writeByte_any w _ _ _ s[k] rfl hH (by omega)).mono ?_
        rintro e w2 ⟨rfl, h2⟩
        go_wp2
        go_roundw
        case rel => exact ⟨k + 1, _, f, by go_num, by omega, by simp; omega, by omega, h2, E⟩
        case measure => simp [intOf]; omega
    · have E : Hid (R = (acc, 0)) := eh (by rw [← hid_eq hP, drop_end s k hlt, unq_nil]; simp [app])
      go_wp2_with fail
      refine (string_any w _ _ hH).mono ?_
      rintro e w2 ⟨rfl, h2⟩
      go_wp2
      go_ret2
      rw [hid_eq E]
      exact ⟨rt2_of rfl rfl, h2⟩
end Go.Proofs.YtmphbpkhaoaedaaDoor.Ch

/- strings.Replace of every "'" at this dump: at an old of one byte nothing of the library's variables is read. -/
import Derived.Test.YtphgcpoefpogfaaDoorBld
import Derived.Test.YtphgcpoefpogfaaDoorShelf
import Derived.WalkKit
import Derived.BigCall
import Derived.Lib.Hide
namespace Go.Proofs.YtphgcpoefpogfaaDoor.Rep
open Go.RowKit

def quo1 (c : UInt8) : List UInt8 := if c = 39 then [39, 92, 39, 39] else [c]
def quoAll (l : List UInt8) : List UInt8 := l.flatMap quo1
theorem quoAll_none {l : List UInt8} (h : l.count 39 = 0) : quoAll l = l := by
  induction l with
  | nil => rfl
  | cons c r ih =>
    have hc : ¬ c = 39 := by intro e; subst e; simp at h
    have hr : r.count 39 = 0 := by simpa [List.count_cons, hc] using h
    show quo1 c ++ quoAll r = _
    rw [ih hr, quo1, if_neg hc]; rfl
theorem quoAll_some {l : List UInt8} (h : 0 < l.count 39) : ∃ j : Nat, Lib.indexByte l 39 = (j : Int) ∧ j < l.length ∧ quoAll l = l.take j ++ [39, 92, 39, 39] ++ quoAll (l.drop (j + 1)) ∧ (l.drop (j + 1)).count 39 + 1 = l.count 39 := by
  induction l with
  | nil => simp at h
  | cons c r ih =>
    by_cases hc : c = 39
    · subst hc
      refine ⟨0, by simp [Lib.indexByte], by simp, rfl, by simp⟩
    · have hr : 0 < r.count 39 := by simpa [List.count_cons, hc] using h
      obtain ⟨j, h1, h2, h3, h4⟩ := ih hr
      refine ⟨j + 1, ?_, by simp; omega, ?_, ?_⟩
      · unfold Lib.indexByte
        rw [h1, if_neg (by simpa using hc), if_neg (by rw [beq_iff_eq]; omega)]
        omega
      · show quo1 c ++ quoAll r = _
        rw [h3, quo1, if_neg hc]; rfl
      · show (r.drop (j + 1)).count 39 + 1 = _
        rw [h4]
        simp [hc]
theorem quoAll_len (l : List UInt8) : (quoAll l).length ≤ 4 * l.length := by
  induction l with
  | nil => exact Nat.le_refl _
  | cons c r ih =>
    show (quo1 c ++ quoAll r).length ≤ _
    have : (quo1 c).length ≤ 4 := by unfold quo1; split <;> simp
    simp only [List.length_append, List.length_cons]
    omega
def HasB (w : World) (l : List UInt8) (wr : World) : Prop := Lib.IsBuilder 76 5 w.heap.size w.heap.size (Lib.byteCells l) wr ∧ Below w.heap.size w wr
theorem ws_any (w W : World) (l m : List UInt8) (t : ByteArray) (ht : t.data.toList = m) (h : Hid (HasB w l W)) (hl : l.length + m.length ≤ 100000000000000) :
    Calls Tryd.prog 66 #[.pointer (some ⟨w.heap.size, 0, none⟩), .string t] W fun e w' => e = .returned (.tuple #[.int .i64 t.size, .nilIface]) ∧ Hid (HasB w (l ++ m) w') := by
  subst ht
  have hsz := Lib.size_eq t
  refine (Tryd.b_WriteString w.heap.size w.heap.size _ t W h.1 (by rw [Lib.byteCells_length]; omega) h.2.size).mono ?_
  rintro e w' ⟨he, h1, hb⟩
  rw [Lib.strCells_eq, ← Lib.byteCells_append] at h1
  exact ⟨he, .inr h1, h.2.trans hb⟩
theorem str_any (w W : World) (l : List UInt8) (h : Hid (HasB w l W)) :
    Calls Tryd.prog 68 #[.pointer (some ⟨w.heap.size, 0, none⟩)] W fun e w' => e = .returned (.string ⟨l.toArray⟩) ∧ Below w.heap.size w w' := by
  refine (Tryd.Builder_String_any w.heap.size w.heap.size l W h.1 h.2.size).mono ?_
  rintro e w' ⟨he, hb⟩
  exact ⟨he, h.2.trans hb⟩
theorem grow_any (w : World) (n : Nat) (x : Int) (hx : x = (n : Int)) (hn : n ≤ 100000000000000) :
    Calls Tryd.prog 64 #[.pointer (some ⟨w.heap.size, 0, none⟩), .int .i64 x] (w.alloc (.cells #[.pointer none, .slice none 0 0] 76)) fun e w' => e = .returned (.tuple #[]) ∧ Hid (HasB w [] w') := by
  subst hx
  refine (Tryd.Builder_Grow_fresh w.heap.size w.heap.size n _ (Nat.le_refl _) (heap_alloc_new w _) (by simp) (by omega)).mono ?_
  rintro e w' ⟨he, h1, hb⟩
  exact ⟨he, .inr h1, ((Below.refl w.heap.size w).alloc (Nat.le_refl _) _).trans hb⟩
theorem hd {α : Type} {a b : α} (h : Hid (a = b)) : a = b := h
theorem mkh {α : Type} {a b : α} (h : a = b) : Hid (a = b) := h
theorem rs_of {x y : List UInt8} (h1 : x = y) : Ending.returned (.string ⟨x.toArray⟩) = Ending.returned (.string ⟨y.toArray⟩) := by
  subst h1; rfl

set_option maxHeartbeats 8000000 in
set_option maxRecDepth 100000 in
theorem replace_walk (s : ByteArray) (w : World) (hs : s.size ≤ 10000000000) :
    Calls Tryd.prog 56 #[.string s, .string ⟨#[39]⟩, .string ⟨#[39, 92, 39, 39]⟩, .int .i64 (-1)] w fun e w' => e = .returned (.string ⟨(quoAll s.data.toList).toArray⟩) ∧ Below w.heap.size w w' := by
  have hC := Tryd.strings_Count_one s 39 w
  obtain ⟨n, hn⟩ : ∃ n : Nat, s.data.toList.count 39 = n := ⟨_, rfl⟩
  rw [show Lib.countByte s.data.toList 39 = n from hn] at hC
  have HC := Lib.hid hC
  have hns : n ≤ s.size := by rw [← hn, Lib.size_eq s]; exact List.count_le_length
  clear hC
  by_cases h0 : n = 0
  · subst h0
    have HQ := mkh (quoAll_none hn)
    clear hn
    go_enter Tryd.func56, Tryd.ntmps56
    go_wp2_with fail
    refine HC.out.mono ?_
    rintro e w1 ⟨rfl, rfl⟩
    go_wp2
    go_ret
    rw [hd HQ]
    exact ⟨rfl, Below.refl _ _⟩
  have b0 : ((n : Int) == 0) = false := beq_eq_false_iff_ne.2 (by omega)
  have HN := mkh hn
  clear hn
  have hn1 : (0 : Int) < (n : Int) := by omega
  clear h0
  go_enter Tryd.func56, Tryd.ntmps56
  go_wp2_with fail
  refine HC.out.mono ?_
  rintro e w1 ⟨rfl, rfl⟩
  go_wp2_with fail
  refine (grow_any _ (s.size + n * 3) _ (by omega) (by omega)).mono ?_
  rintro e w2 ⟨rfl, h2⟩
  go_wp2_with fail
  go_loopg [11, 53] n (fun g s11 s53 wx => ∃ (i start : Nat) (acc : List UInt8), s53 = .int .i64 i ∧ s11 = .int .i64 start ∧ i + g = n ∧ start ≤ s.size ∧ acc.length ≤ 4 * start ∧ Hid (HasB w1 acc wx) ∧ Hid ((s.data.toList.drop start).count 39 = g) ∧ Hid (acc ++ quoAll (s.data.toList.drop start) = quoAll s.data.toList))
  case atStart => exact ⟨0, 0, [], rfl, rfl, by omega, Nat.zero_le _, Nat.zero_le _, h2, HN, mkh rfl⟩
  case round =>
    obtain ⟨i, start, acc, rfl, rfl, hig, hst, hal, hH, hcnt, hR⟩ := hrel
    have i1 : (0 : Int) ≤ (start : Int) := by omega
    have i2 : (start : Int) ≤ (s.size : Int) := by omega
    have hx : (s.extract start s.size).data.toList = s.data.toList.drop start := Lib.extract_to_end s start
    cases gk with
    | zero =>
      have hiK : ¬ ((i : Int) < (n : Int)) := by omega
      have HE := mkh (show acc ++ s.data.toList.drop start = quoAll s.data.toList by rw [← hd hR, quoAll_none (hd hcnt)])
      have HX := mkh hx
      have hdl : (s.data.toList.drop start).length = s.size - start := by rw [List.length_drop]; rfl
      have HDL := mkh hdl
      clear hx hdl
      go_wp2_with fail
      refine (ws_any w1 _ _ _ _ (hd HX) hH (by rw [hd HDL]; omega)).mono ?_
      rintro e w3 ⟨rfl, h3⟩
      go_wp2_with fail
      refine (str_any w1 _ _ h3).mono ?_
      rintro e w4 ⟨rfl, h4⟩
      go_wp2
      go_ret
      exact ⟨rs_of (hd HE), h4⟩
    | succ g =>
      have hiK : (i : Int) < (n : Int) := by omega
      obtain ⟨j, q1, q2, q3, q4⟩ := quoAll_some (l := s.data.toList.drop start) (by rw [hd hcnt]; omega)
      rw [List.length_drop, show s.data.toList.length = s.size from rfl] at q2
      have C := Tryd.strings_Index_one (s.extract start s.size) 39 wr
      rw [hx, q1] at C
      have HCI := Lib.hid C
      have hy : (s.extract start (start + j)).data.toList = (s.data.toList.drop start).take j := by
        rw [Lib.extract_data, show start + j - start = j by omega]
      have HY := mkh hy
      have htl : ((s.data.toList.drop start).take j).length = j := by rw [List.length_take, List.length_drop, show s.data.toList.length = s.size from rfl]; omega
      have HTL := mkh htl
      have E : Hid ((acc ++ (s.data.toList.drop start).take j ++ [39, 92, 39, 39]) ++ quoAll (s.data.toList.drop (start + j + 1)) = quoAll s.data.toList) := mkh (by
        rw [← hd hR, q3, List.drop_drop]; simp [Nat.add_assoc])
      have C2 : Hid ((s.data.toList.drop (start + j + 1)).count 39 = g) := mkh (by
        rw [List.drop_drop, hd hcnt] at q4; rw [show start + j + 1 = start + (j + 1) by omega]; omega)
      clear C hx hy htl q1 q3 q4 hR hcnt
      have c3 : (start : Int) ≤ (start : Int) + (j : Int) := by omega
      have c4 : (start : Int) + (j : Int) ≤ (s.size : Int) := by omega
      go_wp2_with fail
      refine HCI.out.mono ?_
      rintro e w3 ⟨rfl, rfl⟩
      go_wp2_with fail
      refine (ws_any w1 _ _ _ _ (hd HY) hH (by rw [hd HTL]; omega)).mono ?_
      rintro e w4 ⟨rfl, h4⟩
      go_wp2_with fail
      refine (ws_any w1 _ _ [39, 92, 39, 39] _ rfl h4 (by rw [List.length_append, hd HTL]; simp; omega)).mono ?_
      rintro e w5 ⟨rfl, h5⟩
      go_wp2
      go_roundg g
      case measure => omega
      case rel => exact ⟨i + 1, start + j + 1, _, by go_num, by go_num, by omega, by omega, by simp only [List.length_append, hd HTL, List.length_cons, List.length_nil]; omega, h5, C2, E⟩

theorem replaceAll_walk (s : ByteArray) (w : World) (hs : s.size ≤ 10000000000) :
    Calls Tryd.prog 49 #[.string s, .string ⟨#[39]⟩, .string ⟨#[39, 92, 39, 39]⟩] w fun e w' => e = .returned (.string ⟨(quoAll s.data.toList).toArray⟩) ∧ Below w.heap.size w w' := by
  have C := Lib.hid (replace_walk s w hs)
  go_enter Tryd.func49, Tryd.ntmps49
  go_wp2_with fail
  refine C.out.mono ?_
  rintro e w1 ⟨rfl, h1⟩
  go_wp2
  go_ret
  exact ⟨rfl, h1⟩
end Go.Proofs.YtphgcpoefpogfaaDoor.Rep

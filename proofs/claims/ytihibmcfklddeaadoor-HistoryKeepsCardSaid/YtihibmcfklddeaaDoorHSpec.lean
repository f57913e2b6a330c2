/- The plain word of history.last: the index of the last string that fulfils a condition, or -1. The plain words of history.Load: the lines of a text, the number that stands in its first. The histories' functions in plain words, and the bounds within which they are said. -/
import Derived.Test.YtihibmcfklddeaaDoorProg
import Derived.Test.YtihibmcfklddeaaDoorShelf
namespace Go.Proofs.YtihibmcfklddeaaDoor.HF
set_option linter.unusedVariables false
set_option linter.unusedSimpArgs false
open Go.RowKit
def lastIx (p : ByteArray → Bool) : List ByteArray → Int
  | [] => -1
  | x :: r => if 0 ≤ lastIx p r then lastIx p r + 1 else if p x then 0 else -1
theorem lastIx_lo (p : ByteArray → Bool) : ∀ l, -1 ≤ lastIx p l
  | [] => by simp [lastIx]
  | x :: r => by
    have := lastIx_lo p r
    simp only [lastIx]
    split
    · omega
    · split <;> omega
theorem lastIx_none {p : ByteArray → Bool} : ∀ {l : List ByteArray}, (∀ j (h : j < l.length), p l[j] = false) → lastIx p l = -1
  | [], _ => rfl
  | x :: r, h => by
    have h1 : lastIx p r = -1 := lastIx_none fun j hj => h (j + 1) (by simp; omega)
    have h0 : p x = false := h 0 (by simp)
    simp [lastIx, h1, h0]
theorem lastIx_some {p : ByteArray → Bool} : ∀ {l : List ByteArray} (k : Nat) (hk : k < l.length), p l[k] = true → (∀ j (h : j < l.length), k < j → p l[j] = false) → lastIx p l = (k : Int)
  | [], k, hk, _, _ => by simp at hk
  | x :: r, 0, hk, hp, h => by
    have h1 : lastIx p r = -1 := lastIx_none fun j hj => h (j + 1) (by simp; omega) (by omega)
    have h0 : p x = true := hp
    simp [lastIx, h1, h0]
  | x :: r, k + 1, hk, hp, h => by
    have h1 : lastIx p r = (k : Int) := lastIx_some k (by simpa using hk) hp fun j hj hlt => h (j + 1) (by simp; omega) (by omega)
    simp [lastIx, h1]
theorem lastIx_hi (p : ByteArray → Bool) : ∀ l, lastIx p l < (l.length : Int) ∨ l = []
  | [] => .inr rfl
  | x :: r => by
    left
    have := lastIx_hi p r
    simp only [lastIx, List.length_cons]
    split
    · rcases this with h | rfl
      · omega
      · simp [lastIx] at *
    · split <;> omega
def numAt (a i : Int) : Int × Bool := if i < 0 then (0, false) else (wrap64 (a + i), true)
def wordBegins (s x : ByteArray) : Bool := Lib.hasPrefix x.data.toList s.data.toList
def wordContains (s x : ByteArray) : Bool := Lib.contains x.data.toList s.data.toList
end Go.Proofs.YtihibmcfklddeaaDoor.HF
namespace Go.Proofs.YtihibmcfklddeaaDoor.HL
set_option linter.unusedVariables false
set_option linter.unusedSimpArgs false
open Go.RowKit

/-- A text cut at every line feed. -/
def splitNL : List UInt8 → List (List UInt8)
  | [] => [[]]
  | c :: r => if c = 10 then [] :: splitNL r else match splitNL r with | h :: t => (c :: h) :: t | [] => [[c]]
theorem splitNL_ne : ∀ l, splitNL l ≠ []
  | [] => by simp [splitNL]
  | c :: r => by
    unfold splitNL
    split
    · simp
    · split <;> simp
theorem splitNL_miss : ∀ {s : List UInt8}, Lib.indexByte s 10 = -1 → splitNL s = [s]
  | [], _ => rfl
  | c :: r, h => by
    have h10 : c ≠ 10 := by rintro rfl; simp [Lib.indexByte] at h
    have hr : Lib.indexByte r 10 = -1 := by
      unfold Lib.indexByte at h
      simp only [beq_eq_false_iff_ne.2 h10, Bool.false_eq_true, if_false] at h
      split at h
      · rename_i h'; simpa using h'
      · have := Lib.indexByte_ge r 10
        omega
    rw [splitNL, if_neg h10, splitNL_miss hr]
theorem splitNL_hit : ∀ {s : List UInt8} {i : Nat}, Lib.indexByte s 10 = (i : Int) → splitNL s = s.take i :: splitNL (s.drop (i + 1))
  | [], i, h => by simp [Lib.indexByte] at h <;> omega
  | c :: r, i, h => by
    by_cases h10 : c = 10
    · subst h10
      have hi : i = 0 := by simp [Lib.indexByte] at h; omega
      subst hi
      simp [splitNL]
    · unfold Lib.indexByte at h
      simp only [beq_eq_false_iff_ne.2 h10, Bool.false_eq_true, if_false] at h
      split at h
      · omega
      · rename_i hne
        have hne' : Lib.indexByte r 10 ≠ -1 := by simpa using hne
        have hg := Lib.indexByte_ge r 10
        obtain ⟨j, rfl⟩ : ∃ j, i = j + 1 := ⟨i - 1, by omega⟩
        have hr : Lib.indexByte r 10 = (j : Int) := by omega
        rw [splitNL, if_neg h10, splitNL_hit hr]
        simp
theorem splitK_NL : ∀ (n : Nat) (s : List UInt8), s.length ≤ n → Lib.splitK [10] 0 (Lib.count s [10]) s = splitNL s := by
  intro n
  induction n with
  | zero =>
    intro s hs
    obtain rfl := List.eq_nil_of_length_eq_zero (Nat.le_zero.1 hs)
    rw [Lib.count_miss (by rw [Lib.index_one]; rfl)]
    rfl
  | succ n ih =>
    intro s hs
    by_cases h : Lib.indexByte s 10 = -1
    · rw [Lib.count_miss (by rw [Lib.index_one]; exact h), splitNL_miss h]
      rfl
    · have hg := Lib.indexByte_ge s 10
      obtain ⟨i, hi⟩ : ∃ i : Nat, Lib.indexByte s 10 = (i : Int) := ⟨(Lib.indexByte s 10).toNat, by omega⟩
      have hi' : Lib.index s [10] = (i : Int) := by rw [Lib.index_one]; exact hi
      have hne : s ≠ [] := by rintro rfl; simp [Lib.indexByte] at hi <;> omega
      have hpos : 0 < s.length := List.length_pos_iff.2 hne
      rw [Lib.count_hit (by simp) hi', Nat.add_comm 1, Lib.splitK, hi', if_neg (by simp <;> omega), splitNL_hit hi]
      simp only [Int.toNat_natCast, Nat.add_zero, List.length_singleton]
      rw [ih _ (by simp; omega)]
/-- The same over strings. -/
def splitL (s : ByteArray) : List ByteArray := (splitNL s.data.toList).map (fun l => ⟨l.toArray⟩)
theorem splitB_L (s : ByteArray) : Lib.splitB ⟨#[10]⟩ 0 (Lib.countB s ⟨#[10]⟩) s = splitL s := by
  have h := Lib.splitB_data ⟨#[10]⟩ 0 (Lib.countB s ⟨#[10]⟩) s
  have h2 : Lib.splitK [10] 0 (Lib.count s.data.toList [10]) s.data.toList = splitNL s.data.toList := splitK_NL _ _ (Nat.le_refl _)
  unfold splitL
  rw [← h2]
  have h3 : Lib.splitK [10] 0 (Lib.count s.data.toList [10]) s.data.toList = (Lib.splitB ⟨#[10]⟩ 0 (Lib.countB s ⟨#[10]⟩) s).map (·.data.toList) := h.symm
  rw [h3, List.map_map]
  have : ((fun l : List UInt8 => (⟨l.toArray⟩ : ByteArray)) ∘ fun x : ByteArray => x.data.toList) = id := by
    funext x
    rfl
  rw [this, List.map_id]
theorem split_lenK : ∀ (n : Nat) (s : List UInt8), s.length ≤ n → (splitNL s).length = Lib.count s [10] + 1 := by
  intro n
  induction n with
  | zero =>
    intro s hs
    obtain rfl := List.eq_nil_of_length_eq_zero (Nat.le_zero.1 hs)
    rw [Lib.count_miss (by rw [Lib.index_one]; rfl)]
    rfl
  | succ n ih =>
    intro s hs
    by_cases h : Lib.indexByte s 10 = -1
    · rw [Lib.count_miss (by rw [Lib.index_one]; exact h), splitNL_miss h]
      rfl
    · have hg := Lib.indexByte_ge s 10
      obtain ⟨i, hi⟩ : ∃ i : Nat, Lib.indexByte s 10 = (i : Int) := ⟨(Lib.indexByte s 10).toNat, by omega⟩
      have hi' : Lib.index s [10] = (i : Int) := by rw [Lib.index_one]; exact hi
      have hne : s ≠ [] := by rintro rfl; simp [Lib.indexByte] at hi <;> omega
      have hpos : 0 < s.length := List.length_pos_iff.2 hne
      rw [Lib.count_hit (by simp) hi', splitNL_hit hi, List.length_cons, ih _ (by simp; omega)]
      simp only [List.length_singleton]
      omega
theorem split_len (t : ByteArray) : Lib.countB t ⟨#[10]⟩ + 1 = (splitL t).length := by
  unfold splitL
  rw [List.length_map]
  exact (split_lenK _ _ (Nat.le_refl _)).symm
theorem splitL_ne (s : ByteArray) : splitL s ≠ [] := by
  unfold splitL
  intro h
  exact splitNL_ne _ (List.map_eq_nil_iff.1 h)
theorem splitNL_sizes : ∀ (s : List UInt8), ∀ x ∈ splitNL s, x.length ≤ s.length
  | [], x, h => by simp [splitNL] at h; simp [h]
  | c :: r, x, h => by
    have ih := splitNL_sizes r
    unfold splitNL at h
    split at h
    · rcases List.mem_cons.1 h with rfl | h
      · simp
      · have := ih x h
        simp only [List.length_cons]
        omega
    · split at h
      · rename_i a t e
        rcases List.mem_cons.1 h with rfl | h
        · have := ih a (by rw [e]; exact List.mem_cons_self)
          simp only [List.length_cons]
          omega
        · have := ih x (by rw [e]; exact List.mem_cons_of_mem _ h)
          simp only [List.length_cons]
          omega
      · simp at h
        subst h
        simp
theorem split_sizes (s : ByteArray) : ∀ x ∈ splitL s, x.size ≤ s.size := by
  intro x hx
  unfold splitL at hx
  obtain ⟨l, hl, rfl⟩ := List.mem_map.1 hx
  have := splitNL_sizes _ l hl
  have hs : s.data.toList.length = s.size := rfl
  show (List.toArray l).size ≤ _
  simp
  omega
theorem splitNL_len : ∀ (s : List UInt8), (splitNL s).length ≤ s.length + 1
  | [] => by simp [splitNL]
  | c :: r => by
    have ih := splitNL_len r
    unfold splitNL
    split
    · simp only [List.length_cons]; omega
    · split
      · rename_i a t e
        rw [e] at ih
        simp only [List.length_cons] at ih ⊢
        omega
      · simp
theorem splitL_len (s : ByteArray) : (splitL s).length ≤ s.size + 1 := by
  unfold splitL
  rw [List.length_map]
  exact splitNL_len _
/-- The decimal digits, by rounds. -/
def digs : Nat → Nat → List UInt8
  | 0, _ => []
  | k + 1, u => if u < 10 then [UInt8.ofNat (48 + u)] else digs k (u / 10) ++ [UInt8.ofNat (48 + u % 10)]
theorem digs_eq : ∀ (k u : Nat), u < 10 ^ (k + 1) → digs (k + 1) u = Lib.decDigits u
  | 0, u, h => by
    have hu : u < 10 := by simpa using h
    rw [digs, Lib.decDigits, if_pos hu, dif_pos hu]
  | k + 1, u, h => by
    rw [digs, Lib.decDigits]
    split
    · rfl
    · rw [digs_eq k (u / 10) (by rw [Nat.pow_succ] at h; omega)]
def itoaP (n : Int) : List UInt8 := if n < 0 then 45 :: digs 20 n.natAbs else digs 20 n.toNat
theorem itoaP_eq (n : Int) (h0 : -9223372036854775808 ≤ n) (h1 : n ≤ 9223372036854775807) : itoaP n = Lib.itoa n := by
  unfold itoaP Lib.itoa
  split
  · rw [digs_eq 19 _ (by omega)]
  · rw [digs_eq 19 _ (by omega)]
/-- The number from 1 to the greatest that a line spells just as the program prints it. -/
def numOf (h : ByteArray) : Option Int :=
  match Lib.atoiAll h.data.toList with
  | .ok v => if v < 1 then none else if 2147483647 < v then none else if itoaP v = h.data.toList then some v else none
  | _ => none
/-- What Valid says of a history. -/
def badLine (x : ByteArray) : Option Int := if x.data.toList = [] then some 1 else if (10 : UInt8) ∈ x.data.toList then some 1 else if 4096 < x.size then some 3 else none
def badFrom : Option (List UInt8) → List ByteArray → Int
  | _, [] => 0
  | p, x :: r => match badLine x with | some e => e | none => if p = some x.data.toList then 9 else badFrom (some x.data.toList) r
def validP (a : Int) (l : List ByteArray) : Int := if 128 < l.length then 4 else if a < 1 then 2 else if 2147483519 < a then 2 else badFrom none l
def loadP (s : ByteArray) : Int × List ByteArray × Int :=
  if Lib.hasSuffix s.data.toList [10] then
    match splitL ⟨(s.data.toList.take (s.data.toList.length - 1)).toArray⟩ with
    | [] => (0, [], 6)
    | h :: r => match numOf h with
      | none => (0, [], 6)
      | some n => if validP n r = 0 then (n, r, 0) else (0, [], validP n r)
  else (0, [], 28)
end Go.Proofs.YtihibmcfklddeaaDoor.HL
namespace Go.Proofs.YtihibmcfklddeaaDoor.HL
set_option linter.unusedVariables false
set_option linter.unusedSimpArgs false
open Go.RowKit

def rngB (a : Int) : Bool := decide (0 ≤ a) && decide (a ≤ 4611686018427387904)
def smB (l : List ByteArray) : Bool := decide (l.length ≤ 400) && l.all (fun x => decide (x.size ≤ 1000000))
theorem smB_len {l : List ByteArray} (h : smB l = true) : l.length ≤ 400 := by
  unfold smB at h
  rw [Bool.and_eq_true] at h
  exact of_decide_eq_true h.1
theorem smB_all {l : List ByteArray} (h : smB l = true) : ∀ x ∈ l, x.size ≤ 1000000 := by
  unfold smB at h
  rw [Bool.and_eq_true] at h
  intro x hx
  exact of_decide_eq_true (List.all_eq_true.1 h.2 x hx)
theorem smB_mk {l : List ByteArray} (h1 : l.length ≤ 400) (h2 : ∀ x ∈ l, x.size ≤ 1000000) : smB l = true := by
  unfold smB
  rw [Bool.and_eq_true]
  exact ⟨decide_eq_true h1, List.all_eq_true.2 fun x hx => decide_eq_true (h2 x hx)⟩
theorem rngB_iff {a : Int} : rngB a = true ↔ 0 ≤ a ∧ a ≤ 4611686018427387904 := by unfold rngB; simp

def sizes : List ByteArray → Nat
  | [] => 0
  | x :: r => x.size + sizes r
def smallP (l : List ByteArray) : Bool := decide (l.length ≤ 140) && decide (sizes l < 30000)
def lastB (l : List ByteArray) : Option (List UInt8) := l.getLast?.map (·.data.toList)
def addP (a : Int) (l : List ByteArray) (x : ByteArray) : Int × List ByteArray × Int :=
  if (10 : UInt8) ∈ x.data.toList then (a, l, 1) else if 4096 < x.size then (a, l, 3) else if x.data.toList = [] then (a, l, 0) else if lastB l = some x.data.toList then (a, l, 0)
  else if 128 < (l ++ [x]).length then if 2147483519 ≤ a then (a, l, 4) else (a + 1, (l ++ [x]).drop 1, 0) else (a, l ++ [x], 0)
def getP (a : Int) (l : List ByteArray) (n : Int) : ByteArray × Int := if a ≤ n ∧ n - a < l.length then (l.getD (n - a).toNat ByteArray.empty, 0) else (⟨#[]⟩, 8)
def numP (a i : Int) : Int × Bool := if i < 0 then (0, false) else (a + i, true)
def beginsP (a : Int) (l : List ByteArray) (s : ByteArray) : Int × Bool := numP a (HF.lastIx (HF.wordBegins s) l)
def containsP (a : Int) (l : List ByteArray) (s : ByteArray) : Int × Bool := numP a (HF.lastIx (HF.wordContains s) l)
def linesB : List ByteArray → List UInt8
  | [] => []
  | x :: r => x.data.toList ++ 10 :: linesB r
def saveP (a : Int) (l : List ByteArray) : ByteArray := ⟨(itoaP a ++ 10 :: linesB l).toArray⟩
def sameP (a : Int) (l : List ByteArray) (b : Int) (m : List ByteArray) : Bool := decide (a = b) && decide (l.map (·.data.toList) = m.map (·.data.toList))
theorem sameP_iff {a b : Int} {l m : List ByteArray} : sameP a l b m = true ↔ a = b ∧ l = m := by
  unfold sameP
  rw [Bool.and_eq_true, decide_eq_true_iff, decide_eq_true_iff]
  refine and_congr_right fun _ => ⟨fun h => ?_, fun h => by rw [h]⟩
  have hi : ∀ x y : ByteArray, x.data.toList = y.data.toList → x = y := by
    rintro ⟨x⟩ ⟨y⟩ h
    exact congrArg _ (Array.toList_inj.1 h)
  exact (List.map_inj_right hi).1 h
end Go.Proofs.YtihibmcfklddeaaDoor.HL

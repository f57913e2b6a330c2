/- The jobs in plain words: one word for each function, no rounds. -/
import Derived.Test.YthafbimhmfjcoaaDoorPVx0
namespace Go.Proofs.YthafbimhmfjcoaaDoor.JP
set_option linter.unusedVariables false
open Go.Proofs.YthafbimhmfjcoaaDoor.PV
abbrev Jb := S35
def kindP (s : Int) : Int × Int :=
  if s < 0 ∨ 768 < s then (-1, 0) else if (s / 256 = 1 ∨ s / 256 = 2) ∧ (s % 256 < 1 ∨ 20 < s % 256) then (-1, 0) else (s / 256, s % 256)
def endB (s : Int) : Bool := decide (0 ≤ s) && (decide (s ≤ 255) || decide (257 ≤ s) && decide (s ≤ 276))
def heldB (s : Int) : Bool := decide (513 ≤ s) && decide (s ≤ 532)
def waitB (s : Int) : Bool := endB s || heldB s || decide (s = 768)
def knownB (s : Int) : Bool := decide (s = -1) || endB s || heldB s
def stateP (l : List Int) : Int := if l.all (fun s => endB s || heldB s) = true then (if l.all endB = true then 3 else if l.any heldB = true then 2 else 1) else 1
def numB (n : Int) : Bool := decide (1 ≤ n) && decide (n ≤ 2147483647)
def hasB (l : List Int) (n : Int) : Bool := l.any (fun x => decide (x = n))
def memB (l : List Jb) (p : Int) : Bool := l.any (fun j => hasB j.f3 p)
def namedB (l : List Jb) (n : Int) : Bool := l.any (fun j => decide (j.f0 = n))
def freshB (l : List Jb) : List Int → List Int → Bool
  | before, [] => true
  | before, p :: r => !(hasB before p || memB l p) && freshB l (before ++ [p]) r
def oneP (l : List Jb) (j : Jb) : Int :=
  if j.f0 < 1 ∨ 32 < j.f0 ∨ j.f1 < 1 ∨ 2147483647 < j.f1 ∨ j.f3.length = 0 ∨ j.f4.length ≠ j.f3.length then 1
  else if 4096 < j.f5.size then 3
  else if (j.f3.all numB && j.f4.all knownB) = false then 1
  else if namedB l j.f0 = true then 9
  else if freshB l [] j.f3 = false then 9
  else if j.f2 ≠ stateP j.f4 then 25
  else 0
def validFrom : List Jb → List Jb → Int
  | before, [] => 0
  | before, j :: r => if oneP before j ≠ 0 then oneP before j else validFrom (before ++ [j]) r
def validP (l : List Jb) : Int := if 32 < l.length then 4 else validFrom [] l
def freeP (l : List Jb) : Nat → Int → Int
  | 0, n => n
  | d + 1, n => if namedB l n = true then freeP l d (n + 1) else n
def newJ (l : List Jb) (g : Int) (ps : List Int) (t : ByteArray) : Jb := ⟨freeP l 40 1, g, 1, ps, ps.map (fun _ => -1), t, true⟩
def addP (l : List Jb) (g : Int) (ps : List Int) (t : ByteArray) : List Jb × Int × Int :=
  if 32 ≤ l.length then (l, 0, 4)
  else if g < 1 ∨ 2147483647 < g ∨ ps.length = 0 then (l, 0, 1)
  else if ps.all numB = false then (l, 0, 1)
  else if freshB l [] ps = false then (l, 0, 9)
  else if 4096 < t.size then (l, 0, 3)
  else (l ++ [newJ l g ps t], freeP l 40 1, 0)
def statsP (pid s : Int) : List Int → List Int → List Int
  | p :: ps, x :: xs => (if p = pid then s else x) :: statsP pid s ps xs
  | _, xs => xs
def contP (s : Int) : Int := if s = 768 then -1 else s
def chg (pid s : Int) (j : Jb) : Jb :=
  ⟨j.f0, j.f1, stateP (statsP pid s j.f3 j.f4), j.f3, statsP pid s j.f3 j.f4, j.f5, if stateP (statsP pid s j.f3 j.f4) ≠ j.f2 then false else j.f6⟩
def moveB (old new : Jb) : Bool := decide (new.f2 ≠ old.f2) && decide (new.f2 = 2)
def updAt (pid s : Int) : List Jb → List Jb
  | [] => []
  | j :: r => if hasB j.f3 pid = true then (if moveB j (chg pid s j) = true then r ++ [chg pid s j] else chg pid s j :: r) else j :: updAt pid s r
def updP (l : List Jb) (pid s : Int) : List Jb × Bool :=
  if memB l pid = true ∧ waitB s = true then (updAt pid (contP s) l, true) else (l, false)
def lastOf (p : Int → Jb → Bool) : Int → Int → List Jb → Int
  | i, found, [] => found
  | i, found, j :: r => lastOf p (i + 1) (if p i j = true then i else found) r
def curP (l : List Jb) (skip : Int) : Int :=
  if 0 ≤ lastOf (fun i j => decide (i ≠ skip) && decide (j.f2 = 2)) 0 (-1) l then lastOf (fun i j => decide (i ≠ skip) && decide (j.f2 = 2)) 0 (-1) l else lastOf (fun i _ => decide (i ≠ skip)) 0 (-1) l
def cursP (l : List Jb) : Int × Int := if curP l (-1) < 0 then (-1, -1) else (curP l (-1), curP l (curP l (-1)))
def digs : Nat → Nat → List UInt8
  | 0, _ => []
  | k + 1, u => if u < 10 then [UInt8.ofNat (48 + u)] else digs k (u / 10) ++ [UInt8.ofNat (48 + u % 10)]
def itoaP (n : Int) : List UInt8 := if n < 0 then 45 :: digs 20 n.natAbs else digs 20 n.toNat
def wordP (n : Int) : List UInt8 :=
  if n = 1 then [72, 85, 80]
  else if n = 2 then [73, 78, 84]
  else if n = 3 then [81, 85, 73, 84]
  else if n = 4 then [84, 84, 73, 78]
  else if n = 5 then [84, 84, 79, 85]
  else if n = 9 then [75, 73, 76, 76]
  else if n = 10 then [85, 83, 82, 49]
  else if n = 12 then [85, 83, 82, 50]
  else if n = 13 then [80, 73, 80, 69]
  else if n = 14 then [65, 76, 82, 77]
  else if n = 15 then [84, 69, 82, 77]
  else if n = 17 then [67, 72, 76, 68]
  else if n = 18 then [67, 79, 78, 84]
  else if n = 19 then [83, 84, 79, 80]
  else if n = 20 then [84, 83, 84, 80]
  else [83, 105, 103, 110, 97, 108, 32] ++ itoaP n
def descP (s : Int) : List UInt8 :=
  if (kindP s).1 = 0 then (if (kindP s).2 = 0 then [68, 111, 110, 101] else [69, 120, 105, 116, 32] ++ itoaP (kindP s).2)
  else if (kindP s).1 = 1 then wordP (kindP s).2
  else if (kindP s).1 = 2 then [83, 116, 111, 112, 112, 101, 100]
  else if (kindP s).1 = 3 then [82, 117, 110, 110, 105, 110, 103]
  else []
def wordJ (j : Jb) : List UInt8 := if j.f2 = 2 then [83, 116, 111, 112, 112, 101, 100] else if j.f2 = 3 then (match j.f4.getLast? with | none => [] | some s => descP s) else [82, 117, 110, 110, 105, 110, 103]
def markP (l : List Jb) (i : Int) : UInt8 := if i = (cursP l).1 then 43 else if i = (cursP l).2 then 45 else 32
def lineJ (j : Jb) (m : UInt8) (long : Bool) : List UInt8 := 91 :: itoaP j.f0 ++ 93 :: m :: 32 :: (if long = true then itoaP j.f1 ++ [32] else []) ++ wordJ j ++ 32 :: 32 :: j.f5.data.toList
def lineP (l : List Jb) (i : Int) (long : Bool) : List UInt8 := if i < 0 then [] else match l[i.toNat]? with | none => [] | some j => lineJ j (markP l i) long
def isDigB (c : UInt8) : Bool := decide (48 ≤ c.toNat) && decide (c.toNat ≤ 57)
def valD : List UInt8 → Nat → Nat
  | [], a => a
  | c :: r, a => valD r (a * 10 + (c.toNat - 48))
def digsB (r : List UInt8) : Bool := r.all isDigB && !r.isEmpty && decide (r.head? ≠ some 48)
def onlyP (p : Jb → Bool) : Int → Int → List Jb → Int × Int
  | _, f, [] => if f < 0 then (0, 8) else (f, 0)
  | i, f, j :: r => if p j = true then (if 0 ≤ f then (0, 26) else onlyP p (i + 1) i r) else onlyP p (i + 1) f r
def atP (i : Int) : Int × Int := if i < 0 then (0, 8) else (i, 0)
def numJ (r : List UInt8) (j : Jb) : Bool := decide (r.length ≤ 9) && decide (j.f0 = (valD r 0 : Int))
def findR (l : List Jb) (r : List UInt8) : Int × Int :=
  if r = [63] then (0, 6)
  else if r = [] ∨ r = [37] ∨ r = [43] then atP (cursP l).1
  else if r = [45] then atP (cursP l).2
  else if digsB r = true then onlyP (numJ r) 0 (-1) l
  else if r.head? = some 63 then onlyP (fun j => Lib.contains j.f5.data.toList r.tail) 0 (-1) l
  else onlyP (fun j => Lib.hasPrefix j.f5.data.toList r) 0 (-1) l
def findP (l : List Jb) (s : ByteArray) : Int × Int := if s.data.toList.head? = some 37 then findR l s.data.toList.tail else (0, 6)
def smallFrom : Nat → Int → List Jb → Bool
  | 0, n, l => decide (n < 20000)
  | d + 1, n, [] => decide (n < 20000)
  | d + 1, n, j :: r => if n < 20000 then (if 40 < j.f3.length ∨ 40 < j.f4.length ∨ 5000 < j.f5.size then false else smallFrom d (n + j.f5.size) r) else false
def smallP (l : List Jb) : Bool := smallFrom 40 0 l && decide (l.length ≤ 40)
def shellP (s : Int) : Int := if (kindP s).1 = 0 then (kindP s).2 else if (kindP s).1 = 1 ∨ (kindP s).1 = 2 then 128 + (kindP s).2 else if (kindP s).1 = 3 then 0 else 255
def statP (j : Jb) : Int := match j.f4.getLast? with | none => 0 | some s => if s = -1 then 0 else shellP s
end Go.Proofs.YthafbimhmfjcoaaDoor.JP
/- The plain laws of the jobs: what validity says, and what keeps it. -/
namespace Go.Proofs.YthafbimhmfjcoaaDoor.JP
set_option linter.unusedVariables false
set_option linter.unusedSimpArgs false
open Go.Proofs.YthafbimhmfjcoaaDoor.PV
structure OkJ (j : Jb) : Prop where
  num : 1 ≤ j.f0 ∧ j.f0 ≤ 32
  gid : 1 ≤ j.f1 ∧ j.f1 ≤ 2147483647
  ne : 0 < j.f3.length
  len : j.f4.length = j.f3.length
  text : j.f5.size ≤ 4096
  pids : j.f3.all numB = true
  stats : j.f4.all knownB = true
  state : j.f2 = stateP j.f4
def pidsOf (l : List Jb) : List Int := l.flatMap (fun j => j.f3)
def numsOf (l : List Jb) : List Int := l.map (fun j => j.f0)
structure Good (l : List Jb) : Prop where
  len : l.length ≤ 32
  ok : ∀ j ∈ l, OkJ j
  nums : (numsOf l).Nodup
  ps : (pidsOf l).Nodup
theorem namedB_iff {l : List Jb} {n : Int} : namedB l n = true ↔ n ∈ numsOf l := by
  unfold namedB numsOf
  simp
theorem free_named (l : List Jb) : ∀ (d : Nat) (n : Int), namedB l (freeP l d n) = false ∨ ∀ m : Int, n ≤ m → m < n + d → namedB l m = true
  | 0, n => .inr fun m h1 h2 => by omega
  | d + 1, n => by
    unfold freeP
    by_cases h : namedB l n = true
    · rw [if_pos h]
      rcases free_named l d (n + 1) with hf | ha
      · exact .inl hf
      · refine .inr fun m h1 h2 => ?_
        by_cases he : m = n
        · rw [he]; exact h
        · exact ha m (by omega) (by push_cast at h2; omega)
    · rw [if_neg h]
      exact .inl (by simpa using h)
theorem run_len (l : List Jb) (k : Nat) (h : ∀ m : Int, 1 ≤ m → m < 1 + (k : Int) → namedB l m = true) : k ≤ l.length := by
  have hs : (List.range k).map (fun i : Nat => (i : Int) + 1) ⊆ numsOf l := by
    intro x hx
    obtain ⟨i, hi, rfl⟩ := List.mem_map.1 hx
    have := List.mem_range.1 hi
    exact namedB_iff.1 (h _ (by omega) (by omega))
  have hn : ((List.range k).map (fun i : Nat => (i : Int) + 1)).Nodup := by
    rw [List.Nodup, List.pairwise_map]
    exact (List.nodup_range (n := k)).imp (fun hne he => hne (by omega))
  have := hn.length_le_of_subset hs
  simpa [numsOf] using this
theorem free_new (l : List Jb) (h : l.length < 40) : namedB l (freeP l 40 1) = false := by
  rcases free_named l 40 1 with h1 | h1
  · exact h1
  · have := run_len l 40 (fun m g1 g2 => h1 m g1 (by omega))
    omega
theorem statsP_len' (pid s : Int) : ∀ (ps xs : List Int), (statsP pid s ps xs).length = xs.length
  | [], xs => by simp [statsP]
  | p :: ps, [] => by simp [statsP]
  | p :: ps, x :: xs => by simp [statsP, statsP_len' pid s ps xs]
end Go.Proofs.YthafbimhmfjcoaaDoor.JP
/- Job numbers in decimal; the reference's way to find a job is the program's. -/
namespace Go.Proofs.YthafbimhmfjcoaaDoor.JP
set_option linter.unusedVariables false
set_option linter.unusedSimpArgs false
open Go.Proofs.YthafbimhmfjcoaaDoor.PV
theorem isDigB_iff {c : UInt8} : isDigB c = true ↔ 48 ≤ c.toNat ∧ c.toNat ≤ 57 := by unfold isDigB; simp
theorem digs_eq : ∀ (k u : Nat), u < 10 ^ (k + 1) → digs (k + 1) u = Lib.decDigits u
  | 0, u, h => by
    have hu : u < 10 := by simpa using h
    rw [digs, Lib.decDigits, if_pos hu, dif_pos hu]
  | k + 1, u, h => by
    rw [digs, Lib.decDigits]
    split
    · rfl
    · rw [digs_eq k (u / 10) (by rw [Nat.pow_succ] at h; omega)]
theorem itoaP_eq (n : Int) (h0 : -9223372036854775808 ≤ n) (h1 : n ≤ 9223372036854775807) : itoaP n = Lib.itoa n := by
  unfold itoaP Lib.itoa
  split
  · rw [digs_eq 19 _ (by omega)]
  · rw [digs_eq 19 _ (by omega)]
end Go.Proofs.YthafbimhmfjcoaaDoor.JP
/- The current job and the one before it: where their indices lie. -/
namespace Go.Proofs.YthafbimhmfjcoaaDoor.JP
set_option linter.unusedVariables false
set_option linter.unusedSimpArgs false
open Go.Proofs.YthafbimhmfjcoaaDoor.PV
end Go.Proofs.YthafbimhmfjcoaaDoor.JP

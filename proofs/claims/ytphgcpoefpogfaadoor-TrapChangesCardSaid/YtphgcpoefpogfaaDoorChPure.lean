/- The plain functions of package chars on lists of bytes: names, numbers, quoting, escapes. No program in sight. -/
namespace Go.Proofs.YtphgcpoefpogfaaDoor.Ch

def isLet (c : UInt8) : Bool := (97 ≤ c && c ≤ 122) || (65 ≤ c && c ≤ 90)
def isDig (c : UInt8) : Bool := 48 ≤ c && c ≤ 57
def isHarm (c : UInt8) : Bool := c == 95 || c == 45 || c == 46 || c == 47 || c == 44 || c == 58 || c == 43 || c == 37 || c == 64 || c == 94
def okB (c : UInt8) : Bool := isLet c || isDig c || isHarm c
def plainL (l : List UInt8) : Bool := l.all okB && !l.isEmpty
def nameB (c : UInt8) : Bool := isLet c || isDig c || c == 95
def nameL : List UInt8 → Bool
  | [] => false
  | c :: r => decide (r.length < 32) && !isDig c && (c :: r).all nameB
def digitsN (l : List UInt8) (n : Int) : Int := l.foldl (fun n c => 10 * n + ((c.toNat : Int) - 48)) n
def digitsL : List UInt8 → Int × Bool
  | [] => (0, false)
  | c :: r => if 10 ≤ r.length || (decide (0 < r.length) && c == 48) || !(c :: r).all isDig then (0, false) else if 2147483647 < digitsN (c :: r) 0 then (0, false) else (digitsN (c :: r) 0, true)
def quoB (c : UInt8) : List UInt8 := if c = 39 then [39, 92, 39, 39] else [c]
def quoteL (l : List UInt8) : List UInt8 := if plainL l then l else [39] ++ l.flatMap quoB ++ [39]

/-- What is read before, put in front of what is read behind: bytes, how many bytes are left, the error. -/
def pre (a : List UInt8) (x : List UInt8 × Nat × Int) : List UInt8 × Nat × Int := if x.2.2 = 0 then (a ++ x.1, x.2.1, 0) else ([], 0, x.2.2)
def isDbl (c : UInt8) : Bool := c == 36 || c == 96 || c == 34 || c == 92
def dbl : List UInt8 → List UInt8 × Nat × Int
  | [] => ([], 0, 7)
  | c :: r =>
    if c = 34 then ([], r.length, 0)
    else if c = 36 ∨ c = 96 then ([], 0, 6)
    else if c = 92 then
      match r with
      | [] => ([], 0, 7)
      | d :: r' => if d = 10 then dbl r' else if isDbl d then pre [d] (dbl r') else pre [92] (dbl (d :: r'))
    else pre [c] (dbl r)

def app (a : List UInt8) (x : List UInt8 × Int) : List UInt8 × Int := if x.2 = 0 then (a ++ x.1, 0) else ([], x.2)
def isOp (c : UInt8) : Bool := c == 32 || c == 9 || c == 10 || c == 38 || c == 124 || c == 59 || c == 40 || c == 41 || c == 60 || c == 62 || c == 36 || c == 96
def unq : Nat → List UInt8 → List UInt8 × Int
  | _, [] => ([], 0)
  | 0, _ :: _ => ([], 99)
  | f + 1, c :: r =>
    if c = 39 then
      if (39 : UInt8) ∈ r then app (r.takeWhile (· != 39)) (unq f (r.drop ((r.takeWhile (· != 39)).length + 1))) else ([], 7)
    else if c = 34 then
      if (dbl r).2.2 = 0 then app (dbl r).1 (unq f (r.drop (r.length - (dbl r).2.1))) else ([], (dbl r).2.2)
    else if c = 92 then
      match r with
      | [] => ([], 7)
      | d :: r' => if d = 10 then unq f r' else app [d] (unq f r')
    else if isOp c then ([], 6)
    else app [c] (unq f r)
def unquoteL (l : List UInt8) : List UInt8 × Int := unq l.length l

def hexD (n : UInt8) : UInt8 := if n < 10 then 48 + n else 87 + n
def escB (c : UInt8) : List UInt8 := if c = 10 then [92, 110] else if c = 9 then [92, 116] else if c = 92 then [92, 92] else if c < 32 || 126 < c then [92, 120, hexD (c / 16), hexD (c % 16)] else [c]
def escapeL (l : List UInt8) : List UInt8 := l.flatMap escB

def hexV (c : UInt8) : Int := if 48 ≤ c && c ≤ 57 then (c.toNat : Int) - 48 else if 97 ≤ c && c ≤ 102 then (c.toNat : Int) - 87 else -1
/-- The byte behind a backslash and an x, and the error. -/
def hexL : List UInt8 → Int × Int
  | [] => (0, 28)
  | h :: r =>
    if hexV h < 0 ∨ (1 < hexV h ∧ hexV h < 7) then (0, 6) else
    match r with
    | [] => (0, 28)
    | l :: _ =>
      if hexV l < 0 ∨ (16 * hexV h + hexV l) = 10 ∨ (16 * hexV h + hexV l) = 9 ∨ (32 ≤ (16 * hexV h + hexV l) ∧ (16 * hexV h + hexV l) ≤ 126) then (0, 6) else (16 * hexV h + hexV l, 0)
def unesc : List UInt8 → List UInt8 × Int
  | [] => ([], 0)
  | c :: r =>
    if c < 32 || 126 < c then ([], 6)
    else if c ≠ 92 then app [c] (unesc r)
    else match r with
      | [] => ([], 28)
      | d :: r' =>
        if d = 110 then app [10] (unesc r')
        else if d = 116 then app [9] (unesc r')
        else if d = 92 then app [92] (unesc r')
        else if d = 120 then
          if (hexL r').2 = 0 then (match r' with
            | h :: l :: r2 => app [UInt8.ofNat (hexL (h :: l :: r2)).1.toNat] (unesc r2)
            | _ => ([], 28))
          else ([], (hexL r').2)
        else ([], 6)

end Go.Proofs.YtphgcpoefpogfaaDoor.Ch

/- THE TOKENS OF OIL, in plain Lean over lists of bytes: gaps (blanks and comments), words, numbers, strings, tokens, texts. No program in sight. -/
namespace Go.Proofs.YtpecmmicndcgjaaGreatDoor.Sp
abbrev Bs := List UInt8
def blankB (c : UInt8) : Bool := c == 32 || c == 9 || c == 10 || c == 13
def digitB (c : UInt8) : Bool := decide (48 ≤ c.toNat) && decide (c.toNat ≤ 57)
def letterB (c : UInt8) : Bool := decide (65 ≤ c.toNat) && decide (c.toNat ≤ 90) || decide (97 ≤ c.toNat) && decide (c.toNat ≤ 122) || c == 95
def partB (c : UInt8) : Bool := letterB c || digitB c
def plainB (c : UInt8) : Bool := decide (32 ≤ c.toNat) && decide (c.toNat ≤ 126)

/-- Where blanks and comments end; or where a comment begins that doesn't end. -/
inductive Gap where
  | ends (n : Nat)
  | open_ (n : Nat)
/-- m: 0 between comments, 1 in tok1 to the line's end, 2 in tok1 that must be closed (it began at st); n: where we are. -/
def gap : Nat → Nat → Nat → Bs → Gap
  | 0, _, n, [] => .ends n
  | 1, _, n, [] => .ends n
  | _ + 2, st, _, [] => .open_ st
  | 0, st, n, c :: r =>
    if blankB c then gap 0 st (n + 1) r
    else if c = 47 then
      match r with
      | [] => .ends n
      | d :: r' => if d = 47 then gap 1 st (n + 2) r' else if d = 42 then gap 2 n (n + 2) r' else .ends n
    else .ends n
  | 1, st, n, c :: r => if c = 10 then gap 0 st (n + 1) r else gap 1 st (n + 1) r
  | m + 2, st, n, c :: r =>
    match r with
    | [] => .open_ st
    | d :: r' => if c = 42 ∧ d = 47 then gap 0 st (n + 2) r' else gap (m + 2) st (n + 1) (d :: r')

def wordLen (l : Bs) : Nat := (l.takeWhile partB).length

def digitVal (c : UInt8) : Nat :=
  if digitB c then c.toNat - 48 else if 97 ≤ c.toNat ∧ c.toNat ≤ 102 then c.toNat - 87 else if 65 ≤ c.toNat ∧ c.toNat ≤ 70 then c.toNat - 55 else 99
/-- The number that digits tell, behind v; none: a byte is no digit of this base, or it grows beyond 32 bits. -/
def numVal (base : Nat) : Nat → Bs → Option Nat
  | v, [] => some v
  | v, c :: r => if digitVal c < base then (if v * base + digitVal c ≤ 4294967295 then numVal base (v * base + digitVal c) r else none) else none
def numL (l : Bs) : Option (Nat × Bool) :=
  match l with
  | [] => none
  | c :: r =>
    match r with
    | [] => (numVal 10 0 l).map fun v => (v, false)
    | x :: r' =>
      if c = 48 then (if x = 120 ∨ x = 88 then (if r' = [] then none else (numVal 16 0 r').map fun v => (v, true)) else none)
      else (numVal 10 0 l).map fun v => (v, false)

structure Tok where
  kind : Nat
  text : Bs
  val : Nat
  hex : Bool
deriving DecidableEq

/-- A string behind its first quoteT: what it says and where it ends, or what is wrong and where. -/
def qstr : Bs → Nat → Bs → Except (Nat × Nat) (Bs × Nat)
  | _, _, [] => .error (22, 0)
  | acc, n, c :: r =>
    if c = 34 then (if acc.length > 255 then .error (24, 0) else .ok (acc, n + 1))
    else if plainB c = false then .error (22, n)
    else if c = 92 then
      match r with
      | [] => .error (22, n)
      | d :: r' => if d = 34 ∨ d = 92 then qstr (acc ++ [d]) (n + 2) r' else .error (22, n)
    else qstr (acc ++ [c]) (n + 1) r

def markK (c : UInt8) : Nat := if c = 123 then 4 else if c = 125 then 5 else if c = 61 then 6 else if c = 59 then 7 else if c = 58 then 8 else 0

/-- The token that a text begins with, and how long it is. -/
def tok1 : Bs → Except (Nat × Nat) (Tok × Nat)
  | [] => .error (20, 0)
  | c :: r =>
    if letterB c then (if wordLen (c :: r) > 63 then .error (24, 0) else .ok (⟨1, (c :: r).take (wordLen (c :: r)), 0, false⟩, wordLen (c :: r)))
    else if digitB c then
      match numL ((c :: r).take (wordLen (c :: r))) with
      | none => .error (21, 0)
      | some (v, h) => .ok (⟨2, [], v, h⟩, wordLen (c :: r))
    else if c = 34 then
      match qstr [] 1 r with
      | .error e => .error e
      | .ok (s, n) => .ok (⟨3, s, 0, false⟩, n)
    else if markK c ≠ 0 then .ok (⟨markK c, [], 0, false⟩, 1)
    else .error (20, 0)

/-- All tokens of a text from place n on, with their places; the last is the end. -/
def scanF : Nat → Bs → Nat → Except (Nat × Nat) (List (Tok × Nat))
  | 0, _, _ => .error (0, 0)
  | f + 1, t, i =>
    match gap 0 0 i (t.drop i) with
    | .open_ n => .error (23, n)
    | .ends n =>
      if n = t.length then .ok [(⟨0, [], 0, false⟩, n)]
      else
        match tok1 (t.drop n) with
        | .error (e, k) => .error (e, n + k)
        | .ok (x, k) =>
          match scanF f t (n + k) with
          | .error e => .error e
          | .ok l => .ok ((x, n) :: l)
def scanT (t : Bs) : Except (Nat × Nat) (List (Tok × Nat)) := if t.length > 262144 then .error (24, 0) else scanF (t.length + 1) t 0

/-- Line and column. -/
def spotStep (p : Nat × Nat) (c : UInt8) : Nat × Nat := if c = 10 then (p.1 + 1, 1) else (p.1, p.2 + 1)
def spotT (t : Bs) (off : Nat) : Nat × Nat := (t.take off).foldl spotStep (1, 1)

def nameB (s : Bs) : Bool := decide (0 < s.length) && decide (s.length ≤ 63) && letterB (s.headD 0) && s.all partB
def stringB (s : Bs) : Bool := s.all plainB && decide (s.length ≤ 255)
def decF : Nat → Nat → Bs → Bs
  | 0, _, acc => acc
  | f + 1, v, acc => if v < 10 then UInt8.ofNat (48 + v) :: acc else decF f (v / 10) (UInt8.ofNat (48 + v % 10) :: acc)
def decT (v : Nat) : Bs := decF 40 v []
def hexDigit (d : Nat) : UInt8 := if d < 10 then UInt8.ofNat (48 + d) else UInt8.ofNat (55 + d)
def hexF : Nat → Nat → Bs → Bs
  | 0, _, acc => acc
  | f + 1, v, acc => if v < 16 then hexDigit v :: acc else hexF f (v / 16) (hexDigit (v % 16) :: acc)
def hexL (v : Nat) : Bs := 48 :: 120 :: hexF 40 v []
def escT : Bs → Bs
  | [] => []
  | c :: r => if c = 34 ∨ c = 92 then 92 :: c :: escT r else c :: escT r
def quoteT (s : Bs) : Bs := 34 :: (escT s ++ [34])
def markC (k : Nat) : UInt8 := if k = 4 then 123 else if k = 5 then 125 else if k = 6 then 61 else if k = 7 then 59 else 58
/-- A token's text; none: it has none. -/
def spellT (k : Int) (text : Bs) (v : Nat) (h : Bool) : Option Bs :=
  if k = 1 then (if v = 0 ∧ h = false ∧ nameB text = true then some text else none)
  else if k = 2 then (if text = [] then (if h then some (hexL v) else some (decT v)) else none)
  else if k = 3 then (if v = 0 ∧ h = false ∧ stringB text = true then some (quoteT text) else none)
  else if k = 0 then (if v = 0 ∧ h = false ∧ text = [] then some [] else none)
  else if 4 ≤ k ∧ k ≤ 8 then (if v = 0 ∧ h = false ∧ text = [] then some [markC k.toNat] else none)
  else none
end Go.Proofs.YtpecmmicndcgjaaGreatDoor.Sp

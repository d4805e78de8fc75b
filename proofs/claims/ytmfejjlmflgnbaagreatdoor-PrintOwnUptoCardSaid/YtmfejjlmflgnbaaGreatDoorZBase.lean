/- CONTRACTS OF package token: plain, marks: what they answer, in any world. No condition but a string's size. -/
import Derived.Test.YtmfejjlmflgnbaaGreatDoorZPAy0
import Derived.WalkKit
import Derived.KernelRfl
import Derived.RowKit3
import Derived.Deep.LoopGhost
import Derived.Deep.QuietTactic
import Derived.BigQuiet
import Derived.Lib.Hide
import Derived.Laws.Rows
import Derived.Laws.Tables
import Derived.Deep.MidRow
import Derived.Laws.BytesArg
namespace Go.Proofs.YtmfejjlmflgnbaaGreatDoor.Tok
open Go.RowKit Go.Proofs.YtmfejjlmflgnbaaGreatDoor.PA Go.Proofs.YtmfejjlmflgnbaaGreatDoorW.PrintWords Go.Proofs.YtmfejjlmflgnbaaGreatDoorW.PrintLast
set_option linter.unusedVariables false
set_option linter.unusedSimpArgs false

/-! ### plain -/
def plainC (c : UInt8) : Bool := decide (32 ≤ c.toNat ∧ c.toNat ≤ 126)
def plainS (s : ByteArray) : Bool := s.data.toList.all plainC
theorem plainS_of (s : ByteArray) (h : ∀ (j : Nat) (hj : j < s.size), plainC (s[j]'hj) = true) : plainS s = true := by
  unfold plainS
  rw [List.all_eq_true]
  intro c hc
  obtain ⟨j, hj, rfl⟩ := List.mem_iff_getElem.1 hc
  exact h j (by simpa using hj)
theorem plainS_not (s : ByteArray) (j : Nat) (hj : j < s.size) (h : plainC (s[j]'hj) = false) : plainS s = false := by
  rw [Bool.eq_false_iff]
  intro hp
  unfold plainS at hp
  rw [List.all_eq_true] at hp
  have := hp (s[j]'hj) (List.mem_iff_getElem.2 ⟨j, by simpa using hj, rfl⟩)
  rw [h] at this
  cases this
structure PlainTo (s : ByteArray) (pos : Nat) : Prop where mk :: (out : ∀ (j : Nat) (hj : j < s.size), j < pos → plainC (s[j]'hj) = true)
theorem PlainTo.step {s : ByteArray} {pos : Nat} (h : PlainTo s pos) (hp : pos < s.size) (hc : plainC (s[pos]'hp) = true) : PlainTo s (pos + 1) :=
  ⟨fun j hj hlt => by
    rcases Nat.lt_or_ge j pos with h1 | h1
    · exact h.out j hj h1
    · have : j = pos := by omega
      subst this
      exact hc⟩
def PlainPost (s : ByteArray) (w : World) (e : Ending) (w' : World) : Prop := e = .returned (.bool (plainS s)) ∧ Below w.heap.size w w'
set_option maxHeartbeats 1000000 in
theorem plain_calls (s : ByteArray) (w : World) (hs : s.size ≤ 9223372036854775807) : Calls Tryz.prog 129 #[.string s] w (PlainPost s w) := by
  go_enter Tryz.func129, Tryz.ntmps129
  go_wp2
  go_loopw [4] (fun v wr => ∃ pos : Nat, pos ≤ s.size ∧ wr = w.iter s pos ∧ PlainTo s pos) (fun v wr => s.size - wr.iterPos w.heap.size)
  case atStart => exact ⟨0, Nat.zero_le _, rfl, ⟨fun j hj h => by omega⟩⟩
  case round =>
    obtain ⟨pos, hle, rfl, HP⟩ := hrel
    have hB : ∀ p, Below w.heap.size w (w.iter s p) := fun p => (Below.refl _ _).alloc (Nat.le_refl _) _
    by_cases hp : pos < s.size
    · have hnx : ∀ ty, (Instr.next (.pointer (some ⟨w.heap.size, 0, none⟩)) true ty).run Tryz.prog (w.iter s pos) = _ := fun ty => run_next_any w s pos ty hp
      by_cases hasc : (s[pos]'hp).toNat < 128
      · rw [decode_ascii s pos hp hasc] at hnx
        by_cases h1 : (s[pos]'hp).toNat < 32
        · have hc := plainS_not s pos hp (by unfold plainC; rw [decide_eq_false_iff_not]; omega)
          have H := Lib.hid hc; clear hc
          have hd : decide ((((s[pos]'hp).toNat : Nat) : Int) < 32) = true := by rw [decide_eq_true_eq]; omega
          go_wp2
          go_ret
          exact ⟨by rw [H.out]; rfl, hB _⟩
        · by_cases h2 : 126 < (s[pos]'hp).toNat
          · have hc := plainS_not s pos hp (by unfold plainC; rw [decide_eq_false_iff_not]; omega)
            have H := Lib.hid hc; clear hc
            have hd : decide ((((s[pos]'hp).toNat : Nat) : Int) < 32) = false := by rw [decide_eq_false_iff_not]; omega
            have hd2 : decide (126 < (((s[pos]'hp).toNat : Nat) : Int)) = true := by rw [decide_eq_true_eq]; omega
            go_wp2
            go_ret
            exact ⟨by rw [H.out]; rfl, hB _⟩
          · have hc : plainC (s[pos]'hp) = true := by unfold plainC; rw [decide_eq_true_eq]; omega
            have HP1 := HP.step hp hc; clear hc HP
            have hd : decide ((((s[pos]'hp).toNat : Nat) : Int) < 32) = false := by rw [decide_eq_false_iff_not]; omega
            have hd2 : decide (126 < (((s[pos]'hp).toNat : Nat) : Int)) = false := by rw [decide_eq_false_iff_not]; omega
            go_wp2
            go_roundw
            case rel => exact ⟨pos + 1, by omega, rfl, HP1⟩
            case measure => simp; omega
      · have hhi := (decode_high s pos hp (by omega)).1
        have hc := plainS_not s pos hp (by unfold plainC; rw [decide_eq_false_iff_not]; omega)
        have H := Lib.hid hc; clear hc
        have hd : decide (((Utf8.decode s pos).1 : Int) < 32) = false := by rw [decide_eq_false_iff_not]; omega
        have hd2 : decide (126 < ((Utf8.decode s pos).1 : Int)) = true := by rw [decide_eq_true_eq]; omega
        clear hhi
        go_wp2
        go_ret
        exact ⟨by rw [H.out]; rfl, hB _⟩
    · have hnx : ∀ ty, (Instr.next (.pointer (some ⟨w.heap.size, 0, none⟩)) true ty).run Tryz.prog (w.iter s pos) = _ := fun ty => run_next_end w s pos ty hp
      have hc := plainS_of s fun j hj => HP.out j hj (by omega)
      have H := Lib.hid hc; clear hc HP
      go_wp2
      go_ret
      exact ⟨by rw [H.out]; rfl, hB _⟩

/-! ### marks -/
def marksV : Value := .agg #[.int .u8 123, .int .i64 4, .int .u8 125, .int .i64 5, .int .u8 61, .int .i64 6, .int .u8 59, .int .i64 7, .int .u8 58, .int .i64 8]
def MarksPost (w : World) (e : Ending) (w' : World) : Prop := e = .returned marksV ∧ Below w.heap.size w w'
theorem marks_calls (w : World) : Calls Tryz.prog 132 #[] w (MarksPost w) := by
  go_enter Tryz.func132, Tryz.ntmps132
  go_wp2
  refine bodyPost_ret (v := marksV) (by simp [results, Tryz.results132, go_sem, marksV]) rfl ⟨rfl, ?_⟩
  exact (Below.refl _ _).alloc (Nat.le_refl _) _

end Go.Proofs.YtmfejjlmflgnbaaGreatDoor.Tok
/- THE TOKENS OF OIL, in plain Lean over lists of bytes: gaps (blanks and comments), words, numbers, strings, tokens, texts. No program in sight. -/
namespace Go.Proofs.YtmfejjlmflgnbaaGreatDoor.Sp
abbrev Bs := List UInt8
def blankB (c : UInt8) : Bool := c == 32 || c == 9 || c == 10 || c == 13
def digitB (c : UInt8) : Bool := decide (48 ≤ c.toNat) && decide (c.toNat ≤ 57)
def letterB (c : UInt8) : Bool := decide (65 ≤ c.toNat) && decide (c.toNat ≤ 90) || decide (97 ≤ c.toNat) && decide (c.toNat ≤ 122) || c == 95
def partB (c : UInt8) : Bool := letterB c || digitB c
def plainB (c : UInt8) : Bool := decide (32 ≤ c.toNat) && decide (c.toNat ≤ 126)

/-- Where blanks and comments end; or where a comment begins that doesn't end. -/
inductive Gap where
  | ends (n : Nat)
  | open_ (n : Nat)
/-- m: 0 between comments, 1 in tok1 to the line's end, 2 in tok1 that must be closed (it began at st); n: where we are. -/
def gap : Nat → Nat → Nat → Bs → Gap
  | 0, _, n, [] => .ends n
  | 1, _, n, [] => .ends n
  | _ + 2, st, _, [] => .open_ st
  | 0, st, n, c :: r =>
    if blankB c then gap 0 st (n + 1) r
    else if c = 47 then
      match r with
      | [] => .ends n
      | d :: r' => if d = 47 then gap 1 st (n + 2) r' else if d = 42 then gap 2 n (n + 2) r' else .ends n
    else .ends n
  | 1, st, n, c :: r => if c = 10 then gap 0 st (n + 1) r else gap 1 st (n + 1) r
  | m + 2, st, n, c :: r =>
    match r with
    | [] => .open_ st
    | d :: r' => if c = 42 ∧ d = 47 then gap 0 st (n + 2) r' else gap (m + 2) st (n + 1) (d :: r')

def wordLen (l : Bs) : Nat := (l.takeWhile partB).length

def digitVal (c : UInt8) : Nat :=
  if digitB c then c.toNat - 48 else if 97 ≤ c.toNat ∧ c.toNat ≤ 102 then c.toNat - 87 else if 65 ≤ c.toNat ∧ c.toNat ≤ 70 then c.toNat - 55 else 99
/-- The number that digits tell, behind v; none: a byte is no digit of this base, or it grows beyond 32 bits. -/
def numVal (base : Nat) : Nat → Bs → Option Nat
  | v, [] => some v
  | v, c :: r => if digitVal c < base then (if v * base + digitVal c ≤ 4294967295 then numVal base (v * base + digitVal c) r else none) else none
def numL (l : Bs) : Option (Nat × Bool) :=
  match l with
  | [] => none
  | c :: r =>
    match r with
    | [] => (numVal 10 0 l).map fun v => (v, false)
    | x :: r' =>
      if c = 48 then (if x = 120 ∨ x = 88 then (if r' = [] then none else (numVal 16 0 r').map fun v => (v, true)) else none)
      else (numVal 10 0 l).map fun v => (v, false)

structure Tok where
  kind : Nat
  text : Bs
  val : Nat
  hex : Bool
deriving DecidableEq

/-- A string behind its first quoteT: what it says and where it ends, or what is wrong and where. -/
def qstr : Bs → Nat → Bs → Except (Nat × Nat) (Bs × Nat)
  | _, _, [] => .error (22, 0)
  | acc, n, c :: r =>
    if c = 34 then (if acc.length > 255 then .error (24, 0) else .ok (acc, n + 1))
    else if plainB c = false then .error (22, n)
    else if c = 92 then
      match r with
      | [] => .error (22, n)
      | d :: r' => if d = 34 ∨ d = 92 then qstr (acc ++ [d]) (n + 2) r' else .error (22, n)
    else qstr (acc ++ [c]) (n + 1) r

def markK (c : UInt8) : Nat := if c = 123 then 4 else if c = 125 then 5 else if c = 61 then 6 else if c = 59 then 7 else if c = 58 then 8 else 0

/-- The token that a text begins with, and how long it is. -/
def tok1 : Bs → Except (Nat × Nat) (Tok × Nat)
  | [] => .error (20, 0)
  | c :: r =>
    if letterB c then (if wordLen (c :: r) > 63 then .error (24, 0) else .ok (⟨1, (c :: r).take (wordLen (c :: r)), 0, false⟩, wordLen (c :: r)))
    else if digitB c then
      match numL ((c :: r).take (wordLen (c :: r))) with
      | none => .error (21, 0)
      | some (v, h) => .ok (⟨2, [], v, h⟩, wordLen (c :: r))
    else if c = 34 then
      match qstr [] 1 r with
      | .error e => .error e
      | .ok (s, n) => .ok (⟨3, s, 0, false⟩, n)
    else if markK c ≠ 0 then .ok (⟨markK c, [], 0, false⟩, 1)
    else .error (20, 0)

/-- All tokens of a text from place n on, with their places; the last is the end. -/
def scanF : Nat → Bs → Nat → Except (Nat × Nat) (List (Tok × Nat))
  | 0, _, _ => .error (0, 0)
  | f + 1, t, i =>
    match gap 0 0 i (t.drop i) with
    | .open_ n => .error (23, n)
    | .ends n =>
      if n = t.length then .ok [(⟨0, [], 0, false⟩, n)]
      else
        match tok1 (t.drop n) with
        | .error (e, k) => .error (e, n + k)
        | .ok (x, k) =>
          match scanF f t (n + k) with
          | .error e => .error e
          | .ok l => .ok ((x, n) :: l)
def scanT (t : Bs) : Except (Nat × Nat) (List (Tok × Nat)) := if t.length > 262144 then .error (24, 0) else scanF (t.length + 1) t 0

/-- Line and column. -/
def spotStep (p : Nat × Nat) (c : UInt8) : Nat × Nat := if c = 10 then (p.1 + 1, 1) else (p.1, p.2 + 1)
def spotT (t : Bs) (off : Nat) : Nat × Nat := (t.take off).foldl spotStep (1, 1)

def nameB (s : Bs) : Bool := decide (0 < s.length) && decide (s.length ≤ 63) && letterB (s.headD 0) && s.all partB
def stringB (s : Bs) : Bool := s.all plainB && decide (s.length ≤ 255)
def decF : Nat → Nat → Bs → Bs
  | 0, _, acc => acc
  | f + 1, v, acc => if v < 10 then UInt8.ofNat (48 + v) :: acc else decF f (v / 10) (UInt8.ofNat (48 + v % 10) :: acc)
def decT (v : Nat) : Bs := decF 40 v []
def hexDigit (d : Nat) : UInt8 := if d < 10 then UInt8.ofNat (48 + d) else UInt8.ofNat (55 + d)
def hexF : Nat → Nat → Bs → Bs
  | 0, _, acc => acc
  | f + 1, v, acc => if v < 16 then hexDigit v :: acc else hexF f (v / 16) (hexDigit (v % 16) :: acc)
def hexL (v : Nat) : Bs := 48 :: 120 :: hexF 40 v []
def escT : Bs → Bs
  | [] => []
  | c :: r => if c = 34 ∨ c = 92 then 92 :: c :: escT r else c :: escT r
def quoteT (s : Bs) : Bs := 34 :: (escT s ++ [34])
def markC (k : Nat) : UInt8 := if k = 4 then 123 else if k = 5 then 125 else if k = 6 then 61 else if k = 7 then 59 else 58
/-- A token's text; none: it has none. -/
def spellT (k : Int) (text : Bs) (v : Nat) (h : Bool) : Option Bs :=
  if k = 1 then (if v = 0 ∧ h = false ∧ nameB text = true then some text else none)
  else if k = 2 then (if text = [] then (if h then some (hexL v) else some (decT v)) else none)
  else if k = 3 then (if v = 0 ∧ h = false ∧ stringB text = true then some (quoteT text) else none)
  else if k = 0 then (if v = 0 ∧ h = false ∧ text = [] then some [] else none)
  else if 4 ≤ k ∧ k ≤ 8 then (if v = 0 ∧ h = false ∧ text = [] then some [markC k.toNat] else none)
  else none
end Go.Proofs.YtmfejjlmflgnbaaGreatDoor.Sp
/- SMALL LAWS OF THE WALK for structs in a block of the call's own: a whole struct stored as one step behind which the world has a letter. -/
namespace Go.Proofs.YtmfejjlmflgnbaaGreatDoor.Tok
open Go.RowKit Go.Proofs.YtmfejjlmflgnbaaGreatDoorW.PrintWords
set_option linter.unusedVariables false
section
variable {P : Program} {ops : Array Oper} {rest : List Oper} {o : Oper} {a : Act} {w : World} {Q : Exit → Act → World → Prop}
theorem setRow_other (w : World) (g k : Nat) (cs : Array Value) (h : k ≠ g) : (w.setRow g cs).heap[k]? = w.heap[k]? := by
  unfold World.setRow
  simp only
  rw [Array.getElem?_modify]
  rw [if_neg (fun e => h e.symm)]
theorem setRow_size (w : World) (g : Nat) (cs : Array Value) : (w.setRow g cs).heap.size = w.heap.size := by
  unfold World.setRow
  simp
theorem setRow_below (w : World) (g B : Nat) (cs : Array Value) (h : B ≤ g) : Below B w (w.setRow g cs) :=
  ⟨rfl, rfl, rfl, by rw [setRow_size]; exact Nat.le_refl _, fun i hi => setRow_other w g i cs (by omega)⟩
theorem put_event (hgd : o.guard = none) (ty : TypeId) (x y : Operand) (ho : o.op = .store ty x y)
    (g : Nat) (cells : Array Value) (hx : a.eval x = .pointer (some ⟨g, 0, none⟩)) (hy : a.eval y = .agg cells)
    (t : TypeId) (old : Array Value) (hg : w.heap[g]? = some (.cells old t (0, 0))) (hi : (P.info? ty).map (·.size) = some cells.size)
    (hold : old.size = cells.size) (h1 : cells.all (·.oneCell') = true) (B : Nat) (hB : B ≤ g)
    (h : ∀ w1, w1.heap[g]? = some (.cells cells t (0, 0)) → Below B w w1 → w1.heap.size = w.heap.size → (∀ k, k ≠ g → w1.heap[k]? = w.heap[k]?) → wpList P ops Q rest (a.put o.dst undef) w1) : wpList P ops Q (o :: rest) a w :=
  wpList_store_row hgd ty x y ho g cells hx hy t old hg hi hold h1 (h _ (setRow_heap w g old cells t (0, 0) hg) (setRow_below w g B cells hB) (setRow_size w g cells) (fun k hk => setRow_other w g k cells hk))
/-- An operation whose run is known: the world behind it gets a letter. -/
theorem run_event (hgd : o.guard = none) (op : Op) (ho : o.op = op) (v : Value) (w' : World) (hrun : (execOp a.eval o).run P w = .ok (.value v) w')
    (h : ∀ w1, w1 = w' → wpList P ops Q rest (a.put o.dst v) w1) : wpList P ops Q (o :: rest) a w := by
  refine wpList_plain hgd fun K hK => ?_
  unfold Oper.wp
  rw [hrun, Oper.upon_value]
  exact hK _ _ (h _ rfl)
/-- One cell stored in a block of the call's own. -/
theorem cell_event (hgd : o.guard = none) (ty : TypeId) (x y : Operand) (ho : o.op = .store ty x y)
    (b off : Nat) (v : Value) (hx : a.eval x = .pointer (some ⟨b, off, none⟩)) (hy : a.eval y = v) (h1 : v.oneCell' = true)
    (ht : w.there b off 1) (hi : (P.info? ty).map (·.size) = some 1) (B : Nat) (hB : B ≤ b)
    (h : ∀ w1, w1 = w.setCells b off [v] → Below B w w1 → w1.heap.size = w.heap.size → wpList P ops Q rest (a.put o.dst undef) w1) : wpList P ops Q (o :: rest) a w := by
  obtain ⟨h2, h3⟩ := ht 0 (by omega)
  obtain ⟨old, hold⟩ := Option.isSome_iff_exists.1 h2
  refine wpList_plain hgd fun K hK => ?_
  unfold Oper.wp execOp
  have hc : v.cells = #[v] := by cases v <;> first | rfl | cases h1
  have hrun : (storeVar ty ⟨b, off, none⟩ v).run P w = .ok () (w.setCell ⟨b, off, none⟩ v) := by
    have := run_storeCells_cells (P := P) b off [v] 0 w (fun j hj => by simp at hj; subst hj; simpa using h2) (fun j hj => by simp at hj; subst hj; simpa using h3) (fun x hx => by simp at hx; subst hx; exact h1)
    cases hq : P.info? ty with
    | none => simp [hq] at hi
    | some i =>
      have hs : i.size = 1 := by simpa [hq] using hi
      simp only [Nat.add_zero] at this
      simp [storeVar, sizeOf, typeInfo, hq, hc, hs, this, World.setCells]
  simp only [ho, hx, hy, Instr.storeAt, Instr.sureAddr, Sem.run_bind, Sem.run_pure, Result.andThen_ok, hrun]
  exact hK _ _ (h _ rfl ((Below.refl B w).setCell (p := ⟨b, off, none⟩) hB v) (by simp [World.setCell]))
end
open Go.Proofs.YtmfejjlmflgnbaaGreatDoor.Sp
def ints (l : Bs) : List Int := l.map fun c => (c.toNat : Int)
theorem ints_snoc (l : Bs) (c : UInt8) : ints (l ++ [c]) = ints l ++ [(c.toNat : Int)] := by simp [ints]
theorem ints_len (l : Bs) : (ints l).length = l.length := by simp [ints]
theorem str_ints (l : Bs) : strOfNums (ints l) = ⟨l.toArray⟩ := by
  unfold strOfNums ints
  rw [List.map_map]
  congr 2
  conv => rhs; rw [← List.map_id l]
  apply List.map_congr_left
  intro c _
  simp
end Go.Proofs.YtmfejjlmflgnbaaGreatDoor.Tok

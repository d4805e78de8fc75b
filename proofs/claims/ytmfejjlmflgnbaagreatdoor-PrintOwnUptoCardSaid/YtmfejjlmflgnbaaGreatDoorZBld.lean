/- CONTRACT: (*strings.Replacer).build at the two pairs that quote a string: which bytes are replaced, by what. -/
import Derived.Test.YtmfejjlmflgnbaaGreatDoorZOnce
import Derived.Test.YtmfejjlmflgnbaaGreatDoorZFmt
import Derived.Laws.IdiomStrings
import Derived.Great.Walk
import Derived.Great.BuildSlice
import Derived.Great.Ranges
import Derived.Laws.NewBlocks
namespace Go.Proofs.YtmfejjlmflgnbaaGreatDoor.Tok
open Go.RowKit Go.Proofs.YtmfejjlmflgnbaaGreatDoor.PA Go.Proofs.YtmfejjlmflgnbaaGreatDoorW.PrintWords Go.Proofs.YtmfejjlmflgnbaaGreatDoorW.PrintLast Go.Proofs.YtmfejjlmflgnbaaGreatDoor.Sp
set_option linter.unusedVariables false
set_option linter.unusedSimpArgs false
set_option maxRecDepth 100000

def sB : ByteArray := ⟨#[92]⟩
def sBB : ByteArray := ⟨#[92, 92]⟩
def sQ : ByteArray := ⟨#[34]⟩
def sBQ : ByteArray := ⟨#[92, 34]⟩
structure OldNew (g : Nat) (w : World) : Prop where
  c0 : w.cell? ⟨g, 0, none⟩ = some (.string sB)
  c1 : w.cell? ⟨g, 1, none⟩ = some (.string sBB)
  c2 : w.cell? ⟨g, 2, none⟩ = some (.string sQ)
  c3 : w.cell? ⟨g, 3, none⟩ = some (.string sBQ)
structure BS (R : Nat) (w : World) (v34 v92 vt : Value) : Prop where
  c : ∀ k, k < 256 → w.cell? ⟨R, k, none⟩ = some (if k = 34 then v34 else if k = 92 then v92 else .slice none 0 0)
  t : w.cell? ⟨R, 256, none⟩ = some vt
  f : ∀ k, k < 257 → w.frozen? ⟨R, k, none⟩ = false
def bsCells (vt : Value) : Array Value := (Array.replicate 256 (Value.slice none 0 0)).push vt

theorem bsCells_at (vt : Value) (k : Nat) (h : k < 256) : (bsCells vt)[k]? = some (.slice none 0 0) := by
  unfold bsCells
  rw [Array.getElem?_push, if_neg (by simp; omega)]
  simp [h]
theorem bsCells_last (vt : Value) : (bsCells vt)[256]? = some vt := by
  unfold bsCells
  rw [Array.getElem?_push, if_pos (by simp)]
theorem OldNew.of_block {g : Nat} {w w' : World} (h : OldNew g w) (hb : w'.heap[g]? = w.heap[g]?) : OldNew g w' :=
  ⟨(World.cell?_of_block (a := ⟨g, 0, none⟩) hb).trans h.c0, (World.cell?_of_block (a := ⟨g, 1, none⟩) hb).trans h.c1, (World.cell?_of_block (a := ⟨g, 2, none⟩) hb).trans h.c2, (World.cell?_of_block (a := ⟨g, 3, none⟩) hb).trans h.c3⟩
theorem BS.of_block {R : Nat} {w w' : World} {v34 v92 vt : Value} (h : BS R w v34 v92 vt) (hb : w'.heap[R]? = w.heap[R]?) : BS R w' v34 v92 vt :=
  ⟨fun k hk => (World.cell?_of_block (a := ⟨R, k, none⟩) hb).trans (h.c k hk), (World.cell?_of_block (a := ⟨R, 256, none⟩) hb).trans h.t, fun k hk => (World.frozen?_of_block (a := ⟨R, k, none⟩) hb).trans (h.f k hk)⟩
theorem BS.new {R : Nat} {w : World} {T : TypeId} {vt : Value} (h : w.heap[R]? = some (.cells (bsCells vt) T (0, 0))) : BS R w (.slice none 0 0) (.slice none 0 0) vt where
  c k hk := by
    simp only [World.cell?, h]
    rw [bsCells_at vt k hk]
    simp
  t := by
    simp only [World.cell?, h]
    exact bsCells_last vt
  f k hk := by
    simp [World.frozen?, h]
theorem BS.there {R : Nat} {w : World} {v34 v92 vt : Value} (h : BS R w v34 v92 vt) (k : Nat) (hk : k < 257) : w.there R k 1 := fun j hj => by
  obtain rfl : j = 0 := by omega
  refine ⟨?_, h.f k hk⟩
  by_cases h1 : k = 256
  · subst h1
    have := h.t
    simp only [Nat.add_zero]
    rw [this]; rfl
  · have := h.c k (by omega)
    simp only [Nat.add_zero]
    rw [this]; rfl
theorem set_in {w : World} {R k : Nat} {v : Value} (h : w.there R k 1) : (w.setCells R k [v]).cell? ⟨R, k, none⟩ = some v := by
  have := World.cell?_setCells_in R [v] k w (fun j hj => (h j (by simpa using hj)).1) 0 (by simp)
  simpa using this
theorem set_out {w : World} {R k j : Nat} {v : Value} (h : j ≠ k) : (w.setCells R k [v]).cell? ⟨R, j, none⟩ = w.cell? ⟨R, j, none⟩ :=
  World.cell?_setCells_out R [v] k w ⟨R, j, none⟩ (fun _ _ => by simp; omega)
theorem set_frozen (w : World) (R k j : Nat) (v : Value) : (w.setCells R k [v]).frozen? ⟨R, j, none⟩ = w.frozen? ⟨R, j, none⟩ := World.frozen?_setCells R [v] k w _
theorem set_other (w : World) (R k j : Nat) (v : Value) (h : j ≠ R) : (w.setCells R k [v]).heap[j]? = w.heap[j]? := by
  show (w.setCell ⟨R, k, none⟩ v).heap[j]? = _
  exact Below.heap_setCell w ⟨R, k, none⟩ v j h
theorem BS.setT {R : Nat} {w : World} {v34 v92 vt : Value} (h : BS R w v34 v92 vt) (v : Value) : BS R (w.setCells R 256 [v]) v34 v92 v where
  c k hk := (set_out (by omega)).trans (h.c k hk)
  t := set_in (h.there 256 (by omega))
  f k hk := (set_frozen _ _ _ _ _).trans (h.f k hk)
theorem BS.set34 {R : Nat} {w : World} {v34 v92 vt : Value} (h : BS R w v34 v92 vt) (v : Value) : BS R (w.setCells R 34 [v]) v v92 vt where
  c k hk := by
    by_cases h1 : k = 34
    · subst h1
      rw [set_in (h.there 34 (by omega))]; rfl
    · rw [set_out h1, h.c k hk, if_neg h1, if_neg h1]
  t := (set_out (by omega)).trans h.t
  f k hk := (set_frozen _ _ _ _ _).trans (h.f k hk)
theorem BS.set92 {R : Nat} {w : World} {v34 v92 vt : Value} (h : BS R w v34 v92 vt) (v : Value) : BS R (w.setCells R 92 [v]) v34 v vt where
  c k hk := by
    by_cases h1 : k = 92
    · subst h1
      rw [set_in (h.there 92 (by omega))]; rfl
    · rw [set_out h1, h.c k hk]
      simp [h1]
  t := (set_out (by omega)).trans h.t
  f k hk := (set_frozen _ _ _ _ _).trans (h.f k hk)

structure BI (g R : Nat) (w0 w : World) (v34 v92 vt : Value) (xs : List Value) : Prop where
  bs : BS R w v34 v92 vt
  own : w.ownsRow w0.heap.size 9 1 vt xs.length xs
  ne : vt.ownBlock ≠ some R
  new : OldNew g w
  bel : Below w0.heap.size w0 w
  lt : R < w.heap.size
  hR : w0.heap.size ≤ R
  hg : g < w0.heap.size
theorem BI.below {g R : Nat} {w0 w w' : World} {v34 v92 vt : Value} {xs : List Value} (h : BI g R w0 w v34 v92 vt xs) (hB : Below w.heap.size w w') : BI g R w0 w' v34 v92 vt xs :=
  { h with
    bs := h.bs.of_block (hB.block R h.lt)
    own := pw_own_below h.own hB
    new := h.new.of_block (hB.block g (by have := h.hg; have := h.bel.size; omega))
    bel := h.bel.trans (hB.mono h.bel.size)
    lt := Nat.lt_of_lt_of_le h.lt hB.size }
theorem BI.app {g R : Nat} {w0 w w' : World} {v34 v92 vt v1 y : Value} {xs : List Value} (h : BI g R w0 w v34 v92 vt xs) (ho : w'.ownsRow w0.heap.size 9 1 v1 (xs ++ [y]).length (xs ++ [y]))
    (hB : Below w0.heap.size w0 w') (hg : w.grownBy w' vt.ownBlock) (hat : v1.ownBlock = vt.ownBlock ∨ ∃ b, v1.ownBlock = some b ∧ w.heap.size ≤ b) : BI g R w0 (w'.setCells R 256 [v1]) v34 v92 v1 (xs ++ [y]) := by
  have hne : v1.ownBlock ≠ some R := by
    rcases hat with e | ⟨b, e, hb⟩
    · rw [e]; exact h.ne
    · rw [e]; intro e2; have := h.lt; simp at e2; omega
  have hR2 := h.hR
  have hg2 := h.hg
  have hlt := h.lt
  refine ⟨(h.bs.of_block (hg.block R h.lt (fun e => h.ne e.symm))).setT v1, ?_, hne, ?_, ?_, ?_, h.hR, h.hg⟩
  · refine own_move ho (fun k hk => ?_)
    exact set_other _ _ _ _ _ (fun e => hne (by rw [hk, e]))
  · refine (h.new.of_block (hg.block g (by have := h.bel.size; omega) (fun e => ?_))).of_block (set_other _ _ _ _ _ (by omega))
    have := (h.own.lt g e.symm).1
    omega
  · exact hB.trans ((Below.refl _ _).setCell (p := ⟨R, 256, none⟩) hR2 v1)
  · have := hg.size
    simp [World.setCells, World.setCell]
    omega
theorem BI.set34 {g R : Nat} {w0 w : World} {v34 v92 vt : Value} {xs : List Value} (h : BI g R w0 w v34 v92 vt xs) (v : Value) : BI g R w0 (w.setCells R 34 [v]) v v92 vt xs := by
  have hR2 := h.hR
  have hg2 := h.hg
  refine ⟨h.bs.set34 v, own_move h.own (fun k hk => set_other _ _ _ _ _ (fun e => h.ne (by rw [hk, e]))), h.ne, h.new.of_block (set_other _ _ _ _ _ (by omega)), h.bel.trans ((Below.refl _ _).setCell (p := ⟨R, 34, none⟩) hR2 v), ?_, h.hR, h.hg⟩
  have := h.lt
  simpa [World.setCells, World.setCell] using this
theorem BI.set92 {g R : Nat} {w0 w : World} {v34 v92 vt : Value} {xs : List Value} (h : BI g R w0 w v34 v92 vt xs) (v : Value) : BI g R w0 (w.setCells R 92 [v]) v34 v vt xs := by
  have hR2 := h.hR
  have hg2 := h.hg
  refine ⟨h.bs.set92 v, own_move h.own (fun k hk => set_other _ _ _ _ _ (fun e => h.ne (by rw [hk, e]))), h.ne, h.new.of_block (set_other _ _ _ _ _ (by omega)), h.bel.trans ((Below.refl _ _).setCell (p := ⟨R, 92, none⟩) hR2 v), ?_, h.hR, h.hg⟩
  have := h.lt
  simpa [World.setCells, World.setCell] using this

structure QB (B q R : Nat) (l : Bs) (w : World) (vt : Value) : Prop where
  ge : B ≤ q
  row : w.rangeAt q 0 (cellsU8 l)
  lt : q < w.heap.size
  neR : q ≠ R
  neO : vt.ownBlock ≠ some q
theorem range_block {w w' : World} {q : Nat} {l : List Value} (h : w.rangeAt q 0 l) (hb : w'.heap[q]? = w.heap[q]?) : w'.rangeAt q 0 l := fun j v hv => (World.cell?_of_block (a := ⟨q, 0 + j, none⟩) hb).trans (h j v hv)
theorem QB.new {g R : Nat} {w0 w w' : World} {v34 v92 vt : Value} {xs : List Value} {l : Bs} (h : BI g R w0 w v34 v92 vt xs) (hB : Below w.heap.size w w') (hs : w'.heap.size = w.heap.size + 1) (hr : w'.rangeAt w.heap.size 0 (cellsU8 l)) : QB w0.heap.size w.heap.size R l w' vt :=
  ⟨h.bel.size, hr, by omega, by have := h.lt; omega, fun e => by have := (h.own.lt _ e).2; omega⟩
theorem QB.set_eq {B q R k : Nat} {l : Bs} {w w1 : World} {vt v : Value} (h : QB B q R l w vt) (hw : w1 = w.setCells R k [v]) : QB B q R l w1 vt := by
  subst hw
  exact ⟨h.ge, range_block h.row (set_other _ _ _ _ _ h.neR), by have := h.lt; simpa [World.setCells, World.setCell] using this, h.neR, h.neO⟩
theorem QB.below {B q R : Nat} {l : Bs} {w w1 : World} {vt : Value} (h : QB B q R l w vt) (hB : Below w.heap.size w w1) : QB B q R l w1 vt :=
  ⟨h.ge, range_block h.row (hB.block q h.lt), Nat.lt_of_lt_of_le h.lt hB.size, h.neR, h.neO⟩
theorem QB.alloc_eq {B q R : Nat} {l : Bs} {w w1 : World} {vt : Value} {ob : Obj} (h : QB B q R l w vt) (hw : w1 = w.alloc ob) : QB B q R l w1 vt :=
  h.below (by rw [hw]; exact (Below.refl _ _).alloc (Nat.le_refl _) _)
theorem QB.app_eq {B q R : Nat} {l : Bs} {w w' w1 : World} {vt v1 : Value} (h : QB B q R l w vt) (hg : w.grownBy w' vt.ownBlock) (hat : v1.ownBlock = vt.ownBlock ∨ ∃ b, v1.ownBlock = some b ∧ w.heap.size ≤ b) (hw : w1 = w'.setCells R 256 [v1]) : QB B q R l w1 v1 := by
  refine QB.set_eq ⟨h.ge, range_block h.row (hg.block q h.lt (fun e => h.neO e.symm)), Nat.lt_of_lt_of_le h.lt hg.size, h.neR, ?_⟩ hw
  rcases hat with e | ⟨b, e, hb⟩
  · rw [e]; exact h.neO
  · rw [e]; intro e2; have := h.lt; simp at e2; omega
structure Repl (B R : Nat) (w : World) (q p t cq cp ct : Nat) : Prop where
  gR : B ≤ R
  gq : B ≤ q
  gp : B ≤ p
  gt : B ≤ t
  bs : BS R w (.slice (some ⟨q, 0, none⟩) 2 cq) (.slice (some ⟨p, 0, none⟩) 2 cp) (.slice (some ⟨t, 0, none⟩) 2 ct)
  rq : w.rangeAt q 0 (cellsU8 [92, 34])
  rp : w.rangeAt p 0 (cellsU8 [92, 92])
  t0 : w.cell? ⟨t, 0, none⟩ = some (.string sQ)
  t1 : w.cell? ⟨t, 1, none⟩ = some (.string sB)
  lR : R < w.heap.size
  lq : q < w.heap.size
  lp : p < w.heap.size
  lt : t < w.heap.size
theorem Repl.below {B R q p t cq cp ct : Nat} {w w' : World} (h : Repl B R w q p t cq cp ct) (hB : Below w.heap.size w w') : Repl B R w' q p t cq cp ct :=
  ⟨h.gR, h.gq, h.gp, h.gt, h.bs.of_block (hB.block R h.lR), range_block h.rq (hB.block q h.lq), range_block h.rp (hB.block p h.lp), (World.cell?_of_block (a := ⟨t, 0, none⟩) (hB.block t h.lt)).trans h.t0, (World.cell?_of_block (a := ⟨t, 1, none⟩) (hB.block t h.lt)).trans h.t1,
    Nat.lt_of_lt_of_le h.lR hB.size, Nat.lt_of_lt_of_le h.lq hB.size, Nat.lt_of_lt_of_le h.lp hB.size, Nat.lt_of_lt_of_le h.lt hB.size⟩
theorem Repl.but {B b R q p t cq cp ct : Nat} {w w' : World} (h : Repl B R w q p t cq cp ct) (hb : b < B) (hB : w.grownBy w' (some b)) : Repl B R w' q p t cq cp ct :=
  have key : ∀ k, B ≤ k → k < w.heap.size → w'.heap[k]? = w.heap[k]? := fun k h1 h2 => hB.block k h2 (fun e => by injection e with e; omega)
  ⟨h.gR, h.gq, h.gp, h.gt, h.bs.of_block (key R h.gR h.lR), range_block h.rq (key q h.gq h.lq), range_block h.rp (key p h.gp h.lp), (World.cell?_of_block (a := ⟨t, 0, none⟩) (key t h.gt h.lt)).trans h.t0, (World.cell?_of_block (a := ⟨t, 1, none⟩) (key t h.gt h.lt)).trans h.t1,
    Nat.lt_of_lt_of_le h.lR hB.size, Nat.lt_of_lt_of_le h.lq hB.size, Nat.lt_of_lt_of_le h.lp hB.size, Nat.lt_of_lt_of_le h.lt hB.size⟩
def BuildPost (w : World) (e : Ending) (w' : World) : Prop := ∃ R q p t cq cp ct, e = .returned (.iface 300 (.pointer (some ⟨R, 0, none⟩))) ∧ w.heap.size ≤ R ∧ Below w.heap.size w w' ∧ Repl w.heap.size R w' q p t cq cp ct
theorem built {g R q p cq cp : Nat} {w w' : World} {vt : Value} (h : BI g R w w' (.slice (some ⟨q, 0, none⟩) 2 cq) (.slice (some ⟨p, 0, none⟩) 2 cp) vt [.string sQ, .string sB])
    (h1 : QB w.heap.size q R sBQ.data.toList w' vt) (h2 : QB w.heap.size p R sBB.data.toList w' vt) : BuildPost w (.returned (.iface 300 (.pointer (some ⟨R, 0, none⟩)))) w' := by
  have ho := h.own
  rcases ho.2 with ⟨_, e⟩ | ⟨t, ct, cur, rfl, hb, hh, hn, hm, hs, htk⟩
  · cases e
  · have hlt : t < w'.heap.size := (Array.getElem?_eq_some_iff.1 hh).1
    have c0 : cur.toList[0]? = some (.string sQ) := by
      have := congrArg (fun l => l[0]?) htk
      simpa using this
    have c1 : cur.toList[1]? = some (.string sB) := by
      have := congrArg (fun l => l[1]?) htk
      simpa using this
    refine ⟨R, q, p, t, cq, cp, ct, rfl, h.hR, h.bel, ⟨h.hR, h1.ge, h2.ge, hb, h.bs, h1.row, h2.row, ?_, ?_, h.lt, h1.lt, h2.lt, hlt⟩⟩
    · simp only [World.cell?, hh]
      simpa using c0
    · simp only [World.cell?, hh]
      simpa using c1
theorem BI.alloc_eq {g R : Nat} {w0 w w' : World} {v34 v92 vt : Value} {xs : List Value} {ob : Obj} (h : BI g R w0 w v34 v92 vt xs) (hw : w' = w.alloc ob) : BI g R w0 w' v34 v92 vt xs :=
  h.below (by rw [hw]; exact (Below.refl _ _).alloc (Nat.le_refl _) _)
theorem BI.app_eq {g R : Nat} {w0 w w' w1 : World} {v34 v92 vt v1 y : Value} {xs : List Value} (h : BI g R w0 w v34 v92 vt xs) (ho : w'.ownsRow w0.heap.size 9 1 v1 (xs ++ [y]).length (xs ++ [y]))
    (hB : Below w0.heap.size w0 w') (hg : w.grownBy w' vt.ownBlock) (hat : v1.ownBlock = vt.ownBlock ∨ ∃ b, v1.ownBlock = some b ∧ w.heap.size ≤ b) (hw : w1 = w'.setCells R 256 [v1]) : BI g R w0 w1 v34 v92 v1 (xs ++ [y]) := by
  rw [hw]; exact h.app ho hB hg hat
theorem BI.set34_eq {g R : Nat} {w0 w w1 : World} {v34 v92 vt v : Value} {xs : List Value} (h : BI g R w0 w v34 v92 vt xs) (hw : w1 = w.setCells R 34 [v]) : BI g R w0 w1 v v92 vt xs := by
  rw [hw]; exact h.set34 v
theorem BI.set92_eq {g R : Nat} {w0 w w1 : World} {v34 v92 vt v : Value} {xs : List Value} (h : BI g R w0 w v34 v92 vt xs) (hw : w1 = w.setCells R 92 [v]) : BI g R w0 w1 v34 v vt xs := by
  rw [hw]; exact h.set92 v
theorem BI.there5 {g R : Nat} {w0 w w' : World} {v34 v92 vt : Value} {xs : List Value} (h : BI g R w0 w v34 v92 vt xs) (hg : w.grownBy w' vt.ownBlock) : w'.there R 256 1 :=
  (h.bs.of_block (hg.block R h.lt (fun e => h.ne e.symm))).there 256 (by omega)
theorem one_byte {w w' : World} {c : Int} (hw : w' = w.alloc (.cells #[.int .u8 c] 5)) : (convert 95 9 (.slice (some ⟨w.heap.size, 0, none⟩) 1 1)).run Tryz.prog w' = .ok (.string (strOfNums [c])) w' := by
  refine run_convert_bytes_arg (P := Tryz.prog) (w := w') 95 5 Tryz.underlying95 Tryz.underlying5 w.heap.size 0 1 1 [c] rfl ?_ 9 Tryz.underlying9
  intro i hi
  obtain rfl : i = 0 := by omega
  rw [hw, World.cell?_alloc_new]
  rfl
theorem bytes_fact (w : World) (s : ByteArray) (n : Nat) (hn : s.size = n) : ∃ cap w', (convert 9 95 (.string s)).run Tryz.prog w = .ok (.slice (some ⟨w.heap.size, 0, none⟩) n cap) w' ∧ Below w.heap.size w w' ∧ w'.heap.size = w.heap.size + 1 ∧ w'.rangeAt w.heap.size 0 (cellsU8 s.data.toList) ∧ True := by
  subst hn
  refine ⟨_, _, run_bytes_of_string w 9 95 5 s Tryz.underlying9 Tryz.underlying95 Tryz.underlying5, ?_, by simp, ?_, trivial⟩
  · exact (Below.refl _ w).drew.alloc (Nat.le_refl _) _
  · intro j v hv
    rw [Nat.zero_add]
    have := World.cell?_alloc_mark w.drew (bytesRow s (grownCap w s.size 0 5)) 5 ((bytesRow s (grownCap w s.size 0 5)).size, (bytesRow s (grownCap w s.size 0 5)).size + 1) j
    refine Eq.trans this ?_
    have hj : j < s.data.size := by
      rcases Nat.lt_or_ge j s.data.size with h | h
      · exact h
      · rw [List.getElem?_eq_none (by simpa [cellsU8] using h)] at hv; cases hv
    rw [bytesRow_at s _ j hj]
    simp only [cellsU8, List.getElem?_map] at hv
    rw [List.getElem?_eq_getElem (by simpa using hj)] at hv
    simpa using hv
theorem BI.first {g : Nat} {w w1 w2 w3 : World} (hg : g < w.heap.size) (ho : OldNew g w) (h1 : w1 = w.alloc (.cells #[.string ⟨#[]⟩, .string ⟨#[]⟩] 9))
    (h2 : w2 = w1.alloc (.cells (bsCells (.slice none 0 0)) 299)) (h3 : w3.heap[w.heap.size + 1]? = some (.cells (bsCells (.slice (some ⟨w.heap.size, 0, none⟩) 0 2)) 299 (0, 0)))
    (hB : Below w.heap.size w2 w3) (hsz : w3.heap.size = w2.heap.size) (hoth : ∀ k, k ≠ w.heap.size + 1 → w3.heap[k]? = w2.heap[k]?) :
    BI g (w.heap.size + 1) w w3 (.slice none 0 0) (.slice none 0 0) (.slice (some ⟨w.heap.size, 0, none⟩) 0 2) [] := by
  have hB2 : Below w.heap.size w w2 := by rw [h2, h1]; exact ((Below.refl _ w).alloc (Nat.le_refl _) _).alloc (by simp) _
  have hs2 : w2.heap.size = w.heap.size + 2 := by rw [h2, h1]; simp
  refine ⟨BS.new h3, ?_, by simp [Value.ownBlock], (ho.of_block (hB2.block g hg)).of_block (hoth g (by omega)), hB2.trans hB, by omega, by omega, hg⟩
  refine ⟨rfl, .inr ⟨w.heap.size, 2, #[.string ⟨#[]⟩, .string ⟨#[]⟩], rfl, Nat.le_refl _, ?_, Nat.zero_le _, by simp [maxLen], rfl, rfl⟩⟩
  rw [hoth _ (by omega), h2]
  rw [Below.heap_alloc _ _ _ (by rw [h1]; simp), h1]
  exact heap_alloc_new w _

set_option maxHeartbeats 4000000 in
theorem build_calls (b g cp : Nat) (w : World) (hc : 4 ≤ cp) (hb : w.cell? ⟨b, 4, none⟩ = some (.slice (some ⟨g, 0, none⟩) 4 cp)) (ho : OldNew g w) (hg : g < w.heap.size) :
    Calls Tryz.prog 168 #[.pointer (some ⟨b, 0, none⟩)] w (BuildPost w) := by
  have ho0 := ho.c0
  have ho1 := ho.c1
  have ho2 := ho.c2
  have ho3 := ho.c3
  have z0 : sB.size = 1 := rfl
  have z1 : sBB.size = 2 := rfl
  have z2 : sQ.size = 1 := rfl
  have z3 : sBQ.size = 2 := rfl
  have hnil : ∀ wx : World, (Go.binOp .eql 95 (Value.slice none 0 0) (Value.slice none 0 0)).run Tryz.prog wx = .ok (.bool true) wx := fun _ => by kernel_rfl
  have x0 : sQ[0]'(by decide) = 34 := rfl
  have x1 : sB[0]'(by decide) = 92 := rfl
  go_enter Tryz.func168, Tryz.ntmps168
  go_wp2
  refine wp_loop_rounds 3 ?_
  rw [rounds_succ]
  go_wp2
  rw [rounds_succ]
  go_wp2
  rw [rounds_succ]
  go_wp2_with (first
    | (refine run_event rfl (.makeSlice 51 _ _) rfl (.slice (some ⟨w.heap.size, 0, none⟩) 0 2) (w.alloc (.cells #[.string ⟨#[]⟩, .string ⟨#[]⟩] 9)) (by kernel_rfl) ?_; intro w1 hw1; have F1 := Lib.hid hw1; have hsz1 : w1.heap.size = w.heap.size + 1 := (by rw [hw1]; simp); clear hw1)
    | (refine wpList_buildTo rfl 299 _ rfl (some 95) rfl (bsCells (.slice (some ⟨w.heap.size, 0, none⟩) 0 2)) (by kernel_rfl) ?_)
    | (refine run_event rfl (.alloc 299) rfl (.pointer (some ⟨w.heap.size + 1, 0, none⟩)) (w1.alloc (.cells (bsCells (.slice none 0 0)) 299)) (by rw [← hsz1]; kernel_rfl) ?_; intro w2 hw2; have F2 := Lib.hid hw2; clear hw2)
    | ((with_reducible refine gate_store (t := 299) (p := 11) rfl ?_); go_loud (refine put_event rfl 299 _ _ rfl (w.heap.size + 1) (bsCells (.slice (some ⟨w.heap.size, 0, none⟩) 0 2)) (by kernel_rfl) (by kernel_rfl) 299 (bsCells (.slice none 0 0)) (by rw [F2.out, ← hsz1]; exact heap_alloc_new _ _) (by kernel_rfl) (by kernel_rfl) (by kernel_rfl) w.heap.size (by omega) ?_; intro w3 hblk3 hB3 hsz3 hoth3; have I3 := Lib.hid (BI.first hg ho F1.out F2.out hblk3 hB3 hsz3 hoth3); clear hblk3 hB3 hsz3 hoth3 ho0 ho1 ho2 ho3)))
  refine wp_loop_rounds 3 ?_
  rw [rounds_succ]
  have ta := I3.out.bs.t
  have ca : w3.cell? ⟨w.heap.size + 1, 34, none⟩ = some (.slice none 0 0) := I3.out.bs.c 34 (by omega)
  have pa := I3.out.new.c2
  have qa := I3.out.new.c3
  have hva := own_slice I3.out.own
  go_wp2_with (first
    | (refine run_event rfl (.buildSlice 95 1 _) rfl (.slice (some ⟨w3.heap.size, 0, none⟩) 1 1) (w3.alloc (.cells #[.int .u8 34] 5)) (by kernel_rfl) ?_; (intro w4a hw4a; have I4a := Lib.hid (I3.out.alloc_eq hw4a); have hcva := one_byte hw4a;  clear hw4a))
    | (at_builtin; (refine print_append (w0 := w) w.heap.size rfl (.tmp 119) (.tmp 123) 51 9 (.string ⟨#[]⟩) 16 rfl Tryz.underlying51 (by kernel_rfl) rfl (by decide) (.slice (some ⟨w.heap.size, 0, none⟩) 0 2) [] (.string sQ) rfl rfl rfl I4a.out.own I4a.out.bel I4a.out.bel.size (by decide) ?_; intro v1a w5a ho5a hB5a hg5a hat5a; obtain ⟨Aa, cpa, rfl⟩ := own_slice ho5a; have H5a := Lib.hid (And.intro ho5a (And.intro hB5a (And.intro hg5a hat5a))); clear ho5a hB5a hg5a hat5a))
    | ((with_reducible refine gate_store (t := 51) (p := 125) rfl ?_); (refine cell_event rfl 51 _ _ rfl (w.heap.size + 1) 256 (.slice Aa _ cpa) rfl rfl rfl (I4a.out.there5 H5a.out.2.2.1) (by kernel_rfl) w.heap.size (by omega) ?_; intro w6a hw6a hB6a hs6a; have I6a := Lib.hid (BI.app_eq I4a.out H5a.out.1 H5a.out.2.1 H5a.out.2.2.1 H5a.out.2.2.2 hw6a); clear hs6a; have qa := I6a.out.new.c3; obtain ⟨capa, w7a, hcba, hB7a, hs7a, hr7a, hcapa⟩ := bytes_fact w6a sBQ 2 rfl; have HS7a := Lib.hid hs7a; clear hs7a; have HB7a := Lib.hid hB7a; have I7a := Lib.hid (I6a.out.below hB7a); clear hw6a))
    | ((with_reducible refine gate_store (t := 95) (p := 130) rfl ?_); (refine cell_event rfl 95 _ _ rfl (w.heap.size + 1) 34 (.slice (some ⟨w6a.heap.size, 0, none⟩) 2 capa) rfl rfl rfl (I7a.out.bs.there 34 (by omega)) (by kernel_rfl) w.heap.size (by omega) ?_; intro w8a hw8a hB8a hs8a; have I8a := Lib.hid (I7a.out.set34_eq hw8a); have Q8a := Lib.hid ((QB.new I6a.out HB7a.out HS7a.out hr7a).set_eq hw8a); clear hw8a hs8a)))
  rw [rounds_succ]
  have tb := I8a.out.bs.t
  have cb : w8a.cell? ⟨w.heap.size + 1, 92, none⟩ = some (.slice none 0 0) := I8a.out.bs.c 92 (by omega)
  have pb := I8a.out.new.c0
  have qb := I8a.out.new.c1
  have hvb := own_slice I8a.out.own
  go_wp2_with (first
    | (refine run_event rfl (.buildSlice 95 1 _) rfl (.slice (some ⟨w8a.heap.size, 0, none⟩) 1 1) (w8a.alloc (.cells #[.int .u8 92] 5)) (by kernel_rfl) ?_; (intro w4b hw4b; have I4b := Lib.hid (I8a.out.alloc_eq hw4b); have hcvb := one_byte hw4b; have Q4b := Lib.hid (Q8a.out.alloc_eq hw4b); clear hw4b))
    | (at_builtin; (refine print_append (w0 := w) w.heap.size rfl (.tmp 119) (.tmp 123) 51 9 (.string ⟨#[]⟩) 16 rfl Tryz.underlying51 (by kernel_rfl) rfl (by decide) (.slice Aa _ cpa) [.string sQ] (.string sB) rfl rfl rfl I4b.out.own I4b.out.bel I4b.out.bel.size (by decide) ?_; intro v1b w5b ho5b hB5b hg5b hat5b; obtain ⟨Ab, cpb, rfl⟩ := own_slice ho5b; have H5b := Lib.hid (And.intro ho5b (And.intro hB5b (And.intro hg5b hat5b))); clear ho5b hB5b hg5b hat5b))
    | ((with_reducible refine gate_store (t := 51) (p := 125) rfl ?_); (refine cell_event rfl 51 _ _ rfl (w.heap.size + 1) 256 (.slice Ab _ cpb) rfl rfl rfl (I4b.out.there5 H5b.out.2.2.1) (by kernel_rfl) w.heap.size (by omega) ?_; intro w6b hw6b hB6b hs6b; have I6b := Lib.hid (BI.app_eq I4b.out H5b.out.1 H5b.out.2.1 H5b.out.2.2.1 H5b.out.2.2.2 hw6b); have Q6b := Lib.hid (QB.app_eq Q4b.out H5b.out.2.2.1 H5b.out.2.2.2 hw6b); clear hs6b; have qb := I6b.out.new.c1; obtain ⟨capb, w7b, hcbb, hB7b, hs7b, hr7b, hcapb⟩ := bytes_fact w6b sBB 2 rfl; have HS7b := Lib.hid hs7b; clear hs7b; have HB7b := Lib.hid hB7b; have I7b := Lib.hid (I6b.out.below hB7b); clear hw6b))
    | ((with_reducible refine gate_store (t := 95) (p := 130) rfl ?_); (refine cell_event rfl 95 _ _ rfl (w.heap.size + 1) 92 (.slice (some ⟨w6b.heap.size, 0, none⟩) 2 capb) rfl rfl rfl (I7b.out.bs.there 92 (by omega)) (by kernel_rfl) w.heap.size (by omega) ?_; intro w8b hw8b hB8b hs8b; have I8b := Lib.hid (I7b.out.set92_eq hw8b); have Q8b := Lib.hid ((Q6b.out.below hB7b).set_eq hw8b); have P8b := Lib.hid ((QB.new I6b.out HB7b.out HS7b.out hr7b).set_eq hw8b); clear hw8b hs8b)))
  rw [rounds_succ]
  go_wp2
  go_ret
  exact built I8b.out Q8b.out P8b.out
end Go.Proofs.YtmfejjlmflgnbaaGreatDoor.Tok

/- SMALL LAWS OF THE WALK for structs in a block of the call's own: a whole struct stored as one step behind which the world has a letter. -/
import Derived.Test.YtpecmmicndcgjaaGreatDoorTok1
import Derived.Laws.Rows
import Derived.Laws.Tables
import Derived.Deep.MidRow
import Derived.Test.YtpecmmicndcgjaaGreatDoorSpec
import Derived.Laws.BytesArg
namespace Go.Proofs.YtpecmmicndcgjaaGreatDoor.Tok
open Go.RowKit Go.Proofs.YtpecmmicndcgjaaGreatDoorW.PrintWords
set_option linter.unusedVariables false
section
variable {P : Program} {ops : Array Oper} {rest : List Oper} {o : Oper} {a : Act} {w : World} {Q : Exit → Act → World → Prop}
theorem setRow_other (w : World) (g k : Nat) (cs : Array Value) (h : k ≠ g) : (w.setRow g cs).heap[k]? = w.heap[k]? := by
  unfold World.setRow
  simp only
  rw [Array.getElem?_modify]
  rw [if_neg (fun e => h e.symm)]
theorem setRow_size (w : World) (g : Nat) (cs : Array Value) : (w.setRow g cs).heap.size = w.heap.size := by
  unfold World.setRow
  simp
theorem setRow_below (w : World) (g B : Nat) (cs : Array Value) (h : B ≤ g) : Below B w (w.setRow g cs) :=
  ⟨rfl, rfl, rfl, by rw [setRow_size]; exact Nat.le_refl _, fun i hi => setRow_other w g i cs (by omega)⟩
theorem put_event (hgd : o.guard = none) (ty : TypeId) (x y : Operand) (ho : o.op = .store ty x y)
    (g : Nat) (cells : Array Value) (hx : a.eval x = .pointer (some ⟨g, 0, none⟩)) (hy : a.eval y = .agg cells)
    (t : TypeId) (old : Array Value) (hg : w.heap[g]? = some (.cells old t (0, 0))) (hi : (P.info? ty).map (·.size) = some cells.size)
    (hold : old.size = cells.size) (h1 : cells.all (·.oneCell') = true) (B : Nat) (hB : B ≤ g)
    (h : ∀ w1, w1.heap[g]? = some (.cells cells t (0, 0)) → Below B w w1 → w1.heap.size = w.heap.size → (∀ k, k ≠ g → w1.heap[k]? = w.heap[k]?) → wpList P ops Q rest (a.put o.dst undef) w1) : wpList P ops Q (o :: rest) a w :=
  wpList_store_row hgd ty x y ho g cells hx hy t old hg hi hold h1 (h _ (setRow_heap w g old cells t (0, 0) hg) (setRow_below w g B cells hB) (setRow_size w g cells) (fun k hk => setRow_other w g k cells hk))
/-- An operation whose run is known: the world behind it gets a letter. -/
theorem run_event (hgd : o.guard = none) (op : Op) (ho : o.op = op) (v : Value) (w' : World) (hrun : (execOp a.eval o).run P w = .ok (.value v) w')
    (h : ∀ w1, w1 = w' → wpList P ops Q rest (a.put o.dst v) w1) : wpList P ops Q (o :: rest) a w := by
  refine wpList_plain hgd fun K hK => ?_
  unfold Oper.wp
  rw [hrun, Oper.upon_value]
  exact hK _ _ (h _ rfl)
/-- One cell stored in a block of the call's own. -/
theorem cell_event (hgd : o.guard = none) (ty : TypeId) (x y : Operand) (ho : o.op = .store ty x y)
    (b off : Nat) (v : Value) (hx : a.eval x = .pointer (some ⟨b, off, none⟩)) (hy : a.eval y = v) (h1 : v.oneCell' = true)
    (ht : w.there b off 1) (hi : (P.info? ty).map (·.size) = some 1) (B : Nat) (hB : B ≤ b)
    (h : ∀ w1, w1 = w.setCells b off [v] → Below B w w1 → w1.heap.size = w.heap.size → wpList P ops Q rest (a.put o.dst undef) w1) : wpList P ops Q (o :: rest) a w := by
  obtain ⟨h2, h3⟩ := ht 0 (by omega)
  obtain ⟨old, hold⟩ := Option.isSome_iff_exists.1 h2
  refine wpList_plain hgd fun K hK => ?_
  unfold Oper.wp execOp
  have hc : v.cells = #[v] := by cases v <;> first | rfl | cases h1
  have hrun : (storeVar ty ⟨b, off, none⟩ v).run P w = .ok () (w.setCell ⟨b, off, none⟩ v) := by
    have := run_storeCells_cells (P := P) b off [v] 0 w (fun j hj => by simp at hj; subst hj; simpa using h2) (fun j hj => by simp at hj; subst hj; simpa using h3) (fun x hx => by simp at hx; subst hx; exact h1)
    cases hq : P.info? ty with
    | none => simp [hq] at hi
    | some i =>
      have hs : i.size = 1 := by simpa [hq] using hi
      simp only [Nat.add_zero] at this
      simp [storeVar, sizeOf, typeInfo, hq, hc, hs, this, World.setCells]
  simp only [ho, hx, hy, Instr.storeAt, Instr.sureAddr, Sem.run_bind, Sem.run_pure, Result.andThen_ok, hrun]
  exact hK _ _ (h _ rfl ((Below.refl B w).setCell (p := ⟨b, off, none⟩) hB v) (by simp [World.setCell]))
end
open Go.Proofs.YtpecmmicndcgjaaGreatDoor.Sp
def ints (l : Bs) : List Int := l.map fun c => (c.toNat : Int)
theorem ints_snoc (l : Bs) (c : UInt8) : ints (l ++ [c]) = ints l ++ [(c.toNat : Int)] := by simp [ints]
theorem ints_len (l : Bs) : (ints l).length = l.length := by simp [ints]
theorem str_ints (l : Bs) : strOfNums (ints l) = ⟨l.toArray⟩ := by
  unfold strOfNums ints
  rw [List.map_map]
  congr 2
  conv => rhs; rw [← List.map_id l]
  apply List.map_congr_left
  intro c _
  simp
end Go.Proofs.YtpecmmicndcgjaaGreatDoor.Tok

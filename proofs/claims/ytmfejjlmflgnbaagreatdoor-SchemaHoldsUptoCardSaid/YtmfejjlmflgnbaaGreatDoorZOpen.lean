/- OPENING THE ARGUMENTS: a token by value, and a slice of tokens, out of what the form says of them. -/
import Derived.Test.YtmfejjlmflgnbaaGreatDoorCards
import Derived.Test.YtmfejjlmflgnbaaGreatDoorZBase
import Derived.WalkKit
import Derived.ProofKit
import Derived.OpenShut
import Derived.ShutString
import Derived.Below
namespace Go.Proofs.YtmfejjlmflgnbaaGreatDoor.Tok
open Go.ChangeShapes Go.WideShapes Go.ChangeAt Go.RowKit Go.Proofs.YtmfejjlmflgnbaaGreatDoor.PA Go.Proofs.YtmfejjlmflgnbaaGreatDoorW.PrintWords Go.Proofs.YtmfejjlmflgnbaaGreatDoorW.PrintLast
set_option linter.unusedVariables false
set_option linter.unusedSimpArgs false
set_option maxRecDepth 100000

theorem laidOut : laidOutB Tryz.prog = true := by kernel_rfl
theorem cells_tok : Tryz.prog.cellsOf 104 = 7 := by kernel_rfl
theorem cells_at : Tryz.prog.cellsOf 41 = 3 := by kernel_rfl
theorem cells_kind : Tryz.prog.cellsOf 102 = 1 := by kernel_rfl
theorem cells_int : Tryz.prog.cellsOf 3 = 1 := by kernel_rfl
theorem cells_str : Tryz.prog.cellsOf 9 = 1 := by kernel_rfl
theorem cells_num : Tryz.prog.cellsOf 46 = 1 := by kernel_rfl
theorem cells_bool : Tryz.prog.cellsOf 4 = 1 := by kernel_rfl
def tokCellsL (k o l c : Int) (t : ByteArray) (v : Int) (h : Bool) : List Value := [.int .i64 k, .int .i64 o, .int .i64 l, .int .i64 c, .string t, .int .u32 v, .bool h]
def tokD {H : Type} (k o l c : Int) (t : ByteArray) (v : Int) (h : Bool) : DataW H := .agg [.lit (.int .i64 k), .agg [.lit (.int .i64 o), .lit (.int .i64 l), .lit (.int .i64 c)], .lit (.string t.data.toList), .lit (.int .u32 v), .lit (.bool h)]
theorem open_at {H : Type} {enc : TypeId × Value → H} {W : World} {base : Nat} {sp : Nat → Bool} {held : Bool} {fuel : Nat} {cs : List Value} {x : DataW H × List MemPlace}
    (hf : DataW.trod enc Tryz.prog W base sp held fuel 41 cs = some x) :
    ∃ o l c, cs = [.int .i64 o, .int .i64 l, .int .i64 c] ∧ x = (.agg [.lit (.int .i64 o), .lit (.int .i64 l), .lit (.int .i64 c)], []) := by
  obtain ⟨xs, n, rfl, rfl, hl, hn, hg⟩ := DataW.trod_struct Tryz.underlying41 hf
  rw [cells_at] at hl
  have hn3 : xs.length = 3 := hn
  match cs, hl with
  | [c0, c1, c2], _ =>
    match xs, hn3 with
    | [x0, x1, x2], _ =>
      have g0 := hg 0 _ rfl
      have g1 := hg 1 _ rfl
      have g2 := hg 2 _ rfl
      simp only [cells_int, List.drop_zero, List.drop_succ_cons, List.take_succ_cons, List.take_zero, List.getElem?_cons_zero, List.getElem?_cons_succ] at g0 g1 g2
      obtain ⟨o, e0, rfl, _⟩ := DataW.trod_int Tryz.underlying3 g0
      obtain ⟨l, e1, rfl, _⟩ := DataW.trod_int Tryz.underlying3 g1
      obtain ⟨c, e2, rfl, _⟩ := DataW.trod_int Tryz.underlying3 g2
      cases e0; cases e1; cases e2
      exact ⟨o, l, c, rfl, rfl⟩
theorem open_tok {H : Type} {enc : TypeId × Value → H} {W : World} {base : Nat} {sp : Nat → Bool} {held : Bool} {fuel : Nat} {cs : List Value} {x : DataW H × List MemPlace}
    (hf : DataW.trod enc Tryz.prog W base sp held fuel 104 cs = some x) :
    ∃ (k o l c : Int) (t : ByteArray) (v : Nat) (h : Bool), cs = tokCellsL k o l c t v h ∧ x = (tokD k o l c t v h, []) ∧ v < 4294967296 := by
  obtain ⟨xs, n, rfl, rfl, hl, hn, hg⟩ := DataW.trod_struct Tryz.underlying104 hf
  rw [cells_tok] at hl
  have hn5 : xs.length = 5 := hn
  match cs, hl with
  | [c0, c1, c2, c3, c4, c5, c6], _ =>
    match xs, hn5 with
    | [x0, x1, x2, x3, x4], _ =>
      have g0 := hg 0 _ rfl
      have g1 := hg 1 _ rfl
      have g2 := hg 2 _ rfl
      have g3 := hg 3 _ rfl
      have g4 := hg 4 _ rfl
      simp only [cells_kind, cells_at, cells_str, cells_num, cells_bool, List.drop_zero, List.drop_succ_cons, List.take_succ_cons, List.take_zero, List.getElem?_cons_zero, List.getElem?_cons_succ] at g0 g1 g2 g3 g4
      obtain ⟨k, e0, rfl, _⟩ := DataW.trod_int Tryz.underlying102 g0
      obtain ⟨o, l, c, e1, rfl⟩ := open_at g1
      obtain ⟨t, e2, rfl, _⟩ := DataW.trod_string Tryz.underlying9 g2
      obtain ⟨v, e3, rfl, wv⟩ := DataW.trod_int Tryz.underlying46 g3
      obtain ⟨h, e4, rfl⟩ := DataW.trod_bool Tryz.underlying4 g4
      have hb := Go.bounds_u32 wv
      obtain ⟨m, rfl⟩ : ∃ m : Nat, v = (m : Int) := ⟨v.toNat, by omega⟩
      cases e0; cases e1; cases e2; cases e3; cases e4
      exact ⟨k, o, l, c, t, m, h, rfl, rfl, by omega⟩
/-- A token's bulk is above its text's length. -/
theorem bulk_tok {H : Type} (k o l c : Int) (t : ByteArray) (v : Int) (h : Bool) : t.size ≤ Rows.uptoBulk (tokD (H := H) k o l c t v h) := by
  have e : t.data.toList.length = t.size := by rw [Array.length_toList]; rfl
  simp only [tokD, Rows.uptoBulk, Rows.uptoBulkAll]
  omega
/-- A token by value. -/
theorem open_tokV {H : Type} {enc : TypeId × Value → H} {W : World} {v : Value} {d : DataW H} {p : List MemPlace} {sp : Nat → Bool} {held : Bool} {base base' : Nat}
    (hv : Value.okWide Tryz.prog W .any base' 104 v) (h : DataW.Trod enc Tryz.prog W base sp held 104 v d p) :
    ∃ (k o l c : Int) (t : ByteArray) (n : Nat) (b : Bool), v = .agg #[.int .i64 k, .int .i64 o, .int .i64 l, .int .i64 c, .string t, .int .u32 n, .bool b] ∧ d = tokD k o l c t n b ∧ n < 4294967296 := by
  obtain ⟨cs, rfl, hsz⟩ := okWide_struct Tryz.underlying104 hv
  obtain ⟨fuel, hf⟩ := h
  obtain ⟨k, o, l, c, t, n, b, e, ex, hn⟩ := open_tok hf
  have e' : cs.toList = tokCellsL k o l c t n b := e
  refine ⟨k, o, l, c, t, n, b, ?_, congrArg Prod.fst ex, hn⟩
  congr 1
  apply Array.toList_inj.1
  rw [e']; rfl
/-- An argument that the call left alone reads as before. -/
theorem shut_below {H : Type} {enc : TypeId × Value → H} {W W' : World} {ty : TypeId} {v : Value} {d : DataW H} {p : List MemPlace} (ht : ty < Tryz.prog.types.size)
    (h : DataW.Trod enc Tryz.prog W 0 (fun _ => true) true ty v d p) (bel : Below W.heap.size W W') (rr : Tryz.prog.readableRec ty = true) : DataW.Trod enc Tryz.prog W' 0 (fun b => decide (b < W.heap.size)) true ty v d p :=
  Below.trod laidOut rr ht h bel (fun x hx => by obtain ⟨m, hm⟩ := h; exact DataW.trod_lt m _ _ _ hm x hx)
end Go.Proofs.YtmfejjlmflgnbaaGreatDoor.Tok

/- OPENING A SLICE OF BYTES: what the form says of it gives its bytes, and its bulk. -/
import Derived.Test.YtpecmmicndcgjaaGreatDoorOpenL
namespace Go.Proofs.YtpecmmicndcgjaaGreatDoor.Tok
open Go.RowKit Go.Proofs.YtpecmmicndcgjaaGreatDoor.PA Go.Proofs.YtpecmmicndcgjaaGreatDoorW.PrintWords Go.Proofs.YtpecmmicndcgjaaGreatDoorW.PrintLast
set_option linter.unusedVariables false
set_option linter.unusedSimpArgs false
set_option maxRecDepth 100000

/-- A slice of bytes, opened. -/
theorem open_bytesV {H : Type} {enc : TypeId × Value → H} {W : World} {v : Value} {d : DataW H} {p : List MemPlace} {sp : Nat → Bool} {held : Bool} {base base' : Nat}
    (hv : Value.okWide Tryz.prog W .any base' 48 v) (h : DataW.Trod enc Tryz.prog W base sp held 48 v d p) :
    ∃ (A : Option Addr) (c : Nat) (ms : List Nat), v = .slice A ms.length c ∧ (∀ (i : Nat) (h : i < ms.length), ∃ ad, A = some ad ∧ W.cell? (ad.add i) = some (.int .u8 (ms[i] : Nat))) ∧ ms.length ≤ Rows.uptoBulk d := by
  obtain ⟨A, len, cap, rfl⟩ := Go.WideShapes.okWide_slice Tryz.underlying48 hv
  obtain ⟨fuel, hf⟩ := h
  rcases Go.ChangeShapes.open_ints Tryz.underlying48 Tryz.underlying5 (by kernel_rfl) hf with ⟨hcs, hx⟩ | ⟨a, len', cap', zs, hcs, _, hl, hm, hz, hx, hcell, hwz⟩
  · simp [Value.cells] at hcs
    obtain ⟨rfl, rfl, rfl⟩ := hcs
    exact ⟨none, 0, [], rfl, fun i h => (by simp at h), by simp⟩
  · simp [Value.cells] at hcs
    obtain ⟨rfl, rfl, rfl⟩ := hcs
    have hzl : len ≤ zs.length := by rw [hz]; split <;> omega
    have hd : d = .slice (Go.ChangeShapes.lits .u8 (zs.take len)) (Go.ChangeShapes.lits .u8 (zs.drop len)) := congrArg Prod.fst hx
    have hml : ((zs.take len).map Int.toNat).length = len := by rw [List.length_map, List.length_take]; omega
    refine ⟨some a, cap, (zs.take len).map Int.toNat, by rw [hml], fun i hi => ⟨a, rfl, ?_⟩, ?_⟩
    · have hi' : i < len := by rw [hml] at hi; exact hi
      have hw := hwz zs[i] (List.getElem_mem (by omega))
      have hg := hcell i (by omega)
      rw [hg, List.getElem_map, List.getElem_take, List.getD_eq_getElem?_getD, List.getElem?_eq_getElem (by omega)]
      simp [Lit.wf, IntKind.min, IntKind.max, IntKind.signed, IntKind.bits] at hw
      simp only [Option.getD_some]
      rw [Int.toNat_of_nonneg (by omega)]
    · rw [hml, hd]
      simp only [Rows.uptoBulk]
      have : ∀ l : List Int, l.length ≤ Rows.uptoBulkAll (Go.ChangeShapes.lits (H := H) .u8 l) := fun l => by
        induction l with
        | nil => simp
        | cons x r ih => simp only [Go.ChangeShapes.lits, List.map_cons, Rows.uptoBulkAll, Rows.uptoBulk, List.length_cons] at ih ⊢; omega
      have h1 := this (zs.take len)
      rw [List.length_take] at h1
      omega
end Go.Proofs.YtpecmmicndcgjaaGreatDoor.Tok

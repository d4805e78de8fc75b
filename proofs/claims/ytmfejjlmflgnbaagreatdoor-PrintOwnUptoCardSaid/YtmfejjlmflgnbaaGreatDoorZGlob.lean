/- WHAT THE PACKAGE-LEVEL VARIABLES HOLD, as a fact of a world; a world that is the same below its own heap keeps it. -/
import Derived.Test.YtmfejjlmflgnbaaGreatDoorZBase
import Derived.ChangeAgain
import Derived.Below
import Derived.Lib.LaidTab
import Derived.Lib.ItoaNum
namespace Go.Proofs.YtmfejjlmflgnbaaGreatDoor.Tok
open Go.RowKit

structure Glob (w : World) : Prop where
  shaped : w.ShapedOpen Tryz.prog
  pow : Lib.TabIs Tryz.prog w "internal/strconv.uint64pow10" .u64 Lib.pow10Tab
  db : w.cell? ⟨14, 15, none⟩ = some (.int .u8 4)
  errt : w.cell? ⟨4, 0, none⟩ = some (.iface 226 (.agg #[.pointer (some ⟨15, 84, none⟩)]))

theorem var_below {w w' : World} {name : String} {cs : Array Value} (h : w.var? Tryz.prog name = some cs) (hB : Below w.heap.size w w') : w'.var? Tryz.prog name = some cs := by
  unfold World.var? at h ⊢
  cases hg : Tryz.prog.globalNamed name with
  | none => simp [hg] at h
  | some g =>
    simp only [hg, Option.bind_some] at h ⊢
    have hlt : g < w.heap.size := by
      rcases Nat.lt_or_ge g w.heap.size with h' | h'
      · exact h'
      · simp [Array.getElem?_eq_none h'] at h
    rw [hB.block g hlt]
    exact h
theorem cell_below {w w' : World} {g j : Nat} {v : Value} (h : w.cell? ⟨g, j, none⟩ = some v) (hB : Below w.heap.size w w') : w'.cell? ⟨g, j, none⟩ = some v := by
  rw [hB.cell]
  · exact h
  · rcases Nat.lt_or_ge g w.heap.size with h' | h'
    · exact h'
    · simp [World.cell?, Array.getElem?_eq_none h'] at h
theorem Glob.below {w w' : World} (h : Glob w) (hB : Below w.heap.size w w') : Glob w' where
  shaped := h.shaped.keptBut (hB.frame fun _ => False) (fun _ h => h.elim)
  pow := var_below h.pow hB
  db := cell_below h.db hB
  errt := cell_below h.errt hB
end Go.Proofs.YtmfejjlmflgnbaaGreatDoor.Tok

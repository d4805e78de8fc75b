/- WHAT THE ROWS LIST: from the listed package-level variables to what the walks ask of them; and a world that holds them (the witness). -/
import Derived.Test.YtmfejjlmflgnbaaGreatDoorCards
import Derived.Test.YtmfejjlmflgnbaaGreatDoorTie
import Derived.Test.YtmfejjlmflgnbaaGreatDoorZGlob
import Derived.WalkKit
import Derived.ProofKit
import Derived.OpenShut
import Derived.Deep.DeepHandedRow
import Derived.Deep.DeepWitnessRowRef
import Derived.Lib.LaidTab
import Derived.Lib.LaidIn
import Derived.Lib.LaidCaseMet
import Derived.PinnedBridge
import Derived.LaidHandle
import Derived.Stop.LaidErr
namespace Go.Proofs.YtmfejjlmflgnbaaGreatDoor.Tok
open Go.ChangeShapes Go.WideShapes Go.ChangeAt Go.RowKit
set_option linter.unusedVariables false
set_option linter.unusedSimpArgs false
set_option maxRecDepth 100000

def laidL : List (String × DataW Unit) := [("math/bits.deBruijn32tab", Rows.laid_math_bits_deBruijn32tab), ("math/bits.deBruijn64tab", Rows.laid_math_bits_deBruijn64tab), ("internal/strconv.uint64pow10", Rows.laid_internal_strconv_uint64pow10), ("unicode/utf8.acceptRanges", Rows.laid_unicode_utf8_acceptRanges), ("errors.errorType", Rows.laid_errors_errorType), ("unicode.CaseRanges", Rows.laid_unicode_CaseRanges), ("unicode/utf8.first", Rows.laid_unicode_utf8_first)]
def laid8 : List (String × DataW Unit) := [("math/bits.deBruijn32tab", Rows.laid_math_bits_deBruijn32tab), ("math/bits.deBruijn64tab", Rows.laid_math_bits_deBruijn64tab), ("internal/strconv.uint64pow10", Rows.laid_internal_strconv_uint64pow10), ("unicode/utf8.acceptRanges", Rows.laid_unicode_utf8_acceptRanges), ("unicode.CaseRanges", Rows.laid_unicode_CaseRanges), ("unicode/utf8.first", Rows.laid_unicode_utf8_first)]
theorem filt_none : (laidL.filter fun x => x.2.handleName?.isNone) = laid8 := by kernel_rfl
theorem filt_some : (laidL.filter fun x => x.2.handleName?.isSome) = [("errors.errorType", Rows.laid_errors_errorType)] := by kernel_rfl
theorem laid_parts {W : World} (h : laidMetH Tryz.prog laidL W) : laidMet Tryz.prog laid8 W ∧ handlesMet Tryz.prog [("errors.errorType", Rows.laid_errors_errorType)] W := by
  unfold laidMetH at h
  rw [filt_some, filt_none] at h
  exact h
theorem et_named : Tryz.prog.globalNamed "errors.errorType" = some 4 := by kernel_rfl
theorem rt_type : (Tryz.prog.cutTypes.find? (·.1 == "internal/reflectlite.rtype")).map (·.2) = some 226 := by kernel_rfl
theorem et_row : ((List.range Tryz.prog.types.size).filter fun t => Tryz.prog.rowNamed t [101, 114, 114, 111, 114]) = [84] := by kernel_rfl
theorem handle_cell {W : World} (h : handlesMet Tryz.prog [("errors.errorType", Rows.laid_errors_errorType)] W) : W.cell? ⟨4, 0, none⟩ = some (.iface 226 (.agg #[.pointer (some ⟨15, 84, none⟩)])) := by
  obtain ⟨name, u, ty, e1, e2, e3, e4, e5⟩ := h _ (List.mem_singleton.2 rfl)
  have en : name = [101, 114, 114, 111, 114] := (Option.some.inj e1).symm
  subst en
  obtain rfl := Option.some.inj (rt_type.symm.trans e2)
  have hm : ty ∈ (List.range Tryz.prog.types.size).filter fun t => Tryz.prog.rowNamed t [101, 114, 114, 111, 114] := List.mem_filter.2 ⟨List.mem_range.2 e3, e4⟩
  rw [et_row] at hm
  obtain rfl := List.mem_singleton.1 hm
  have hh : typeHandle Tryz.prog 84 = .pointer (some ⟨15, 84, none⟩) := by kernel_rfl
  rw [hh] at e5
  simpa using World.var?_cell et_named e5 0
def deB64 : List Int := [0, 1, 56, 2, 57, 49, 28, 3, 61, 58, 42, 50, 38, 29, 17, 4, 62, 47, 59, 36, 45, 43, 51, 22, 53, 39, 33, 30, 24, 18, 12, 5, 63, 55, 48, 27, 60, 41, 37, 16, 46, 35, 44, 21, 52, 32, 23, 11, 54, 26, 40, 15, 34, 20, 31, 10, 25, 14, 19, 9, 13, 8, 7, 6]
theorem deB64_eq : (Rows.laid_math_bits_deBruijn64tab : DataW Unit) = Lib.tabData .u8 deB64 := by kernel_rfl
theorem pow10_eq : (Rows.laid_internal_strconv_uint64pow10 : DataW Unit) = Lib.tabData .u64 Lib.pow10Tab := by kernel_rfl
theorem glob_of_laid {W : World} (h : laidMetH Tryz.prog laidL W) (hS : W.ShapedOpen Tryz.prog) : Glob W := by
  obtain ⟨h8, hh⟩ := laid_parts h
  have h8' : laidMet Tryz.prog (("math/bits.deBruijn32tab", Rows.laid_math_bits_deBruijn32tab) :: ("math/bits.deBruijn64tab", Rows.laid_math_bits_deBruijn64tab) :: ("internal/strconv.uint64pow10", Rows.laid_internal_strconv_uint64pow10) :: laid8.drop 3) W := h8
  have t1 := h8'.tail
  rw [deB64_eq] at t1
  have t2 := h8'.tail.tail
  rw [pow10_eq] at t2
  refine ⟨hS, ?_, ?_, handle_cell hh⟩
  · exact Lib.tabIs_of_head (g := 10) (t := 283) (e := 213) (n := 20) (by kernel_rfl) (by kernel_rfl) (by kernel_rfl) (by kernel_rfl) (by kernel_rfl) (by kernel_rfl) t2
  · exact (Lib.tabIs_of_head (g := 14) (t := 327) (e := 5) (n := 64) (by kernel_rfl) (by kernel_rfl) (by kernel_rfl) (by kernel_rfl) (by kernel_rfl) (by kernel_rfl) t1).cell (by kernel_rfl) 15 (by decide)
end Go.Proofs.YtmfejjlmflgnbaaGreatDoor.Tok
/- THE WITNESS: a world that holds what the rows list. After the guide's worked texts (FlbProofs, LaidCaseMet), turned to this program. -/
namespace Go.Proofs.YtmfejjlmflgnbaaGreatDoor.Tok
open Go.ChangeShapes Go.WideShapes Go.ChangeAt Go.RowKit Go.Lib Go.Shelf
set_option linter.unusedVariables false
set_option linter.unusedSimpArgs false
set_option maxRecDepth 1000000

def deB32 : List Int := [0, 1, 28, 2, 29, 14, 24, 3, 30, 22, 20, 15, 25, 17, 4, 8, 31, 27, 13, 23, 21, 19, 16, 7, 26, 12, 18, 6, 11, 5, 10, 9]
theorem deB32_eq : (Rows.laid_math_bits_deBruijn32tab : DataW Unit) = Lib.tabData .u8 deB32 := by kernel_rfl
noncomputable def laidWorld (os : Os) : World :=
  let N := (World.settled Tryz.prog os).heap.size
  let w0 := World.holding Tryz.prog os ⟨#[.cells Lib.caseCells5 325], #[], []⟩
  let put (h : Array Obj) (g : Nat) (cs : Array Value) : Array Obj := h.modify g fun
    | .cells _ t frozen => .cells cs t frozen
    | o => o
  let h1 := put w0.heap 4 #[.iface 226 (.agg #[.pointer (some ⟨15, 84, none⟩)])]
  let h2 := put h1 9 #[.slice (some ⟨N, 0, none⟩) caseA.size caseA.size]
  let h3 := put h2 10 (Lib.pow10Tab.map fun z => Value.int .u64 z).toArray
  let h4 := put h3 11 (Lib.firstTab.map fun z => Value.int .u8 z).toArray
  let h5 := put h4 12 ((List.range 16).flatMap fun i => [Value.int .u8 (Lib.accLo i), Value.int .u8 (Lib.accHi i)]).toArray
  let h6 := put h5 13 (deB32.map fun z => Value.int .u8 z).toArray
  let h7 := put h6 14 (deB64.map fun z => Value.int .u8 z).toArray
  { w0 with heap := h7 }
noncomputable abbrev N0 : Nat := (World.settled Tryz.prog default).heap.size
noncomputable def wit (os : Os) (args : Array Value) : World := ((laidWorld os).forCall (fun _ _ => 0) ⟨#[], args, []⟩).memory
theorem pieceA (os : Os) (args : Array Value) : LaidIn Tryz.prog (wit os args) [("math/bits.deBruijn32tab", Rows.laid_math_bits_deBruijn32tab), ("math/bits.deBruijn64tab", Rows.laid_math_bits_deBruijn64tab), ("internal/strconv.uint64pow10", Rows.laid_internal_strconv_uint64pow10), ("unicode/utf8.acceptRanges", Rows.laid_unicode_utf8_acceptRanges)] [13, 14, 10, 12] :=
  LaidIn.of_run _ 8 (by kernel_rfl) (by kernel_rfl) (by kernel_rfl) (by kernel_rfl)
theorem pieceD (os : Os) (args : Array Value) : LaidIn Tryz.prog (wit os args) [("unicode/utf8.first", Rows.laid_unicode_utf8_first)] [11] :=
  LaidIn.of_run _ 8 (by kernel_rfl) (by kernel_rfl) (by kernel_rfl) (by kernel_rfl)

/-! ### unicode.CaseRanges, by proof -/
theorem cs_s : Tryz.prog.cellsOf 325 = 5 := by kernel_rfl
theorem cs_u : Tryz.prog.cellsOf 46 = 1 := by kernel_rfl
theorem cs_i : Tryz.prog.cellsOf 21 = 1 := by kernel_rfl
theorem cs_d : Tryz.prog.cellsOf 323 = 3 := by kernel_rfl
theorem ucase_row {H : Type} {enc : TypeId × Value → H} {w : World} {base : Nat} {sp : Nat → Bool} {held : Bool} (x : CaseRow) (hw : rowWf x = true) (fuel : Nat) :
    DataW.trod enc Tryz.prog w base sp held (fuel + 3) 325 (cells5 x) = some (rowData x, []) := by
  simp only [rowWf, Bool.and_eq_true] at hw
  obtain ⟨⟨⟨⟨w0, w1⟩, w2⟩, w3⟩, w4⟩ := hw
  have r3 : List.range 3 = [0, 1, 2] := rfl
  simp [DataW.trod, Tryz.underlying325, Tryz.underlying46, Tryz.underlying21, Tryz.underlying323, cs_s, cs_u, cs_i, cs_d, cells5, rowData, w0, w1, w2, w3, w4, r3]
theorem ucase_slice {w : World} {R : Nat} (hT : CaseTab R 0 caseA w) :
    DataW.trod (fun _ => ()) Tryz.prog w 0 (fun _ => true) false 4 280 [.slice (some ⟨R, 0, none⟩) caseA.size caseA.size] =
      some (caseData, MemPlace.row ⟨R, 0, none⟩ (caseA.size * 5)) := by
  have hn : caseA.size ≤ maxLen := by rw [caseA_size]; unfold maxLen; omega
  have helem : ∀ i ∈ List.range caseA.size, (w.cells? 0 ((⟨R, 0, none⟩ : Addr).add (i * 5)) 5).bind (DataW.trod (fun _ => ()) Tryz.prog w 0 (fun _ => true) false 3 325) = some ((fun i => ((rowData (caseA.getD i (0, 0, 0, 0, 0)) : DataW Unit), ([] : List MemPlace))) i) := by
    intro i hi
    have hi' := List.mem_range.1 hi
    rw [case_cells5 hT i hi']
    exact ucase_row _ (caseA_wf i hi') 0
  have h1 : DataW.trod (fun _ => ()) Tryz.prog w 0 (fun _ => true) false 4 280 [.slice (some ⟨R, 0, none⟩) caseA.size caseA.size] =
      some (.slice ((List.range caseA.size).map fun i => rowData (caseA.getD i (0, 0, 0, 0, 0))) [], MemPlace.row ⟨R, 0, none⟩ (caseA.size * 5)) := by
    show DataW.trod _ _ _ _ _ _ (3 + 1) _ _ = _
    unfold DataW.trod
    simp only [Tryz.underlying280, cs_s]
    rw [if_pos ⟨Nat.zero_le _, Nat.le_refl _, hn⟩, mapM_some _ _ _ helem]
    simp [Function.comp_def]
  rw [h1, case_rows_data]
  rfl

theorem pieceC (os : Os) (args : Array Value) : LaidIn Tryz.prog (wit os args) [("unicode.CaseRanges", caseData)] [9, N0] := by
  have hvar : (wit os args).heap[9]? = some (.cells #[.slice (some ⟨N0, 0, none⟩) caseA.size caseA.size] 280 (0, 0)) := by kernel_rfl
  have hblk : (wit os args).heap[N0]? = some (.cells caseCells5 325 (0, 0)) := by kernel_rfl
  have hgR : (9 : Nat) ≠ N0 := of_decide_eq_true (by kernel_rfl)
  generalize wit os args = w at hvar hblk
  generalize N0 = R at hvar hblk hgR
  have hT := caseTab_of_block hblk
  have hread := ucase_slice hT
  have hnamed : Tryz.prog.globalNamed "unicode.CaseRanges" = some 9 := by kernel_rfl
  have hv : w.var? Tryz.prog "unicode.CaseRanges" = some #[.slice (some ⟨R, 0, none⟩) caseA.size caseA.size] := by simp [World.var?, hnamed, hvar]
  refine LaidIn.one (fuel := 4) _ hnamed (by kernel_rfl : (Tryz.prog.globals[9]?).map (·.type) = some 280) hv hread ?_ ?_ ?_
  · refine List.nodup_append.2 ⟨row_nodup _ _, row_nodup _ _, ?_⟩
    intro a ha b hb e
    obtain ⟨i, _, rfl⟩ := MemPlace.mem_row.1 ha
    obtain ⟨j, _, rfl⟩ := MemPlace.mem_row.1 hb
    simp at e
    exact hgR e.1
  · intro b off hp
    rcases List.mem_append.1 hp with hp | hp
    · obtain ⟨i, hi, e⟩ := MemPlace.mem_row.1 hp
      cases e
      refine ⟨⟨_, _, hvar⟩, fun u v hc => ?_⟩
      obtain rfl : i = 0 := by simpa using hi
      rw [Lib.cell_of_heap hvar] at hc
      simp at hc
    · obtain ⟨i, hi, e⟩ := MemPlace.mem_row.1 hp
      cases e
      refine ⟨⟨_, _, hblk⟩, fun u v hc => ?_⟩
      obtain ⟨c0, c1, c2, c3, c4⟩ := hT (i / 5) (by omega)
      have hi5 : 0 + i = 0 + i / 5 * 5 + i % 5 := by omega
      simp only at hc
      rw [hi5] at hc
      have hm : i % 5 < 5 := Nat.mod_lt _ (by omega)
      match hk : i % 5, hm with
      | 0, _ => rw [hk, Nat.add_zero, c0] at hc; cases hc
      | 1, _ => rw [hk, c1] at hc; cases hc
      | 2, _ => rw [hk, c2] at hc; cases hc
      | 3, _ => rw [hk, c3] at hc; cases hc
      | 4, _ => rw [hk, c4] at hc; cases hc
  · intro x hx
    rcases List.mem_append.1 hx with hx | hx
    · obtain ⟨i, _, rfl⟩ := MemPlace.mem_row.1 hx; exact List.mem_cons_self
    · obtain ⟨i, _, rfl⟩ := MemPlace.mem_row.1 hx; exact List.mem_cons_of_mem _ List.mem_cons_self
theorem wit_laid (os : Os) (args : Array Value) : laidMetH Tryz.prog laidL (wit os args) := by
  refine laidMetH_of_parts ?_ ?_
  · rw [filt_none]
    have h := ((pieceA os args).append (pieceC os args) (by kernel_rfl)).append (pieceD os args) (by kernel_rfl)
    have h2 := h.met
    have e : caseData = Rows.laid_unicode_CaseRanges := Pinned.caseRanges_eq.symm
    rw [e] at h2
    exact h2
  · rw [filt_some]
    kernel_rfl
end Go.Proofs.YtmfejjlmflgnbaaGreatDoor.Tok

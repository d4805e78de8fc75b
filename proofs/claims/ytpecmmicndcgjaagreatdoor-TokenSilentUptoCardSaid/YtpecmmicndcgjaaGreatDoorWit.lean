/- THE WITNESS: a world that holds what the rows list. After the guide's worked texts (FlbProofs, LaidCaseMet), turned to this program. -/
import Derived.Test.YtpecmmicndcgjaaGreatDoorLaid
namespace Go.Proofs.YtpecmmicndcgjaaGreatDoor.Tok
open Go.ChangeShapes Go.WideShapes Go.ChangeAt Go.RowKit Go.Lib Go.Shelf
set_option linter.unusedVariables false
set_option linter.unusedSimpArgs false
set_option maxRecDepth 1000000

def deB32 : List Int := [0, 1, 28, 2, 29, 14, 24, 3, 30, 22, 20, 15, 25, 17, 4, 8, 31, 27, 13, 23, 21, 19, 16, 7, 26, 12, 18, 6, 11, 5, 10, 9]
theorem deB32_eq : (Rows.laid_math_bits_deBruijn32tab : DataW Unit) = Lib.tabData .u8 deB32 := by kernel_rfl
noncomputable def laidWorld (os : Os) : World :=
  let N := (World.settled Tryz.prog os).heap.size
  let w0 := World.holding Tryz.prog os ⟨#[.cells #[.string ⟨#[118, 97, 108, 117, 101, 32, 111, 117, 116, 32, 111, 102, 32, 114, 97, 110, 103, 101]⟩] 267, .cells #[.string ⟨#[105, 110, 118, 97, 108, 105, 100, 32, 115, 121, 110, 116, 97, 120]⟩] 267, .cells Lib.caseCells5 244], #[], []⟩
  let put (h : Array Obj) (g : Nat) (cs : Array Value) : Array Obj := h.modify g fun
    | .cells _ t frozen => .cells cs t frozen
    | o => o
  let h1 := put w0.heap 0 #[.iface 143 (.agg #[.pointer (some ⟨10, 52, none⟩)])]
  let h2 := put h1 1 #[.slice (some ⟨N + 2, 0, none⟩) caseA.size caseA.size]
  let h3 := put h2 2 (Lib.pow10Tab.map fun z => Value.int .u64 z).toArray
  let h4 := put h3 4 (Lib.firstTab.map fun z => Value.int .u8 z).toArray
  let h5 := put h4 5 ((List.range 16).flatMap fun i => [Value.int .u8 (Lib.accLo i), Value.int .u8 (Lib.accHi i)]).toArray
  let h6 := put h5 6 (deB32.map fun z => Value.int .u8 z).toArray
  let h7 := put h6 7 (deB64.map fun z => Value.int .u8 z).toArray
  let h8 := put h7 8 #[.iface 265 (.pointer (some ⟨N + 1, 0, none⟩))]
  let h9 := put h8 9 #[.iface 265 (.pointer (some ⟨N, 0, none⟩))]
  { w0 with heap := h9 }
noncomputable abbrev N0 : Nat := (World.settled Tryz.prog default).heap.size
noncomputable def wit (os : Os) (args : Array Value) : World := ((laidWorld os).forCall (fun _ _ => 0) ⟨#[], args, []⟩).memory
theorem pieceA (os : Os) (args : Array Value) : LaidIn Tryz.prog (wit os args) [("math/bits.deBruijn32tab", Rows.laid_math_bits_deBruijn32tab), ("math/bits.deBruijn64tab", Rows.laid_math_bits_deBruijn64tab), ("internal/strconv.uint64pow10", Rows.laid_internal_strconv_uint64pow10), ("unicode/utf8.acceptRanges", Rows.laid_unicode_utf8_acceptRanges)] [6, 7, 2, 5] :=
  LaidIn.of_run _ 8 (by kernel_rfl) (by kernel_rfl) (by kernel_rfl) (by kernel_rfl)
theorem pieceB (os : Os) (args : Array Value) : LaidIn Tryz.prog (wit os args) [("strconv.ErrRange", Rows.laid_strconv_ErrRange), ("strconv.ErrSyntax", Rows.laid_strconv_ErrSyntax)] [9, N0, 8, N0 + 1] :=
  LaidIn.of_run _ 8 (by kernel_rfl) (by kernel_rfl) (by kernel_rfl) (by kernel_rfl)
theorem pieceD (os : Os) (args : Array Value) : LaidIn Tryz.prog (wit os args) [("unicode/utf8.first", Rows.laid_unicode_utf8_first)] [4] :=
  LaidIn.of_run _ 8 (by kernel_rfl) (by kernel_rfl) (by kernel_rfl) (by kernel_rfl)

/-! ### unicode.CaseRanges, by proof -/
theorem cs_s : Tryz.prog.cellsOf 244 = 5 := by kernel_rfl
theorem cs_u : Tryz.prog.cellsOf 32 = 1 := by kernel_rfl
theorem cs_i : Tryz.prog.cellsOf 21 = 1 := by kernel_rfl
theorem cs_d : Tryz.prog.cellsOf 242 = 3 := by kernel_rfl
theorem ucase_row {H : Type} {enc : TypeId × Value → H} {w : World} {base : Nat} {sp : Nat → Bool} {held : Bool} (x : CaseRow) (hw : rowWf x = true) (fuel : Nat) :
    DataW.trod enc Tryz.prog w base sp held (fuel + 3) 244 (cells5 x) = some (rowData x, []) := by
  simp only [rowWf, Bool.and_eq_true] at hw
  obtain ⟨⟨⟨⟨w0, w1⟩, w2⟩, w3⟩, w4⟩ := hw
  have r3 : List.range 3 = [0, 1, 2] := rfl
  simp [DataW.trod, Tryz.underlying244, Tryz.underlying32, Tryz.underlying21, Tryz.underlying242, cs_s, cs_u, cs_i, cs_d, cells5, rowData, w0, w1, w2, w3, w4, r3]
theorem ucase_slice {w : World} {R : Nat} (hT : CaseTab R 0 caseA w) :
    DataW.trod (fun _ => ()) Tryz.prog w 0 (fun _ => true) false 4 181 [.slice (some ⟨R, 0, none⟩) caseA.size caseA.size] =
      some (caseData, MemPlace.row ⟨R, 0, none⟩ (caseA.size * 5)) := by
  have hn : caseA.size ≤ maxLen := by rw [caseA_size]; unfold maxLen; omega
  have helem : ∀ i ∈ List.range caseA.size, (w.cells? 0 ((⟨R, 0, none⟩ : Addr).add (i * 5)) 5).bind (DataW.trod (fun _ => ()) Tryz.prog w 0 (fun _ => true) false 3 244) = some ((fun i => ((rowData (caseA.getD i (0, 0, 0, 0, 0)) : DataW Unit), ([] : List MemPlace))) i) := by
    intro i hi
    have hi' := List.mem_range.1 hi
    rw [case_cells5 hT i hi']
    exact ucase_row _ (caseA_wf i hi') 0
  have h1 : DataW.trod (fun _ => ()) Tryz.prog w 0 (fun _ => true) false 4 181 [.slice (some ⟨R, 0, none⟩) caseA.size caseA.size] =
      some (.slice ((List.range caseA.size).map fun i => rowData (caseA.getD i (0, 0, 0, 0, 0))) [], MemPlace.row ⟨R, 0, none⟩ (caseA.size * 5)) := by
    show DataW.trod _ _ _ _ _ _ (3 + 1) _ _ = _
    unfold DataW.trod
    simp only [Tryz.underlying181, cs_s]
    rw [if_pos ⟨Nat.zero_le _, Nat.le_refl _, hn⟩, mapM_some _ _ _ helem]
    simp [Function.comp_def]
  rw [h1, case_rows_data]
  rfl

theorem pieceC (os : Os) (args : Array Value) : LaidIn Tryz.prog (wit os args) [("unicode.CaseRanges", caseData)] [1, N0 + 2] := by
  have hvar : (wit os args).heap[1]? = some (.cells #[.slice (some ⟨N0 + 2, 0, none⟩) caseA.size caseA.size] 181 (0, 0)) := by kernel_rfl
  have hblk : (wit os args).heap[N0 + 2]? = some (.cells caseCells5 244 (0, 0)) := by kernel_rfl
  have hgR : (1 : Nat) ≠ N0 + 2 := of_decide_eq_true (by kernel_rfl)
  generalize wit os args = w at hvar hblk
  generalize N0 + 2 = R at hvar hblk hgR
  have hT := caseTab_of_block hblk
  have hread := ucase_slice hT
  have hnamed : Tryz.prog.globalNamed "unicode.CaseRanges" = some 1 := by kernel_rfl
  have hv : w.var? Tryz.prog "unicode.CaseRanges" = some #[.slice (some ⟨R, 0, none⟩) caseA.size caseA.size] := by simp [World.var?, hnamed, hvar]
  refine LaidIn.one (fuel := 4) _ hnamed (by kernel_rfl : (Tryz.prog.globals[1]?).map (·.type) = some 181) hv hread ?_ ?_ ?_
  · refine List.nodup_append.2 ⟨row_nodup _ _, row_nodup _ _, ?_⟩
    intro a ha b hb e
    obtain ⟨i, _, rfl⟩ := MemPlace.mem_row.1 ha
    obtain ⟨j, _, rfl⟩ := MemPlace.mem_row.1 hb
    simp at e
    exact hgR e.1
  · intro b off hp
    rcases List.mem_append.1 hp with hp | hp
    · obtain ⟨i, hi, e⟩ := MemPlace.mem_row.1 hp
      cases e
      refine ⟨⟨_, _, hvar⟩, fun u v hc => ?_⟩
      obtain rfl : i = 0 := by simpa using hi
      rw [Lib.cell_of_heap hvar] at hc
      simp at hc
    · obtain ⟨i, hi, e⟩ := MemPlace.mem_row.1 hp
      cases e
      refine ⟨⟨_, _, hblk⟩, fun u v hc => ?_⟩
      obtain ⟨c0, c1, c2, c3, c4⟩ := hT (i / 5) (by omega)
      have hi5 : 0 + i = 0 + i / 5 * 5 + i % 5 := by omega
      simp only at hc
      rw [hi5] at hc
      have hm : i % 5 < 5 := Nat.mod_lt _ (by omega)
      match hk : i % 5, hm with
      | 0, _ => rw [hk, Nat.add_zero, c0] at hc; cases hc
      | 1, _ => rw [hk, c1] at hc; cases hc
      | 2, _ => rw [hk, c2] at hc; cases hc
      | 3, _ => rw [hk, c3] at hc; cases hc
      | 4, _ => rw [hk, c4] at hc; cases hc
  · intro x hx
    rcases List.mem_append.1 hx with hx | hx
    · obtain ⟨i, _, rfl⟩ := MemPlace.mem_row.1 hx; exact List.mem_cons_self
    · obtain ⟨i, _, rfl⟩ := MemPlace.mem_row.1 hx; exact List.mem_cons_of_mem _ List.mem_cons_self
theorem wit_laid (os : Os) (args : Array Value) : laidMetH Tryz.prog laidL (wit os args) := by
  refine laidMetH_of_parts ?_ ?_
  · rw [filt_none]
    have h := (((pieceA os args).append (pieceB os args) (by kernel_rfl)).append (pieceC os args) (by kernel_rfl)).append (pieceD os args) (by kernel_rfl)
    have h2 := h.met
    have e : caseData = Rows.laid_unicode_CaseRanges := Pinned.caseRanges_eq.symm
    rw [e] at h2
    exact h2
  · rw [filt_some]
    kernel_rfl
end Go.Proofs.YtpecmmicndcgjaaGreatDoor.Tok

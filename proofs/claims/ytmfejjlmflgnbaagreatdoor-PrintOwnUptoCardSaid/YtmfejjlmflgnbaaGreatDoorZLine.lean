/- CONTRACTS: a strings.Builder that lies first in a block of printer's lines: copyCheck, Len, WriteByte, WriteString, String; what else stands behind each. -/
import Derived.Test.YtmfejjlmflgnbaaGreatDoorZBase
import Derived.Test.YtmfejjlmflgnbaaGreatDoorZShelf
import Derived.Shelf.Strings.Builder1
import Derived.Lib.OthersKept
import Derived.Test.YtmfejjlmflgnbaaGreatDoorZTree
import Derived.Test.YtmfejjlmflgnbaaGreatDoorZPr1
import Derived.Test.YtmfejjlmflgnbaaGreatDoorZPrV
import Derived.Deep.RegionHeld3
namespace Go.Proofs.YtmfejjlmflgnbaaGreatDoor.Tok
open Go.RowKit Go.Shelf Go.Proofs.YtmfejjlmflgnbaaGreatDoor.PA Go.Proofs.YtmfejjlmflgnbaaGreatDoorW.PrintWords Go.Proofs.YtmfejjlmflgnbaaGreatDoorW.PrintLast Go.Proofs.YtmfejjlmflgnbaaGreatDoor.Sp
set_option linter.unusedVariables false
set_option linter.unusedSimpArgs false
set_option maxRecDepth 100000

theorem ln_lies : liesAt Tryz.prog Tryz.prog.depth 99 (2 / Tryz.prog.cellsOf 99) 0 97 1 = true := by kernel_rfl
theorem ln_sizeB : (Tryz.prog.info? 97).map (·.size) = some 2 := by kernel_rfl
theorem ln_infoByte : (Tryz.prog.info? 5).map (fun i => (i.zero, i.size, i.bytes)) = some (some (.int .u8 0), 1, 1) := by kernel_rfl
theorem ln_ne : 99 ≠ 5 := by decide
abbrev LnAt (B b : Nat) (p : Value) (bs : List Value) (w : World) : Prop := Lib.BuilderAt 99 5 B b p bs w
abbrev LnIs (B b : Nat) (bs : List Value) (w : World) : Prop := Lib.IsBuilder 99 5 B b bs w
abbrev LnKept (b : Nat) (w w' : World) : Prop := Lib.OthersKept 5 (some b) w w'
theorem ln_kind {w : World} {B : Nat} {e : TypeId} {v : Value} {n : Nat} {xs : List Value} (h : w.ownsRow B e 1 v n xs) : ∀ g, v.ownBlock = some g → ∃ c fz, w.heap[g]? = some (.cells c e fz) := by
  intro g hg
  rcases h.2 with ⟨rfl, _⟩ | ⟨g', cap, cur, rfl, _, hb, _⟩
  · simp [Value.ownBlock] at hg
  · simp only [Value.ownBlock, Option.some.injEq] at hg
    subst hg
    exact ⟨_, _, hb⟩
set_option maxHeartbeats 2000000 in
theorem ln_check_used (b : Nat) (w : World) (h0 : w.cell? ⟨b, 0, none⟩ = some (.pointer (some ⟨b, 0, none⟩))) :
    Calls Tryz.prog 122 #[.pointer (some ⟨b, 0, none⟩)] w fun e w' => e = .returned (.tuple #[]) ∧ w' = w := by
  obtain ⟨j, hj, _⟩ := Option.map_eq_some_iff.1 ln_sizeB
  go_enter Tryz.func122, Tryz.ntmps122
  go_wp2
  rw [Lib.run_neq_ptr_same w _ Tryz.underlying94 hj]
  go_wp2
  go_end0
  exact ⟨rfl, rfl⟩
set_option maxHeartbeats 2000000 in
theorem ln_check_fresh (b : Nat) (w : World) (h0 : w.cell? ⟨b, 0, none⟩ = some (.pointer none)) (hsh : w.shape? b = some (99, 2)) (hfz : w.frozen? ⟨b, 0, none⟩ = false) :
    Calls Tryz.prog 122 #[.pointer (some ⟨b, 0, none⟩)] w fun e w' => e = .returned (.tuple #[]) ∧ w' = w.setCell ⟨b, 0, none⟩ (.pointer (some ⟨b, 0, none⟩)) := by
  obtain ⟨j, hj, hjs⟩ := Option.map_eq_some_iff.1 ln_sizeB
  go_enter Tryz.func122, Tryz.ntmps122
  go_wp2
  rw [Lib.run_to_unsafe w ⟨b, 0, none⟩ Tryz.underlying94 Tryz.underlying186 hj (by rw [hjs]; decide) hsh (Nat.zero_lt_succ 1)]
  simp only [Result.andThen]
  rw [Oper.upon_value]
  go_wp2
  rw [run_callFunc_extern Tryz.func143 (by kernel_rfl) (by kernel_rfl) (by kernel_rfl) (e := Extern.AbiNoEscape.same) (by kernel_rfl)]
  rw [Lib.run_noEscape]
  simp only [Result.andThen]
  rw [Oper.upon_value]
  go_wp2
  rw [Lib.run_from_unsafe w ⟨b, 0, none⟩ Tryz.underlying186 Tryz.underlying94 hj hsh ln_lies]
  simp only [Result.andThen]
  rw [Oper.upon_value]
  go_wp2
  go_end0
  exact ⟨rfl, rfl⟩
theorem ln_check (B b : Nat) (bs : List Value) (w : World) (h : LnIs B b bs w) :
    Calls Tryz.prog 122 #[.pointer (some ⟨b, 0, none⟩)] w fun e w' => e = .returned (.tuple #[]) ∧ (LnAt B b (.pointer (some ⟨b, 0, none⟩)) bs w' ∧ Below B w w' ∧ LnKept b w w') := by
  rcases h with h | h
  · refine (ln_check_fresh b w h.cell0 h.shape h.frozen0).mono ?_
    rintro e w' ⟨rfl, rfl⟩
    exact ⟨rfl, h.used _, (Below.refl B w).setCell (p := ⟨b, 0, none⟩) h.1 _, (Lib.OthersKept.refl _ _ w).setCell ⟨b, 0, none⟩ rfl _⟩
  · refine (ln_check_used b w h.cell0).mono ?_
    rintro e w' ⟨rfl, rfl⟩
    exact ⟨rfl, h, Below.refl B _, Lib.OthersKept.refl _ _ _⟩
set_option maxHeartbeats 2000000 in
theorem ln_len (B b : Nat) (bs : List Value) (w : World) (h : LnIs B b bs w) :
    Calls Tryz.prog 49 #[.pointer (some ⟨b, 0, none⟩)] w fun e w' => e = .returned (.int .i64 bs.length) ∧ w' = w := by
  obtain ⟨p, hB, v, hbk, hown, hne⟩ : ∃ p, LnAt B b p bs w := by
    rcases h with h | h
    · exact ⟨_, h⟩
    · exact ⟨_, h⟩
  obtain ⟨ao, cap, rfl⟩ : ∃ ao cap, v = .slice ao bs.length cap := by
    rcases hown.2 with ⟨hv, h0⟩ | ⟨g, cap, cur, hv, _⟩
    · exact ⟨none, 0, by rw [hv, h0]⟩
    · exact ⟨_, _, hv⟩
  have c1 : w.cell? ⟨b, 1, none⟩ = some (.slice ao bs.length cap) := by rw [Lib.cell_of_heap hbk]; rfl
  go_enter Tryz.func49, Tryz.ntmps49
  go_wp2
  go_ret
  exact ⟨rfl, rfl⟩
set_option maxHeartbeats 4000000 in
theorem ln_byte (B b : Nat) (bs : List Value) (c : Int) (w : World) (h : LnIs B b bs w) (hlen : bs.length + 1 ≤ 140737488355328) (hBw : B ≤ w.heap.size) :
    Calls Tryz.prog 96 #[.pointer (some ⟨b, 0, none⟩), .int .u8 c] w fun e w' => e = .returned .nilIface ∧ (LnAt B b (.pointer (some ⟨b, 0, none⟩)) (bs ++ [.int .u8 c]) w' ∧ Below B w w' ∧ LnKept b w w') := by
  obtain ⟨i0, hi, hz0, hz1, hz2⟩ := info_parts ln_infoByte
  go_enter Tryz.func96, Tryz.ntmps96
  go_wp2_with (go_at_call 122; refine (ln_check B b bs _ h).mono ?_)
  rintro e w1 ⟨rfl, h1, hb1, hk1⟩
  obtain ⟨hB, v, hbk, hown, hne⟩ := h1
  have c0 : w1.cell? ⟨b, 0, none⟩ = some (.pointer (some ⟨b, 0, none⟩)) := by rw [Lib.cell_of_heap hbk]; rfl
  have c1 : w1.cell? ⟨b, 1, none⟩ = some v := by rw [Lib.cell_of_heap hbk]; rfl
  go_wp2_with (at_builtin; refine wpList_append_own _ rfl _ _ 95 rfl B 5 i0 (.int .u8 0) 1 1 Tryz.underlying95 hi hz0 hz1 hz2 rfl (by decide) _ _ _ rfl (hown.alloc _) ⟨w1.heap.size, 0, none⟩ 1 1 [.int .u8 c] rfl rfl ?c1 ?c2 ?c3 ?c4 ?c5 ?_)
  case c1 =>
    intro j u hj
    match j, hj with
    | 0, hj => simp at hj; subst hj; simp [Addr.add]
  case c2 => intro u hu; simp at hu; subst hu; rfl
  case c3 => unfold maxLen; omega
  case c4 => omega
  case c5 => have := hb1.size; simp; omega
  intro v' w2 hown' hgrow _
  have hlt : b < w1.heap.size := by
    rcases Nat.lt_or_ge b w1.heap.size with h' | h'
    · exact h'
    · simp [Array.getElem?_eq_none h'] at hbk
  have hb2 : w2.heap[b]? = some (.cells #[.pointer (some ⟨b, 0, none⟩), v] 99 (0, 0)) := by
    rw [hgrow.block b (by simp; omega) (fun e => hne e.symm), Lib.alloc_old w1 _ b hlt]
    exact hbk
  have d0 : w2.cell? ⟨b, 0, none⟩ = some (.pointer (some ⟨b, 0, none⟩)) := by rw [Lib.cell_of_heap hb2]; rfl
  have d1 : w2.cell? ⟨b, 1, none⟩ = some v := by rw [Lib.cell_of_heap hb2]; rfl
  have f1 : w2.frozen? ⟨b, 1, none⟩ = false := Lib.frozen_of_heap hb2 1
  obtain ⟨g, cap, rfl⟩ : ∃ g cap, v' = .slice (some ⟨g, 0, none⟩) (bs.length + 1) cap := by
    rcases hown'.2 with ⟨_, h0⟩ | ⟨g, cap, cur, hv, _⟩
    · omega
    · exact ⟨g, cap, hv⟩
  go_wp2
  go_ret
  refine ⟨rfl, ?_, ?_, ((hk1.alloc _).grown hgrow (ln_kind (hown.alloc _))).setCell ⟨b, 1, none⟩ rfl _⟩
  · exact Lib.BuilderAt.put (T := 99) (e := 5) hB hb2 (bs' := bs ++ [.int .u8 c]) (by simpa using hown') ln_ne
  · exact ((hb1.alloc (by have := hb1.size; omega) _).grown hgrow (by have := hb1.size; simp; omega) (fun k hk => (hown.lt k hk).1)).setCell (p := ⟨b, 1, none⟩) hB _
set_option maxHeartbeats 4000000 in
theorem ln_string (B b : Nat) (bs : List Value) (s : ByteArray) (w : World) (h : LnIs B b bs w) (hlen : bs.length + s.size ≤ 140737488355328) (hBw : B ≤ w.heap.size) :
    Calls Tryz.prog 93 #[.pointer (some ⟨b, 0, none⟩), .string s] w fun e w' => e = .returned (.tuple #[.int .i64 s.size, .nilIface]) ∧ (LnAt B b (.pointer (some ⟨b, 0, none⟩)) (bs ++ Lib.strCells s) w' ∧ Below B w w' ∧ LnKept b w w') := by
  obtain ⟨i0, hi, hz0, hz1, hz2⟩ := info_parts ln_infoByte
  go_enter Tryz.func93, Tryz.ntmps93
  go_wp2_with (go_at_call 122; refine (ln_check B b bs _ h).mono ?_)
  rintro e w1 ⟨rfl, h1, hb1, hk1⟩
  obtain ⟨hB, v, hbk, hown, hne⟩ := h1
  have c0 : w1.cell? ⟨b, 0, none⟩ = some (.pointer (some ⟨b, 0, none⟩)) := by rw [Lib.cell_of_heap hbk]; rfl
  have c1 : w1.cell? ⟨b, 1, none⟩ = some v := by rw [Lib.cell_of_heap hbk]; rfl
  go_wp2_with (at_builtin; refine Lib.wpList_append_own_string _ rfl _ _ 95 9 rfl B 5 i0 Tryz.underlying95 Tryz.underlying9 hi hz0 hz1 hz2 _ _ _ rfl hown s rfl ?c3 ?c4 ?c5 ?_)
  case c3 => unfold maxLen; omega
  case c4 => omega
  case c5 => have := hb1.size; omega
  intro v' w2 hown' hgrow _
  have hlt : b < w1.heap.size := by
    rcases Nat.lt_or_ge b w1.heap.size with h' | h'
    · exact h'
    · simp [Array.getElem?_eq_none h'] at hbk
  have hb2 : w2.heap[b]? = some (.cells #[.pointer (some ⟨b, 0, none⟩), v] 99 (0, 0)) := by
    rw [hgrow.block b hlt (fun e => hne e.symm)]
    exact hbk
  have d0 : w2.cell? ⟨b, 0, none⟩ = some (.pointer (some ⟨b, 0, none⟩)) := by rw [Lib.cell_of_heap hb2]; rfl
  have d1 : w2.cell? ⟨b, 1, none⟩ = some v := by rw [Lib.cell_of_heap hb2]; rfl
  have f1 : w2.frozen? ⟨b, 1, none⟩ = false := Lib.frozen_of_heap hb2 1
  obtain ⟨ao, n', cap, rfl⟩ : ∃ ao n' cap, v' = .slice ao n' cap := by
    rcases hown'.2 with ⟨hv, _⟩ | ⟨g, cap, cur, hv, _⟩
    · exact ⟨_, _, _, hv⟩
    · exact ⟨_, _, _, hv⟩
  go_wp2
  go_ret2
  refine ⟨rfl, ?_, ?_, (hk1.grown hgrow (ln_kind hown)).setCell ⟨b, 1, none⟩ rfl _⟩
  · exact Lib.BuilderAt.put (T := 99) (e := 5) hB hb2 (bs' := bs ++ Lib.strCells s) (by simpa [Lib.strCells_length] using hown') ln_ne
  · exact (hb1.grown hgrow (by have := hb1.size; omega) (fun k hk => (hown.lt k hk).1)).setCell (p := ⟨b, 1, none⟩) hB _
set_option maxHeartbeats 4000000 in
theorem ln_text (B b : Nat) (l : List UInt8) (w : World) (h : LnIs B b (Lib.byteCells l) w) (h0 : l ≠ []) :
    Calls Tryz.prog 50 #[.pointer (some ⟨b, 0, none⟩)] w fun e w' => e = .returned (.string ⟨l.toArray⟩) ∧ Below B w w' := by
  obtain ⟨p, hB, v, hbk, hown, hne⟩ : ∃ p, LnAt B b p (Lib.byteCells l) w := by
    rcases h with h | h
    · exact ⟨_, h⟩
    · exact ⟨_, h⟩
  have hl0 : l.length ≠ 0 := by simpa using h0
  rw [Lib.byteCells_length] at hown
  obtain ⟨g, cap, cur, rfl, hbg, hg, hnc, hcm, hcs, htake⟩ : ∃ g cap cur, v = .slice (some ⟨g, 0, none⟩) l.length cap ∧ B ≤ g ∧ w.heap[g]? = some (.cells cur 5 (0, 0)) ∧ l.length ≤ cap ∧ cap ≤ maxLen ∧ cur.size = cap * 1 ∧ cur.toList.take (l.length * 1) = Lib.byteCells l := by
    rcases hown.2 with ⟨_, hz⟩ | ⟨g, cap, cur, hv, r⟩
    · exact absurd hz hl0
    · exact ⟨g, cap, cur, hv, r⟩
  have c1 : w.drew.cell? ⟨b, 1, none⟩ = some (.slice (some ⟨g, 0, none⟩) l.length cap) := by
    have : w.drew.heap[b]? = some (.cells #[p, .slice (some ⟨g, 0, none⟩) l.length cap] 99 (0, 0)) := hbk
    rw [Lib.cell_of_heap this]; rfl
  have hSD : (Builtin.unsafeSliceData_ #[95] 172 #[.slice (some ⟨g, 0, none⟩) l.length cap]).run Tryz.prog w.drew = .ok (.pointer (some ⟨g, 0, none⟩)) w.drew :=
    Lib.run_unsafeSliceData_row _ _ _ _ _ _ (by omega)
  have hUS : (Builtin.unsafeString_ #[172, 3] 9 #[.pointer (some ⟨g, 0, none⟩), .int .i64 l.length]).run Tryz.prog w.drew = .ok (.string ⟨l.toArray⟩) (w.drew.freeze ⟨g, 0, none⟩ l.length) := by
    refine Lib.run_unsafeString_row w.drew 172 3 9 5 Tryz.underlying172 (by kernel_rfl) g cur.size (by have hg' : w.drew.heap[g]? = some (.cells cur 5 (0, 0)) := hg; simp [World.shape?, hg']) l h0 (by omega) (by unfold maxLen at hcm; omega) ?_
    intro j x hx
    have := hown.cells (g := g) rfl j (.int .u8 x.toNat) (by simp [Lib.byteCells, hx])
    exact this
  go_enter Tryz.func50, Tryz.ntmps50
  go_wp2
  go_region
  all_goals (go_wp2; go_ret; exact ⟨rfl, Lib.below_freeze (Below.drew (Below.refl B w)) (p := ⟨g, 0, none⟩) hbg _⟩)
end Go.Proofs.YtmfejjlmflgnbaaGreatDoor.Tok
/- CONTRACTS: package printer's line (a line of words written behind what the builder holds), spell, end. -/
namespace Go.Proofs.YtmfejjlmflgnbaaGreatDoor.Tok
open Go.RowKit Go.Proofs.YtmfejjlmflgnbaaGreatDoor.PA Go.Proofs.YtmfejjlmflgnbaaGreatDoorW.PrintWords Go.Proofs.YtmfejjlmflgnbaaGreatDoorW.PrintLast Go.Proofs.YtmfejjlmflgnbaaGreatDoor.Sp Go.Proofs.YtmfejjlmflgnbaaGreatDoor.Tr
set_option linter.unusedVariables false
set_option linter.unusedSimpArgs false
set_option maxRecDepth 100000

theorem LnAt.below {B b : Nat} {p : Value} {bs : List Value} {w w' : World} (h : LnAt B b p bs w) (hB : Below w.heap.size w w') : LnAt B b p bs w' := by
  obtain ⟨h1, v, h2, h3, h4⟩ := h
  exact ⟨h1, v, (hB.block _ (Array.getElem?_eq_some_iff.1 h2).1).trans h2, pw_own_below h3 hB, h4⟩
theorem LnIs.below {B b : Nat} {bs : List Value} {w w' : World} (h : LnIs B b bs w) (hB : Below w.heap.size w w') : LnIs B b bs w' := by
  rcases h with h | h
  · exact Or.inl (LnAt.below h hB)
  · exact Or.inr (LnAt.below h hB)
theorem kept_below {b : Nat} {w w' : World} (hB : Below w.heap.size w w') : LnKept b w w' := fun k o hk _ _ => (hB.block _ (Array.getElem?_eq_some_iff.1 hk).1).trans hk
/-- The builder, begun behind w0: what it holds; what has stayed as it was since w. -/
structure Ln (b : Nat) (acc : Bs) (w0 w w' : World) : Prop where
  is : LnIs w0.heap.size b (Lib.byteCells acc) w'
  bel : Below w0.heap.size w0 w'
  kept : LnKept b w w'
theorem Ln.step {b : Nat} {acc : Bs} {w0 w w1 w2 : World} (h : Ln b acc w0 w w1) (hB : Below w1.heap.size w1 w2) : Ln b acc w0 w w2 :=
  ⟨h.is.below hB, h.bel.trans (hB.mono h.bel.size), h.kept.trans (kept_below hB)⟩
theorem Ln.write {b : Nat} {acc : Bs} {w0 w w1 w2 : World} (h : Ln b acc w0 w w1) (l : Bs) (h2 : LnAt w0.heap.size b (.pointer (some ⟨b, 0, none⟩)) (Lib.byteCells acc ++ Lib.byteCells l) w2) (hb : Below w0.heap.size w1 w2) (hk : LnKept b w1 w2) : Ln b (acc ++ l) w0 w w2 :=
  ⟨Or.inr (by rw [Lib.byteCells_append]; exact h2), h.bel.trans hb, h.kept.trans hk⟩
theorem Ln.start {b : Nat} {acc : Bs} {w0 w w' : World} (h : Ln b acc w0 w w') : Ln b acc w0 w' w' := ⟨h.is, h.bel, Lib.OthersKept.refl _ _ _⟩
theorem Ln.block {b : Nat} {acc : Bs} {w0 w w' : World} (h : Ln b acc w0 w w') {k : Nat} {cs : Array Value} {t : TypeId} {fz : Nat × Nat} (hk : w.heap[k]? = some (.cells cs t fz)) (ht : t ≠ 5) (hb : k ≠ b) : w'.heap[k]? = some (.cells cs t fz) :=
  h.kept k _ hk (by simpa using hb) (fun c f e => by injection e with _ e _; exact ht e)
theorem Ln.hold {b : Nat} {acc : Bs} {w0 w w' : World} (h : Ln b acc w0 w w') : ∃ v, w'.heap[b]? = some (.cells v 99 (0, 0)) := by
  rcases h.is with ⟨_, v, h2, _⟩ | ⟨_, v, h2, _⟩
  · exact ⟨_, h2⟩
  · exact ⟨_, h2⟩
theorem Ln.ne {b : Nat} {acc : Bs} {w0 w w' : World} (h : Ln b acc w0 w w') {k : Nat} {cs : Array Value} {t : TypeId} {fz : Nat × Nat} (hk : w'.heap[k]? = some (.cells cs t fz)) (ht : t ≠ 99) : k ≠ b := by
  rintro rfl
  obtain ⟨v, hv⟩ := h.hold
  rw [hk] at hv
  injection hv with hv
  injection hv with _ e _
  exact ht e
/-- A row of words. -/
def wordsC (xs : List ByteArray) : Array Value := (xs.map Value.string).toArray
theorem words_cell {w w' : World} {g : Nat} {xs : List ByteArray} (h : w.heap[g]? = some (.cells (wordsC xs) 9 (0, 0))) (j : Nat) (x : ByteArray) (hx : xs[j]? = some x) : w.cell? ⟨g, 0 + j, none⟩ = some (.string x) := by
  rw [Lib.cell_of_heap h, Nat.zero_add]
  simp [wordsC, hx]
theorem map_bs (xs : List ByteArray) : xs.map (·.data.toList) = xs.map bs := rfl
theorem line_len (d : Nat) (ws : List Bs) : (lineT d ws).length = 2 * d + (Lib.join ws [32]).length + 1 := by
  unfold lineT
  rw [List.length_append, List.length_append, Lib.repeatL_length]
  (first | omega | (simp; done) | (simp; omega))
set_option maxHeartbeats 8000000 in
theorem line_calls (b d bk : Nat) (acc : Bs) (xs : List ByteArray) (w0 w : World) (h : Ln b acc w0 w w) (hx : w.heap[bk]? = some (.cells (wordsC xs) 9 (0, 0))) (hd : d ≤ 3000000) (hN : xs.length ≤ 100) (hlen : (acc ++ lineT d (xs.map bs)).length ≤ 140737488355328) :
    Calls Tryz.prog 45 #[.pointer (some ⟨b, 0, none⟩), .int .i64 (d : Int), .slice (some ⟨bk, 0, none⟩) xs.length xs.length] w fun e w' => e = .returned (.tuple #[]) ∧ Ln b (acc ++ lineT d (xs.map bs)) w0 w w' := by
  rw [List.length_append, line_len] at hlen
  have hbne : bk ≠ b := h.ne hx (by decide)
  have H0 := Lib.hid h
  have HX := Lib.hid hx
  have HL := Lib.hid hlen
  have hs0 := h.bel.size
  have HS0 := Lib.hid hs0
  have HD := Lib.hid hd
  have HNN := Lib.hid hN
  have HBN := Lib.hid hbne
  have HR : Hid (∀ W, Calls Tryz.prog 94 #[.string ⟨#[32, 32]⟩, .int .i64 (d : Int)] W fun e w' => e = .returned (.string ⟨(Lib.repeatL [32, 32] d).toArray⟩) ∧ Below W.heap.size W w') :=
    Lib.hid (fun W => Tryz.strings_Repeat ⟨#[32, 32]⟩ d W (by omega) (by
      have : (⟨#[32, 32]⟩ : ByteArray).size = 2 := rfl
      rw [this]
      omega))
  obtain ⟨P1, hP1⟩ : ∃ P1 : ByteArray, P1 = ⟨(Lib.repeatL [32, 32] d).toArray⟩ := ⟨_, rfl⟩
  rw [← hP1] at HR
  have HP1 : Hid (Lib.strCells P1 = Lib.byteCells (Lib.repeatL [32, 32] d)) := Lib.hid (by rw [hP1]; rfl)
  have hz1 : P1.size = 2 * d := by
    rw [hP1]
    show (Lib.repeatL [32, 32] d).toArray.size = _
    rw [List.size_toArray, Lib.repeatL_length]; (first | omega | (simp; done) | (simp; omega))
  obtain ⟨P2, hP2⟩ : ∃ P2 : ByteArray, P2 = ⟨(Lib.join (xs.map bs) [32]).toArray⟩ := ⟨_, rfl⟩
  have HP2 : Hid (Lib.strCells P2 = Lib.byteCells (Lib.join (xs.map bs) [32])) := Lib.hid (by rw [hP2]; rfl)
  have hz2 : P2.size = (Lib.join (xs.map bs) [32]).length := by
    rw [hP2]
    show (Lib.join (xs.map bs) [32]).toArray.size = _
    rw [List.size_toArray]
  have HJ : Hid (∀ W : World, W.heap[bk]? = some (.cells (wordsC xs) 9 (0, 0)) → Calls Tryz.prog 95 #[.slice (some ⟨bk, 0, none⟩) xs.length xs.length, .string ⟨#[32]⟩] W fun e w' => e = .returned (.string P2) ∧ Below W.heap.size W w') :=
    Lib.hid (fun W hW => by
      rw [hP2]
      exact Tryz.strings_Join bk 0 xs.length xs ⟨#[32]⟩ W (fun j x hj => words_cell (w' := W) hW j x hj) (Array.getElem?_eq_some_iff.1 hW).1 (by omega) (Nat.le_refl _) (by
        show (Lib.join (xs.map bs) [32]).length ≤ _
        omega))
  have HZ1 := Lib.hid hz1
  have HZ2 := Lib.hid hz2
  clear h hx hlen hs0 hd hN hbne hP1 hz1 hP2 hz2
  go_enter Tryz.func45, Tryz.ntmps45
  go_wp2_with fail
  go_region_held3 (fun W => True) (first | trivial) (first
    | (go_at_call 94; refine (HR.out _).mono ?_; rintro e w1 ⟨rfl, hB1⟩; have L1 : Hid (Ln b acc w0 w w1) := Lib.hid ((H0.out.step (Below.refl _ _).drew).step hB1); clear hB1)
    | (go_at_call 93; refine (ln_string w0.heap.size b _ P1 w1 L1.out.is (by have := HL.out; have := HZ1.out; rw [Lib.byteCells_length]; omega) L1.out.bel.size).mono ?_; rintro e w2 ⟨rfl, h2, hb2, hk2⟩; have L2 : Hid (Ln b (acc ++ Lib.repeatL [32, 32] d) w0 w w2) := Lib.hid (L1.out.write _ (by rw [← HP1.out]; exact h2) hb2 hk2); clear h2 hb2 hk2))
  go_wp2_with fail
  have X2 : Hid (w2.heap[bk]? = some (.cells (wordsC xs) 9 (0, 0))) := Lib.hid (L2.out.block HX.out (by decide) HBN.out)
  go_region_held3 (fun W => True) (first | trivial) (first
    | (go_at_call 95; refine (HJ.out _ (by exact X2.out)).mono ?_; rintro e w3 ⟨rfl, hB3⟩; have L3 : Hid (Ln b (acc ++ Lib.repeatL [32, 32] d) w0 w w3) := Lib.hid ((L2.out.step (Below.refl _ _).drew).step hB3); clear hB3)
    | (go_at_call 93; refine (ln_string w0.heap.size b _ P2 w3 L3.out.is (by have := HL.out; have := HZ2.out; rw [Lib.byteCells_length, List.length_append, Lib.repeatL_length]; (first | omega | (simp; done) | (simp; omega))) L3.out.bel.size).mono ?_; rintro e w4 ⟨rfl, h4, hb4, hk4⟩; have L4 : Hid (Ln b (acc ++ Lib.repeatL [32, 32] d ++ Lib.join (xs.map bs) [32]) w0 w w4) := Lib.hid (L3.out.write _ (by rw [← HP2.out]; exact h4) hb4 hk4); clear h4 hb4 hk4))
  go_wp2_with (first
    | (go_at_call 96; refine (ln_byte w0.heap.size b _ 10 w4 L4.out.is (by have := HL.out; rw [Lib.byteCells_length, List.length_append, List.length_append, Lib.repeatL_length]; (first | omega | (simp; done) | (simp; omega))) L4.out.bel.size).mono ?_; rintro e w5 ⟨rfl, h5, hb5, hk5⟩; have L5 : Hid (Ln b (acc ++ Lib.repeatL [32, 32] d ++ Lib.join (xs.map bs) [32] ++ [10]) w0 w w5) := Lib.hid (L4.out.write [10] h5 hb5 hk5); clear h5 hb5 hk5))
  go_end0
  refine ⟨rfl, ?_⟩
  have := L5.out
  unfold lineT
  simpa only [List.append_assoc] using this

/-! ### spell, end -/
theorem arr_eq (q : ByteArray) : (⟨q.data.toList.toArray⟩ : ByteArray) = q := by
  apply ByteArray.ext
  simp
theorem spell_ok (k o l c : Int) (t : ByteArray) (v : Nat) (h : Bool) (w : World) (hv : v < 4294967296) (hG : Glob w) (q : ByteArray) (hq : spellT k t.data.toList v h = some q.data.toList) :
    Calls Tryz.prog 97 #[tokV k o l c t v h] w fun e w' => e = .returned (.tuple #[.string q, .int .i64 0]) ∧ Below w.heap.size w w' :=
  (spell_calls k o l c t v h w hv hG).mono fun e w' ⟨hB, he⟩ => by
    refine ⟨?_, hB⟩
    rw [he, hq]
theorem pspell_calls (k o l c : Int) (t : ByteArray) (v : Nat) (h : Bool) (w : World) (hv : v < 4294967296) (hG : Glob w) (q : ByteArray) (hq : spellT k t.data.toList v h = some q.data.toList) :
    Calls Tryz.prog 46 #[tokV k o l c t v h] w fun e w' => e = .returned (.string q) ∧ Below w.heap.size w w' := by
  have HG := Lib.hid hG
  have HC := Lib.hid (fun W hW => spell_ok k o l c t v h W hv hW q hq)
  clear hG hv hq
  generalize (v : Int) = vi at *
  unfold tokV tokCells at *
  have B0 := Lib.hid (alloc_below w (.cells #[.int .i64 k, .int .i64 o, .int .i64 l, .int .i64 c, .string t, .int .u32 vi, .bool h] 104))
  go_enter Tryz.func46, Tryz.ntmps46
  go_wp2_with (first
    | (go_at_call 97; refine (HC.out _ (HG.out.below B0.out)).mono ?_; rintro e w2 ⟨rfl, hB2⟩; have B2 := Lib.hid (B0.out.trans (hB2.mono B0.out.size)); clear hB2))
  go_ret
  exact ⟨rfl, B2.out⟩
theorem cat3 {x z y q : ByteArray} (h : q.data.toList = x.data.toList ++ z.data.toList ++ y.data.toList) : x ++ z ++ y = q := by
  apply ByteArray.ext
  apply Array.toList_inj.1
  rw [h]
  simp
theorem pend_calls (noted : Bool) (t : ByteArray) (ht : t.size ≤ 1000000000) (w : World) (hG : Glob w) (hn : noteB noted t = true) (q : ByteArray) (hq : q.data.toList = endB noted t) :
    Calls Tryz.prog 47 #[.bool noted, .string t] w fun e w' => e = .returned (.string q) ∧ Below w.heap.size w w' := by
  have HG := Lib.hid hG
  cases noted with
  | true =>
    unfold noteB at hn
    rw [if_pos rfl] at hn
    obtain ⟨z, hz⟩ : ∃ z : ByteArray, z.data.toList = quoteT (bs t) := ⟨⟨(quoteT (bs t)).toArray⟩, by simp⟩
    have hzs : z.size ≤ 3000000000 := by
      have h1 := quote_len (bs t)
      have h2 := bs_len t
      have h3 := bs_len z
      unfold bs at h3
      rw [hz] at h3
      omega
    have HC := Lib.hid (fun W hW => pspell_calls 3 0 0 0 t 0 false W (by omega) hW z (by
      rw [hz]
      unfold spellT
      have : stringB t.data.toList = true := hn
      simp [this]
      try rfl))
    have HE : Hid ((⟨#[32, 58, 32]⟩ : ByteArray) ++ z ++ (⟨#[59]⟩ : ByteArray) = q) := Lib.hid (cat3 (by
      rw [hq, hz]
      unfold endB
      rw [if_pos rfl]))
    unfold tokV tokCells at HC
    have hx3 : (⟨#[32, 58, 32]⟩ : ByteArray).size = 3 := rfl
    have hx1 : (⟨#[59]⟩ : ByteArray).size = 1 := rfl
    clear hG hn hz hq ht
    go_enter Tryz.func47, Tryz.ntmps47
    go_wp2_with (first
      | (go_at_call 46; refine (HC.out _ HG.out).mono ?_; rintro e w2 ⟨rfl, hB2⟩; have B2 := Lib.hid hB2; clear hB2))
    go_ret
    exact ⟨by show Ending.returned (Value.string ((⟨#[32, 58, 32]⟩ : ByteArray) ++ z ++ (⟨#[59]⟩ : ByteArray))) = _; rw [HE.out], B2.out⟩
  | false =>
    have HE : Hid (q = ⟨#[59]⟩) := Lib.hid (by
      apply ByteArray.ext
      apply Array.toList_inj.1
      rw [hq]
      rfl)
    clear hG hn hq
    go_enter Tryz.func47, Tryz.ntmps47
    go_wp2_with fail
    go_ret
    exact ⟨by show Ending.returned (Value.string (⟨#[59]⟩ : ByteArray)) = _; rw [HE.out], Below.refl _ _⟩
end Go.Proofs.YtmfejjlmflgnbaaGreatDoor.Tok

/- CONTRACT: package printer's valued. -/
import Derived.Test.YtmfejjlmflgnbaaGreatDoorZPr1
namespace Go.Proofs.YtmfejjlmflgnbaaGreatDoor.Tok
open Go.RowKit Go.Proofs.YtmfejjlmflgnbaaGreatDoor.PA Go.Proofs.YtmfejjlmflgnbaaGreatDoorW.PrintWords Go.Proofs.YtmfejjlmflgnbaaGreatDoorW.PrintLast Go.Proofs.YtmfejjlmflgnbaaGreatDoor.Sp Go.Proofs.YtmfejjlmflgnbaaGreatDoor.Tr
set_option linter.unusedVariables false
set_option linter.unusedSimpArgs false
set_option maxRecDepth 100000

def ValuedPost (k : Int) (t : ByteArray) (n : Nat) (h : Bool) (r : Bool) (w : World) (e : Ending) (w' : World) : Prop :=
  Below w.heap.size w w' ∧ e = .returned (.tuple #[tokV k 0 0 0 t n h, .bool r])
theorem tok_cells {w : World} {g : Nat} {k o l c : Int} {t : ByteArray} {n : Int} {h : Bool} (e : w.heap[g]? = some (.cells (tokCells k o l c t n h) 104 (0, 0))) :
    w.cell? ⟨g, 0, none⟩ = some (.int .i64 k) ∧ w.cell? ⟨g, 1, none⟩ = some (.int .i64 o) ∧ w.cell? ⟨g, 2, none⟩ = some (.int .i64 l) ∧ w.cell? ⟨g, 3, none⟩ = some (.int .i64 c) ∧ w.cell? ⟨g, 4, none⟩ = some (.string t) ∧ w.cell? ⟨g, 5, none⟩ = some (.int .u32 n) ∧ w.cell? ⟨g, 6, none⟩ = some (.bool h) :=
  ⟨(cell_row e 0).trans rfl, (cell_row e 1).trans rfl, (cell_row e 2).trans rfl, (cell_row e 3).trans rfl, (cell_row e 4).trans rfl, (cell_row e 5).trans rfl, (cell_row e 6).trans rfl⟩
theorem valued_world {w W0 : World} {A B C : Array Value} {S T : TypeId} (h : W0 = ((w.alloc (.cells A S)).alloc (.cells B T)).alloc (.cells C T)) :
    Hid (Below w.heap.size w W0) ∧ Hid (W0.heap[w.heap.size + 1]? = some (.cells B T (0, 0))) ∧ Hid (W0.heap[w.heap.size + 1 + 1]? = some (.cells C T (0, 0))) := by
  subst h
  have b1 := alloc_below w (.cells A S)
  have z1 : (w.alloc (.cells A S)).heap.size = w.heap.size + 1 := by simp
  have g1 := heap_alloc_new (w.alloc (.cells A S)) (.cells B T)
  rw [z1] at g1
  generalize w.alloc (.cells A S) = w1 at *
  have b2 := alloc_below w1 (.cells B T)
  have z2 : (w1.alloc (.cells B T)).heap.size = w.heap.size + 1 + 1 := by simp [z1]
  have g2 := heap_alloc_new (w1.alloc (.cells B T)) (.cells C T)
  rw [z2] at g2
  generalize w1.alloc (.cells B T) = w2 at *
  have b3 := alloc_below w2 (.cells C T)
  exact ⟨Lib.hid (b1.trans ((b2.trans (b3.mono b2.size)).mono b1.size)), Lib.hid ((b3.block _ (Array.getElem?_eq_some_iff.1 g1).1).trans g1), Lib.hid g2⟩
theorem below_dN {B : Nat} {a w : World} (h : Below B a w) (n : Nat) : Below B a (w.drewN n) := ⟨h.os, h.tape, h.output, h.size, h.block⟩
theorem below_of_grown {w w2 : World} {B g : Nat} (h : w.grownBy w2 (some g)) (hB : B ≤ g) (hs : B ≤ w.heap.size) : Below B w w2 := ⟨h.os, h.tape, h.output, h.size, fun k hk => h.block k (by omega) (fun e => by injection e with e; omega)⟩
theorem put7 {w4 : World} {g : Nat} (h : w4.heap[g]? = some (.cells tok0 104 (0, 0))) (k o l c : Int) (t : ByteArray) (v : Int) (b : Bool) {w5 : World}
    (hw : w5 = (((((((w4.setCell ⟨g, 0, none⟩ (.int .i64 k)).setCell ⟨g, 1, none⟩ (.int .i64 o)).setCell ⟨g, 2, none⟩ (.int .i64 l)).setCell ⟨g, 3, none⟩ (.int .i64 c)).setCell ⟨g, 4, none⟩ (.string t)).setCell ⟨g, 5, none⟩ (.int .u32 v)).setCell ⟨g, 6, none⟩ (.bool b))) :
    w5.heap[g]? = some (.cells (tokCells k o l c t v b) 104 (0, 0)) ∧ w4.grownBy w5 (some g) := by
  subst hw
  have g0 := setCell_grown w4 g 0 (.int .i64 k)
  have h0 : (w4.setCell ⟨g, 0, none⟩ (.int .i64 k)).heap[g]? = some (.cells #[.int .i64 k, .int .i64 0, .int .i64 0, .int .i64 0, .string ⟨#[]⟩, .int .u32 0, .bool false] 104 (0, 0)) := setCell_row h _
  generalize w4.setCell ⟨g, 0, none⟩ (.int .i64 k) = x0 at g0 h0 ⊢
  have g1 := setCell_grown x0 g 1 (.int .i64 o)
  have h1 : (x0.setCell ⟨g, 1, none⟩ (.int .i64 o)).heap[g]? = some (.cells #[.int .i64 k, .int .i64 o, .int .i64 0, .int .i64 0, .string ⟨#[]⟩, .int .u32 0, .bool false] 104 (0, 0)) := setCell_row h0 _
  generalize x0.setCell ⟨g, 1, none⟩ (.int .i64 o) = x1 at g1 h1 ⊢
  have g2 := setCell_grown x1 g 2 (.int .i64 l)
  have h2 : (x1.setCell ⟨g, 2, none⟩ (.int .i64 l)).heap[g]? = some (.cells #[.int .i64 k, .int .i64 o, .int .i64 l, .int .i64 0, .string ⟨#[]⟩, .int .u32 0, .bool false] 104 (0, 0)) := setCell_row h1 _
  generalize x1.setCell ⟨g, 2, none⟩ (.int .i64 l) = x2 at g2 h2 ⊢
  have g3 := setCell_grown x2 g 3 (.int .i64 c)
  have h3 : (x2.setCell ⟨g, 3, none⟩ (.int .i64 c)).heap[g]? = some (.cells #[.int .i64 k, .int .i64 o, .int .i64 l, .int .i64 c, .string ⟨#[]⟩, .int .u32 0, .bool false] 104 (0, 0)) := setCell_row h2 _
  generalize x2.setCell ⟨g, 3, none⟩ (.int .i64 c) = x3 at g3 h3 ⊢
  have g4 := setCell_grown x3 g 4 (.string t)
  have h4 : (x3.setCell ⟨g, 4, none⟩ (.string t)).heap[g]? = some (.cells #[.int .i64 k, .int .i64 o, .int .i64 l, .int .i64 c, .string t, .int .u32 0, .bool false] 104 (0, 0)) := setCell_row h3 _
  generalize x3.setCell ⟨g, 4, none⟩ (.string t) = x4 at g4 h4 ⊢
  have g5 := setCell_grown x4 g 5 (.int .u32 v)
  have h5 : (x4.setCell ⟨g, 5, none⟩ (.int .u32 v)).heap[g]? = some (.cells #[.int .i64 k, .int .i64 o, .int .i64 l, .int .i64 c, .string t, .int .u32 v, .bool false] 104 (0, 0)) := setCell_row h4 _
  generalize x4.setCell ⟨g, 5, none⟩ (.int .u32 v) = x5 at g5 h5 ⊢
  have g6 := setCell_grown x5 g 6 (.bool b)
  have h6 : (x5.setCell ⟨g, 6, none⟩ (.bool b)).heap[g]? = some (.cells #[.int .i64 k, .int .i64 o, .int .i64 l, .int .i64 c, .string t, .int .u32 v, .bool b] 104 (0, 0)) := setCell_row h5 _
  generalize x5.setCell ⟨g, 6, none⟩ (.bool b) = x6 at g6 h6 ⊢
  refine ⟨h6, ?_⟩
  exact ((((((g0.trans g1).trans g2).trans g3).trans g4).trans g5).trans g6)
set_option maxHeartbeats 4000000 in
theorem valued_1 (t : ByteArray) (n : Nat) (h : Bool) (w : World) (hn : n < 4294967296) (hG : Glob w) (r : Bool) (hr : (spellT 1 t.data.toList n h).isSome = r) :
    Calls Tryz.prog 87 #[.agg #[.int .i64 1, .string t, .int .u32 (n : Int), .bool h]] w (ValuedPost 1 t n h r w) := by
  have HG := Lib.hid hG
  have HC := Lib.hid (fun W hW => pis_calls 1 0 0 0 t n h W hn hW r hr)
  have HE : Hid (∀ ni : Int, ni = (n : Int) → ∀ e w', Below w.heap.size w w' → e = Ending.returned (.tuple #[.agg (tokCells 1 0 0 0 t ni h), .bool r]) → ValuedPost 1 t n h r w e w') := Lib.hid (fun ni hni e w' hB he => ⟨hB, by rw [he, hni]; rfl⟩)
  obtain ⟨ni, hni⟩ : ∃ ni : Int, ni = (n : Int) := ⟨_, rfl⟩
  have HNI := Lib.hid hni
  rw [← hni] at HC ⊢
  clear hG hr hni
  unfold tokV tokCells at HC
  go_enter Tryz.func87, Tryz.ntmps87
  go_wp2_with fail
  obtain ⟨W0, hW0⟩ : ∃ W0 : World, W0 = (((w.alloc (.cells #[.int .i64 1, .string t, .int .u32 ni, .bool h] 48)).alloc (.cells #[.int .i64 0, .int .i64 0, .int .i64 0, .int .i64 0, .string ⟨#[]⟩, .int .u32 0, .bool false] 104)).alloc (.cells #[.int .i64 1, .int .i64 0, .int .i64 0, .int .i64 0, .string t, .int .u32 ni, .bool h] 104)) := ⟨_, rfl⟩
  rw [← hW0]
  obtain ⟨B0, G1, G2⟩ := valued_world hW0
  clear hW0
  obtain ⟨x0, x1, x2, x3, x4, x5, x6⟩ := tok_cells G2.out
  obtain ⟨z0, z1, z2, z3, z4, z5, z6⟩ := tok_cells (k := 0) (o := 0) (l := 0) (c := 0) (t := ⟨#[]⟩) (n := 0) (h := false) G1.out
  have f1 : ∀ k, W0.frozen? ⟨w.heap.size + 1, k, none⟩ = false := fun k => frozen_row G1.out k
  go_region_with (first
    | (go_at_call 119; refine (HC.out _ (HG.out.below B0.out.drew)).mono ?_; rintro e w2 ⟨rfl, hB2⟩; have g2 : w2.heap[w.heap.size + 1 + 1]? = some (.cells (tokCells 1 0 0 0 t ni h) 104 (0, 0)) := (hB2.block _ (Array.getElem?_eq_some_iff.1 G2.out).1).trans G2.out; have H1 : Hid (w2.heap[w.heap.size + 1]? = some (.cells tok0 104 (0, 0))) := Lib.hid ((hB2.block _ (Array.getElem?_eq_some_iff.1 G1.out).1).trans G1.out); obtain ⟨y0, y1, y2, y3, y4, y5, y6⟩ := tok_cells g2; clear z0 z1 z2 z3 z4 z5 z6 f1 x0 x1 x2 x3 x4 x5 x6; obtain ⟨z0, z1, z2, z3, z4, z5, z6⟩ := tok_cells (k := 0) (o := 0) (l := 0) (c := 0) (t := ⟨#[]⟩) (n := 0) (h := false) H1.out; have f0 : ∀ k, w2.frozen? ⟨w.heap.size + 1, k, none⟩ = false := fun k => frozen_row H1.out k; have B2 : Hid (Below w.heap.size w w2) := Lib.hid (B0.out.drew.trans (hB2.mono B0.out.drew.size)); clear g2 hB2))
  all_goals
    clear y0 y1 y2 y3 y4 y5 y6 z0 z1 z2 z3 z4 z5 z6 f0
    obtain ⟨w5, hw5⟩ : ∃ w5 : World, w5 = (((((((w2.setCell ⟨w.heap.size + 1, 0, none⟩ (.int .i64 1)).setCell ⟨w.heap.size + 1, 1, none⟩ (.int .i64 0)).setCell ⟨w.heap.size + 1, 2, none⟩ (.int .i64 0)).setCell ⟨w.heap.size + 1, 3, none⟩ (.int .i64 0)).setCell ⟨w.heap.size + 1, 4, none⟩ (.string t)).setCell ⟨w.heap.size + 1, 5, none⟩ (.int .u32 ni)).setCell ⟨w.heap.size + 1, 6, none⟩ (.bool h)) := ⟨_, rfl⟩
    rw [← hw5]
    obtain ⟨hblk5, hg5⟩ := put7 H1.out 1 0 0 0 t ni h hw5
    clear hw5
    go_wp2_with fail
    refine bodyPost_ret (results_list (rs := [.cell 2 104, .tmp 3]) rfl (by simp) (.cell (w.heap.size + 1) 104 (tokCells 1 0 0 0 t ni h) (0, 0) _ rfl hblk5 Tryz.underlying104 rfl (by kernel_rfl) (.tmp .nil))) rfl ?_
    exact HE.out ni HNI.out _ _ (B2.out.trans (below_of_grown hg5 (by omega) B2.out.size)) rfl
set_option maxHeartbeats 4000000 in
theorem valued_2 (t : ByteArray) (n : Nat) (h : Bool) (w : World) (hn : n < 4294967296) (hG : Glob w) (r : Bool) (hr : (spellT 2 t.data.toList n h).isSome = r) :
    Calls Tryz.prog 87 #[.agg #[.int .i64 2, .string t, .int .u32 (n : Int), .bool h]] w (ValuedPost 2 t n h r w) := by
  have HG := Lib.hid hG
  have HC := Lib.hid (fun W hW => pis_calls 2 0 0 0 t n h W hn hW r hr)
  have HE : Hid (∀ ni : Int, ni = (n : Int) → ∀ e w', Below w.heap.size w w' → e = Ending.returned (.tuple #[.agg (tokCells 2 0 0 0 t ni h), .bool r]) → ValuedPost 2 t n h r w e w') := Lib.hid (fun ni hni e w' hB he => ⟨hB, by rw [he, hni]; rfl⟩)
  obtain ⟨ni, hni⟩ : ∃ ni : Int, ni = (n : Int) := ⟨_, rfl⟩
  have HNI := Lib.hid hni
  rw [← hni] at HC ⊢
  clear hG hr hni
  unfold tokV tokCells at HC
  go_enter Tryz.func87, Tryz.ntmps87
  go_wp2_with fail
  obtain ⟨W0, hW0⟩ : ∃ W0 : World, W0 = (((w.alloc (.cells #[.int .i64 2, .string t, .int .u32 ni, .bool h] 48)).alloc (.cells #[.int .i64 0, .int .i64 0, .int .i64 0, .int .i64 0, .string ⟨#[]⟩, .int .u32 0, .bool false] 104)).alloc (.cells #[.int .i64 2, .int .i64 0, .int .i64 0, .int .i64 0, .string t, .int .u32 ni, .bool h] 104)) := ⟨_, rfl⟩
  rw [← hW0]
  obtain ⟨B0, G1, G2⟩ := valued_world hW0
  clear hW0
  obtain ⟨x0, x1, x2, x3, x4, x5, x6⟩ := tok_cells G2.out
  obtain ⟨z0, z1, z2, z3, z4, z5, z6⟩ := tok_cells (k := 0) (o := 0) (l := 0) (c := 0) (t := ⟨#[]⟩) (n := 0) (h := false) G1.out
  have f1 : ∀ k, W0.frozen? ⟨w.heap.size + 1, k, none⟩ = false := fun k => frozen_row G1.out k
  go_region_with (first
    | (go_at_call 119; refine (HC.out _ (HG.out.below B0.out.drew)).mono ?_; rintro e w2 ⟨rfl, hB2⟩; have g2 : w2.heap[w.heap.size + 1 + 1]? = some (.cells (tokCells 2 0 0 0 t ni h) 104 (0, 0)) := (hB2.block _ (Array.getElem?_eq_some_iff.1 G2.out).1).trans G2.out; have H1 : Hid (w2.heap[w.heap.size + 1]? = some (.cells tok0 104 (0, 0))) := Lib.hid ((hB2.block _ (Array.getElem?_eq_some_iff.1 G1.out).1).trans G1.out); obtain ⟨y0, y1, y2, y3, y4, y5, y6⟩ := tok_cells g2; clear z0 z1 z2 z3 z4 z5 z6 f1 x0 x1 x2 x3 x4 x5 x6; obtain ⟨z0, z1, z2, z3, z4, z5, z6⟩ := tok_cells (k := 0) (o := 0) (l := 0) (c := 0) (t := ⟨#[]⟩) (n := 0) (h := false) H1.out; have f0 : ∀ k, w2.frozen? ⟨w.heap.size + 1, k, none⟩ = false := fun k => frozen_row H1.out k; have B2 : Hid (Below w.heap.size w w2) := Lib.hid (B0.out.drew.trans (hB2.mono B0.out.drew.size)); clear g2 hB2))
  all_goals
    clear y0 y1 y2 y3 y4 y5 y6 z0 z1 z2 z3 z4 z5 z6 f0
    obtain ⟨w5, hw5⟩ : ∃ w5 : World, w5 = (((((((w2.setCell ⟨w.heap.size + 1, 0, none⟩ (.int .i64 2)).setCell ⟨w.heap.size + 1, 1, none⟩ (.int .i64 0)).setCell ⟨w.heap.size + 1, 2, none⟩ (.int .i64 0)).setCell ⟨w.heap.size + 1, 3, none⟩ (.int .i64 0)).setCell ⟨w.heap.size + 1, 4, none⟩ (.string t)).setCell ⟨w.heap.size + 1, 5, none⟩ (.int .u32 ni)).setCell ⟨w.heap.size + 1, 6, none⟩ (.bool h)) := ⟨_, rfl⟩
    rw [← hw5]
    obtain ⟨hblk5, hg5⟩ := put7 H1.out 2 0 0 0 t ni h hw5
    clear hw5
    go_wp2_with fail
    refine bodyPost_ret (results_list (rs := [.cell 2 104, .tmp 3]) rfl (by simp) (.cell (w.heap.size + 1) 104 (tokCells 2 0 0 0 t ni h) (0, 0) _ rfl hblk5 Tryz.underlying104 rfl (by kernel_rfl) (.tmp .nil))) rfl ?_
    exact HE.out ni HNI.out _ _ (B2.out.trans (below_of_grown hg5 (by omega) B2.out.size)) rfl
set_option maxHeartbeats 4000000 in
theorem valued_3 (t : ByteArray) (n : Nat) (h : Bool) (w : World) (hn : n < 4294967296) (hG : Glob w) (r : Bool) (hr : (spellT 3 t.data.toList n h).isSome = r) :
    Calls Tryz.prog 87 #[.agg #[.int .i64 3, .string t, .int .u32 (n : Int), .bool h]] w (ValuedPost 3 t n h r w) := by
  have HG := Lib.hid hG
  have HC := Lib.hid (fun W hW => pis_calls 3 0 0 0 t n h W hn hW r hr)
  have HE : Hid (∀ ni : Int, ni = (n : Int) → ∀ e w', Below w.heap.size w w' → e = Ending.returned (.tuple #[.agg (tokCells 3 0 0 0 t ni h), .bool r]) → ValuedPost 3 t n h r w e w') := Lib.hid (fun ni hni e w' hB he => ⟨hB, by rw [he, hni]; rfl⟩)
  obtain ⟨ni, hni⟩ : ∃ ni : Int, ni = (n : Int) := ⟨_, rfl⟩
  have HNI := Lib.hid hni
  rw [← hni] at HC ⊢
  clear hG hr hni
  unfold tokV tokCells at HC
  go_enter Tryz.func87, Tryz.ntmps87
  go_wp2_with fail
  obtain ⟨W0, hW0⟩ : ∃ W0 : World, W0 = (((w.alloc (.cells #[.int .i64 3, .string t, .int .u32 ni, .bool h] 48)).alloc (.cells #[.int .i64 0, .int .i64 0, .int .i64 0, .int .i64 0, .string ⟨#[]⟩, .int .u32 0, .bool false] 104)).alloc (.cells #[.int .i64 3, .int .i64 0, .int .i64 0, .int .i64 0, .string t, .int .u32 ni, .bool h] 104)) := ⟨_, rfl⟩
  rw [← hW0]
  obtain ⟨B0, G1, G2⟩ := valued_world hW0
  clear hW0
  obtain ⟨x0, x1, x2, x3, x4, x5, x6⟩ := tok_cells G2.out
  obtain ⟨z0, z1, z2, z3, z4, z5, z6⟩ := tok_cells (k := 0) (o := 0) (l := 0) (c := 0) (t := ⟨#[]⟩) (n := 0) (h := false) G1.out
  have f1 : ∀ k, W0.frozen? ⟨w.heap.size + 1, k, none⟩ = false := fun k => frozen_row G1.out k
  go_region_with (first
    | (go_at_call 119; refine (HC.out _ (HG.out.below B0.out.drew)).mono ?_; rintro e w2 ⟨rfl, hB2⟩; have g2 : w2.heap[w.heap.size + 1 + 1]? = some (.cells (tokCells 3 0 0 0 t ni h) 104 (0, 0)) := (hB2.block _ (Array.getElem?_eq_some_iff.1 G2.out).1).trans G2.out; have H1 : Hid (w2.heap[w.heap.size + 1]? = some (.cells tok0 104 (0, 0))) := Lib.hid ((hB2.block _ (Array.getElem?_eq_some_iff.1 G1.out).1).trans G1.out); obtain ⟨y0, y1, y2, y3, y4, y5, y6⟩ := tok_cells g2; clear z0 z1 z2 z3 z4 z5 z6 f1 x0 x1 x2 x3 x4 x5 x6; obtain ⟨z0, z1, z2, z3, z4, z5, z6⟩ := tok_cells (k := 0) (o := 0) (l := 0) (c := 0) (t := ⟨#[]⟩) (n := 0) (h := false) H1.out; have f0 : ∀ k, w2.frozen? ⟨w.heap.size + 1, k, none⟩ = false := fun k => frozen_row H1.out k; have B2 : Hid (Below w.heap.size w w2) := Lib.hid (B0.out.drew.trans (hB2.mono B0.out.drew.size)); clear g2 hB2))
  all_goals
    clear y0 y1 y2 y3 y4 y5 y6 z0 z1 z2 z3 z4 z5 z6 f0
    obtain ⟨w5, hw5⟩ : ∃ w5 : World, w5 = (((((((w2.setCell ⟨w.heap.size + 1, 0, none⟩ (.int .i64 3)).setCell ⟨w.heap.size + 1, 1, none⟩ (.int .i64 0)).setCell ⟨w.heap.size + 1, 2, none⟩ (.int .i64 0)).setCell ⟨w.heap.size + 1, 3, none⟩ (.int .i64 0)).setCell ⟨w.heap.size + 1, 4, none⟩ (.string t)).setCell ⟨w.heap.size + 1, 5, none⟩ (.int .u32 ni)).setCell ⟨w.heap.size + 1, 6, none⟩ (.bool h)) := ⟨_, rfl⟩
    rw [← hw5]
    obtain ⟨hblk5, hg5⟩ := put7 H1.out 3 0 0 0 t ni h hw5
    clear hw5
    go_wp2_with fail
    refine bodyPost_ret (results_list (rs := [.cell 2 104, .tmp 3]) rfl (by simp) (.cell (w.heap.size + 1) 104 (tokCells 3 0 0 0 t ni h) (0, 0) _ rfl hblk5 Tryz.underlying104 rfl (by kernel_rfl) (.tmp .nil))) rfl ?_
    exact HE.out ni HNI.out _ _ (B2.out.trans (below_of_grown hg5 (by omega) B2.out.size)) rfl
set_option maxHeartbeats 4000000 in
theorem valued_0 (k : Int) (h1 : k ≠ 1) (h2 : k ≠ 2) (h3 : k ≠ 3) (t : ByteArray) (n : Nat) (h : Bool) (w : World) :
    Calls Tryz.prog 87 #[.agg #[.int .i64 k, .string t, .int .u32 (n : Int), .bool h]] w (ValuedPost 0 t n h false w) := by
  have HE : Hid (∀ ni : Int, ni = (n : Int) → ∀ e w', Below w.heap.size w w' → e = Ending.returned (.tuple #[.agg (tokCells 0 0 0 0 t ni h), .bool false]) → ValuedPost 0 t n h false w e w') := Lib.hid (fun ni hni e w' hB he => ⟨hB, by rw [he, hni]; rfl⟩)
  obtain ⟨ni, hni⟩ : ∃ ni : Int, ni = (n : Int) := ⟨_, rfl⟩
  have HNI := Lib.hid hni
  rw [← hni]
  clear hni
  have d1 : (k == 1) = false := by rw [beq_eq_false_iff_ne]; exact h1
  have d2 : (k == 2) = false := by rw [beq_eq_false_iff_ne]; exact h2
  have d3 : (k == 3) = false := by rw [beq_eq_false_iff_ne]; exact h3
  clear h1 h2 h3
  go_enter Tryz.func87, Tryz.ntmps87
  go_wp2_with fail
  obtain ⟨W0, hW0⟩ : ∃ W0 : World, W0 = (((w.alloc (.cells #[.int .i64 k, .string t, .int .u32 ni, .bool h] 48)).alloc (.cells #[.int .i64 0, .int .i64 0, .int .i64 0, .int .i64 0, .string t, .int .u32 ni, .bool h] 104)).alloc (.cells #[.int .i64 0, .int .i64 0, .int .i64 0, .int .i64 0, .string t, .int .u32 ni, .bool h] 104)) := ⟨_, rfl⟩
  rw [← hW0]
  obtain ⟨B0, G1, G2⟩ := valued_world hW0
  clear hW0
  refine bodyPost_ret (results_list (rs := [.cell 2 104, .tmp 3]) rfl (by simp) (.cell (w.heap.size + 1) 104 (tokCells 0 0 0 0 t ni h) (0, 0) _ rfl G1.out Tryz.underlying104 rfl (by kernel_rfl) (.tmp .nil))) rfl ?_
  exact HE.out ni HNI.out _ _ B0.out rfl
def kindT (k : Int) : Int := if k = 1 ∨ k = 2 ∨ k = 3 then k else 0
theorem valued_calls (k : Int) (t : ByteArray) (n : Nat) (h : Bool) (w : World) (hn : n < 4294967296) (hG : Glob w) (r : Bool) (hr : valB ⟨k, t, (n : Int), h⟩ = r) :
    Calls Tryz.prog 87 #[.agg #[.int .i64 k, .string t, .int .u32 (n : Int), .bool h]] w (ValuedPost (kindT k) t n h r w) := by
  unfold valB at hr
  simp only at hr
  by_cases h1 : k = 1
  · subst h1
    refine valued_1 t n h w hn hG r ?_
    rw [if_pos rfl] at hr
    rw [← hr]
    unfold spellT bs
    cases hb : nameB t.data.toList <;> cases h <;> by_cases hz : n = 0 <;> simp [hz, hb]
  · by_cases h2 : k = 2
    · subst h2
      refine valued_2 t n h w hn hG r ?_
      rw [if_neg (by decide), if_pos rfl] at hr
      rw [← hr]
      unfold spellT bs
      cases ht : t.data.toList <;> cases h <;> simp
    · by_cases h3 : k = 3
      · subst h3
        refine valued_3 t n h w hn hG r ?_
        rw [if_neg (by decide), if_neg (by decide), if_pos rfl] at hr
        rw [← hr]
        unfold spellT bs
        cases hb : stringB t.data.toList <;> cases h <;> by_cases hz : n = 0 <;> simp [hz, hb]
      · rw [if_neg h1, if_neg h2, if_neg h3] at hr
        subst hr
        have e : kindT k = 0 := by unfold kindT; rw [if_neg (by omega)]
        rw [e]
        exact valued_0 k h1 h2 h3 t n h w
end Go.Proofs.YtmfejjlmflgnbaaGreatDoor.Tok

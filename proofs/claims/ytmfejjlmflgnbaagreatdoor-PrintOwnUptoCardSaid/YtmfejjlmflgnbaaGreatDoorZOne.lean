/- CONTRACTS: tappetlaw04's one: the tree that lives, in memory of the call's own; its num. -/
import Derived.Test.YtmfejjlmflgnbaaGreatDoorZPrA
import Derived.Test.YtmfejjlmflgnbaaGreatDoorZSame
import Derived.Test.YtmfejjlmflgnbaaGreatDoorZOpens
namespace Go.Proofs.YtmfejjlmflgnbaaGreatDoor.Tok
open Go.RowKit Go.Proofs.YtmfejjlmflgnbaaGreatDoor.PA Go.Proofs.YtmfejjlmflgnbaaGreatDoorW.PrintWords Go.Proofs.YtmfejjlmflgnbaaGreatDoorW.PrintLast Go.Proofs.YtmfejjlmflgnbaaGreatDoor.Sp Go.Proofs.YtmfejjlmflgnbaaGreatDoor.Tr
set_option linter.unusedVariables false
set_option linter.unusedSimpArgs false
set_option maxRecDepth 100000

/-- The parameter, by whatever name. -/
def pA (n : ByteArray) : SA := ⟨n, ⟨0, 0, 0⟩, ⟨2, ⟨#[]⟩, 10, true⟩, false, [], false, ⟨#[]⟩⟩
def aA (n : ByteArray) : SA := ⟨⟨#[65]⟩, ⟨0, 0, 0⟩, ⟨1, ⟨#[84, 82, 85, 69]⟩, 0, false⟩, true, [pA n], true, ⟨#[110]⟩⟩
def oA (n : ByteArray) : SO := ⟨⟨#[84, 65, 83, 75]⟩, ⟨#[84]⟩, ⟨0, 0, 0⟩, [aA n], false, ⟨#[]⟩⟩
def oB : SO := ⟨⟨#[69, 86, 69, 78, 84]⟩, ⟨#[69]⟩, ⟨0, 0, 0⟩, [], false, ⟨#[]⟩⟩
def oneT (n : ByteArray) : ST := ⟨⟨#[50, 46, 53]⟩, ⟨#[99]⟩, [oA n, oB], false, ⟨#[]⟩⟩
def rowC (g2 : Nat) : Array Value := #[.string ⟨#[84, 65, 83, 75]⟩, .string ⟨#[84]⟩, .int .i64 0, .int .i64 0, .int .i64 0, .slice (some ⟨g2, 0, none⟩) 1 1, .bool false, .string ⟨#[]⟩, .string ⟨#[69, 86, 69, 78, 84]⟩, .string ⟨#[69]⟩, .int .i64 0, .int .i64 0, .int .i64 0, .slice none 0 0, .bool false, .string ⟨#[]⟩]
/-- The rows of a tree that one has made. -/
structure OneAt (n : ByteArray) (w : World) (B g1 g2 g3 : Nat) : Prop where
  b1 : B ≤ g1
  b2 : g1 < g2
  b3 : g2 < g3
  h1 : w.heap[g1]? = some (.cells (attrC (pA n) 10 none 0) 50 (0, 0))
  h2 : w.heap[g2]? = some (.cells (attrC (aA n) 0 (some ⟨g1, 0, none⟩) 1) 50 (0, 0))
  h3 : w.heap[g3]? = some (.cells (rowC g2) 44 (0, 0))
theorem OneAt.below {n : ByteArray} {w w' : World} {B g1 g2 g3 : Nat} (h : OneAt n w B g1 g2 g3) (hB : Below w.heap.size w w') : OneAt n w' B g1 g2 g3 :=
  { h with
    h1 := (hB.block _ (Array.getElem?_eq_some_iff.1 h.h1).1).trans h.h1
    h2 := (hB.block _ (Array.getElem?_eq_some_iff.1 h.h2).1).trans h.h2
    h3 := (hB.block _ (Array.getElem?_eq_some_iff.1 h.h3).1).trans h.h3 }
theorem one_cells {w : World} {g : Nat} {cs : Array Value} {t : TypeId} (h : w.heap[g]? = some (.cells cs t (0, 0))) (k : Nat) : w.cell? ((⟨g, 0, none⟩ : Addr).add k) = cs[k]? := by
  rw [show (⟨g, 0, none⟩ : Addr).add k = ⟨g, k, none⟩ by unfold Addr.add; split <;> simp_all]
  exact cell_row h k
theorem row1_C {α : Type} (d : Kd α) {w : World} {g : Nat} {cs : Array Value} {t : TypeId} (h : w.heap[g]? = some (.cells cs t (0, 0))) (x : α) (hK : d.K w x cs.toList) : Kd.C d w (some ⟨g, 0, none⟩) 1 [x] := by
  refine ⟨rfl, by simp, fun _ => ⟨_, rfl, fun j p hp => ?_⟩⟩
  cases j with
  | succ j => simp at hp
  | zero =>
    simp only [List.getElem?_cons_zero, Option.some.injEq] at hp
    subst hp
    refine ⟨cs.toList, d.K_len hK, hK, fun i u hu => ?_⟩
    rw [one_cells h, Nat.zero_mul, Nat.zero_add, ← hu, Array.getElem?_toList]
theorem OneAt.C1 {n : ByteArray} {w : World} {B g1 g2 g3 : Nat} (h : OneAt n w B g1 g2 g3) : Kd.C k50 w (some ⟨g1, 0, none⟩) 1 [pA n] :=
  row1_C _ h.h1 _ (k50_mk w (pA n) (A9 := none) (c9 := 0) (Nat.le_refl _) ⟨rfl, by simp [pA], fun h => absurd h (by simp [pA])⟩)
theorem OneAt.C2 {n : ByteArray} {w : World} {B g1 g2 g3 : Nat} (h : OneAt n w B g1 g2 g3) : Kd.C k50 w (some ⟨g2, 0, none⟩) 1 [aA n] :=
  row1_C _ h.h2 _ (k50_mk w (aA n) (A9 := some ⟨g1, 0, none⟩) (c9 := 1) (Nat.le_refl _) h.C1)
theorem OneAt.C {n : ByteArray} {w : World} {B g1 g2 g3 : Nat} (h : OneAt n w B g1 g2 g3) : Kd.C k44 w (some ⟨g3, 0, none⟩) (oneT n).f2.length (oneT n).f2 := by
  have hA := k44_mk w (oA n) (A5 := some ⟨g2, 0, none⟩) (c5 := 1) (Nat.le_refl _) h.C2
  have hB := k44_mk w oB (A5 := none) (c5 := 0) (Nat.le_refl _) ⟨rfl, by simp [oB], fun h => absurd h (by simp [oB])⟩
  refine ⟨rfl, by simp [oneT], fun _ => ⟨_, rfl, fun j p hp => ?_⟩⟩
  match j, hp with
  | 0, hp =>
    simp only [oneT, List.getElem?_cons_zero, Option.some.injEq] at hp
    subst hp
    refine ⟨_, Kd.K_len _ hA, hA, fun i u hu => ?_⟩
    rw [one_cells h.h3, Nat.zero_mul, Nat.zero_add]
    have hi : i < 8 := by
      have := (List.getElem?_eq_some_iff.1 hu).1
      simpa using this
    rw [← hu]
    match i, hi with
    | 0, _ => rfl
    | 1, _ => rfl
    | 2, _ => rfl
    | 3, _ => rfl
    | 4, _ => rfl
    | 5, _ => rfl
    | 6, _ => rfl
    | 7, _ => rfl
  | 1, hp =>
    simp only [oneT, List.getElem?_cons_succ, List.getElem?_cons_zero, Option.some.injEq] at hp
    subst hp
    refine ⟨_, Kd.K_len _ hB, hB, fun i u hu => ?_⟩
    rw [one_cells h.h3]
    have hi : i < 8 := by
      have := (List.getElem?_eq_some_iff.1 hu).1
      simpa using this
    rw [← hu]
    match i, hi with
    | 0, _ => rfl
    | 1, _ => rfl
    | 2, _ => rfl
    | 3, _ => rfl
    | 4, _ => rfl
    | 5, _ => rfl
    | 6, _ => rfl
    | 7, _ => rfl
  | j + 2, hp => simp [oneT] at hp
theorem one_sm (n : ByteArray) (hn : n.size ≤ 1000) : TreeSm (oneT n) := by
  refine tree_sm _ (fun o ho => ?_) ?_
  · simp only [oneT, List.mem_cons, List.mem_nil_iff, or_false] at ho
    rcases ho with rfl | rfl
    · simp [rgO, oA, rgL, rgA, aA, pA]
    · simp [rgO, oB, rgL]
  · have e1 : (⟨#[65]⟩ : ByteArray).size = 1 := rfl
    have e2 : (⟨#[84, 82, 85, 69]⟩ : ByteArray).size = 4 := rfl
    have e3 : (⟨#[110]⟩ : ByteArray).size = 1 := rfl
    have e4 : (⟨#[]⟩ : ByteArray).size = 0 := rfl
    have e5 : (⟨#[84, 65, 83, 75]⟩ : ByteArray).size = 4 := rfl
    have e6 : (⟨#[84]⟩ : ByteArray).size = 1 := rfl
    have e7 : (⟨#[69, 86, 69, 78, 84]⟩ : ByteArray).size = 5 := rfl
    have e8 : (⟨#[69]⟩ : ByteArray).size = 1 := rfl
    have e9 : (⟨#[50, 46, 53]⟩ : ByteArray).size = 3 := rfl
    have e10 : (⟨#[99]⟩ : ByteArray).size = 1 := rfl
    simp only [wtT, oneT, wtOs, List.map_cons, List.map_nil, List.sum_cons, List.sum_nil, wtO, oA, oB, wtL, wtA, aA, pA]
    omega
theorem pnum_calls (e : Int) (w : World) : Calls Tryz.prog 44 #[.int .i64 e] w fun en w' => en = .returned (.int .i64 e) ∧ Below w.heap.size w w' := by
  go_enter Tryz.func44, Tryz.ntmps44
  go_wp2
  go_ret
  exact ⟨rfl, Below.refl _ _⟩
def tree0 : Array Value := #[.string ⟨#[]⟩, .string ⟨#[]⟩, .slice none 0 0, .bool false, .string ⟨#[]⟩]
theorem tree_all (t : ST) (A : Option Addr) (c : Nat) : (treeC t A c).all (·.oneCell') = true := by simp [treeC, Value.oneCell']
def nP : ByteArray := ⟨#[80]⟩
def n1 : ByteArray := ⟨#[49]⟩
set_option maxHeartbeats 8000000 in
theorem one_calls (w : World) : Calls Tryz.prog 43 #[] w fun e w' => (∃ g1 g2 g3, e = .returned (.agg #[.string ⟨#[50, 46, 53]⟩, .string ⟨#[99]⟩, .slice (some ⟨g3, 0, none⟩) 2 2, .bool false, .string ⟨#[]⟩]) ∧ OneAt nP w' w.heap.size g1 g2 g3) ∧ Below w.heap.size w w' := by
  have tk1 : True := trivial
  have tk2 : True := trivial
  have tk3 : True := trivial
  have tk4 : True := trivial
  have tk5 : True := trivial
  go_enter Tryz.func43, Tryz.ntmps43
  go_wp2_with (first
    | (have _t := tk1; refine run_event rfl (.alloc 24) rfl (.pointer (some ⟨w.heap.size, 0, none⟩)) (w.alloc (.cells tree0 24)) (by kernel_rfl) ?_; intro w1 hw1; have B1 : Hid (Below w.heap.size w w1) := Lib.hid (by rw [hw1]; exact alloc_below _ _); have G1 : Hid (w1.heap[w.heap.size]? = some (.cells tree0 24 (0, 0))) := Lib.hid (by rw [hw1]; exact heap_alloc_new _ _); have Z1 : Hid (w1.heap.size = w.heap.size + 1) := Lib.hid (by rw [hw1]; simp); clear hw1 tk1 _t)
    | (have _t := tk2; have _u := B1; refine run_event rfl (.alloc 50) rfl (.pointer (some ⟨w1.heap.size, 0, none⟩)) (w1.alloc (.cells attr0 50)) (by kernel_rfl) ?_; intro w2 hw2; have B2 : Hid (Below w1.heap.size w1 w2) := Lib.hid (by rw [hw2]; exact alloc_below _ _); have G2 : Hid (w2.heap[w1.heap.size]? = some (.cells attr0 50 (0, 0))) := Lib.hid (by rw [hw2]; exact heap_alloc_new _ _); clear hw2 tk2 _t _u)
    | ((with_reducible refine gate_store (t := 50) (p := 1) rfl ?_); refine put_event rfl 50 _ _ rfl w1.heap.size (attrC (pA nP) 10 none 0) rfl rfl 50 attr0 G2.out (by kernel_rfl) rfl (attr_all _ _ _ _) w1.heap.size (Nat.le_refl _) ?_; intro w3 hb3 hB3 hs3 ho3; have B3 : Hid (Below w1.heap.size w1 w3) := Lib.hid (B2.out.trans hB3); obtain ⟨y0, y1, y2, y3, y4, y5, y6, y7, y8, y9, y10, y11⟩ := attr_cells hb3; (try dsimp only [pA, nP, List.length_nil] at y0); (try dsimp only [pA, nP, List.length_nil] at y1); (try dsimp only [pA, nP, List.length_nil] at y2); (try dsimp only [pA, nP, List.length_nil] at y3); (try dsimp only [pA, nP, List.length_nil] at y4); (try dsimp only [pA, nP, List.length_nil] at y5); (try dsimp only [pA, nP, List.length_nil] at y6); (try dsimp only [pA, nP, List.length_nil] at y7); (try dsimp only [pA, nP, List.length_nil] at y8); (try dsimp only [pA, nP, List.length_nil] at y9); (try dsimp only [pA, nP, List.length_nil] at y10); (try dsimp only [pA, nP, List.length_nil] at y11); clear hb3 hB3 hs3 ho3)
    | (have _t := tk4; refine run_event rfl (.buildSlice 42 1 _) rfl (.slice (some ⟨w3.heap.size, 0, none⟩) 1 1) (w3.alloc (.cells (attrC (pA nP) 10 none 0) 50)) (by kernel_rfl) ?_; intro w4 hw4; have B4 : Hid (Below w3.heap.size w3 w4) := Lib.hid (by rw [hw4]; exact alloc_below _ _); have G4 : Hid (w4.heap[w3.heap.size]? = some (.cells (attrC (pA nP) 10 none 0) 50 (0, 0))) := Lib.hid (by rw [hw4]; exact heap_alloc_new _ _); have Z4 : Hid (w4.heap.size = w3.heap.size + 1) := Lib.hid (by rw [hw4]; simp); clear hw4 tk4 _t y0 y1 y2 y3 y4 y5 y6 y7 y8 y9 y10 y11)
    | (have _t := tk3; have _u := B4; refine run_event rfl (.alloc 50) rfl (.pointer (some ⟨w4.heap.size, 0, none⟩)) (w4.alloc (.cells attr0 50)) (by kernel_rfl) ?_; intro w5 hw5; have B5 : Hid (Below w4.heap.size w4 w5) := Lib.hid (by rw [hw5]; exact alloc_below _ _); have G5 : Hid (w5.heap[w4.heap.size]? = some (.cells attr0 50 (0, 0))) := Lib.hid (by rw [hw5]; exact heap_alloc_new _ _); clear hw5 tk3 _t _u)
    | ((with_reducible refine gate_store (t := 50) (p := 2) rfl ?_); refine put_event rfl 50 _ _ rfl w4.heap.size (attrC (aA nP) 0 (some ⟨w3.heap.size, 0, none⟩) 1) rfl rfl 50 attr0 G5.out (by kernel_rfl) rfl (attr_all _ _ _ _) w4.heap.size (Nat.le_refl _) ?_; intro w6 hb6 hB6 hs6 ho6; have B6 : Hid (Below w4.heap.size w4 w6) := Lib.hid (B5.out.trans hB6); obtain ⟨y0, y1, y2, y3, y4, y5, y6, y7, y8, y9, y10, y11⟩ := attr_cells hb6; (try dsimp only [aA, List.length_cons, List.length_nil] at y0); (try dsimp only [aA, List.length_cons, List.length_nil] at y1); (try dsimp only [aA, List.length_cons, List.length_nil] at y2); (try dsimp only [aA, List.length_cons, List.length_nil] at y3); (try dsimp only [aA, List.length_cons, List.length_nil] at y4); (try dsimp only [aA, List.length_cons, List.length_nil] at y5); (try dsimp only [aA, List.length_cons, List.length_nil] at y6); (try dsimp only [aA, List.length_cons, List.length_nil] at y7); (try dsimp only [aA, List.length_cons, List.length_nil] at y8); (try dsimp only [aA, List.length_cons, List.length_nil] at y9); (try dsimp only [aA, List.length_cons, List.length_nil] at y10); (try dsimp only [aA, List.length_cons, List.length_nil] at y11); clear hb6 hB6 hs6 ho6)
    | (have _t := tk5; refine run_event rfl (.buildSlice 42 1 _) rfl (.slice (some ⟨w6.heap.size, 0, none⟩) 1 1) (w6.alloc (.cells (attrC (aA nP) 0 (some ⟨w3.heap.size, 0, none⟩) 1) 50)) (by kernel_rfl) ?_; intro w7 hw7; have B7 : Hid (Below w6.heap.size w6 w7) := Lib.hid (by rw [hw7]; exact alloc_below _ _); have G7 : Hid (w7.heap[w6.heap.size]? = some (.cells (attrC (aA nP) 0 (some ⟨w3.heap.size, 0, none⟩) 1) 50 (0, 0))) := Lib.hid (by rw [hw7]; exact heap_alloc_new _ _); have Z7 : Hid (w7.heap.size = w6.heap.size + 1) := Lib.hid (by rw [hw7]; simp); clear hw7 tk5 _t y0 y1 y2 y3 y4 y5 y6 y7 y8 y9 y10 y11)
    | (refine run_event rfl (.buildSlice 22 2 _) rfl (.slice (some ⟨w7.heap.size, 0, none⟩) 2 2) (w7.alloc (.cells (rowC w6.heap.size) 44)) (by kernel_rfl) ?_; intro w8 hw8; have B8 : Hid (Below w7.heap.size w7 w8) := Lib.hid (by rw [hw8]; exact alloc_below _ _); have G8 : Hid (w8.heap[w7.heap.size]? = some (.cells (rowC w6.heap.size) 44 (0, 0))) := Lib.hid (by rw [hw8]; exact heap_alloc_new _ _); have B48 : Hid (Below w4.heap.size w4 w8) := Lib.hid (B6.out.trans ((B7.out.trans (B8.out.mono B7.out.size)).mono B6.out.size)); have B18 : Hid (Below w1.heap.size w1 w8) := Lib.hid (B3.out.trans ((B4.out.trans (B48.out.mono B4.out.size)).mono B3.out.size)); have G18 : Hid (w8.heap[w.heap.size]? = some (.cells tree0 24 (0, 0))) := Lib.hid ((B18.out.block _ (Array.getElem?_eq_some_iff.1 G1.out).1).trans G1.out); clear hw8)
    | ((with_reducible refine gate_store (t := 24) (p := 0) rfl ?_); refine put_event rfl 24 _ _ rfl w.heap.size (treeC (oneT nP) (some ⟨w7.heap.size, 0, none⟩) 2) rfl rfl 24 tree0 G18.out (by kernel_rfl) rfl (tree_all _ _ _) w.heap.size (Nat.le_refl _) ?_; intro w9 hb9 hB9 hs9 ho9; have G9 := Lib.hid hb9; have O9 := Lib.hid ho9; have B9 : Hid (Below w.heap.size w w9) := Lib.hid ((B1.out.trans (B18.out.mono B1.out.size)).trans hB9); clear hb9 hB9 hs9 ho9))
  obtain ⟨r0, r1, r2, r3, r4⟩ := tree_read G9.out (Below.refl _ _)
  dsimp only [oneT, List.length_cons, List.length_nil] at r0 r1 r2 r3 r4
  refine bodyPost_ret (v := .agg #[.string ⟨#[50, 46, 53]⟩, .string ⟨#[99]⟩, .slice (some ⟨w7.heap.size, 0, none⟩) 2 2, .bool false, .string ⟨#[]⟩]) (by simp [results, Tryz.results43, go_sem, r0, r1, r2, r3, r4]) rfl ?_
  have z1 := Z1.out
  have z3 := B3.out.size
  have z4 := Z4.out
  have z6 := B6.out.size
  have z7 := Z7.out
  refine ⟨⟨w3.heap.size, w6.heap.size, w7.heap.size, rfl, by omega, by omega, by omega, ?_, ?_, ?_⟩, B9.out⟩
  · rw [O9.out _ (by omega), (B48.out.block _ (Array.getElem?_eq_some_iff.1 G4.out).1)]
    exact G4.out
  · rw [O9.out _ (by omega), (B8.out.block _ (Array.getElem?_eq_some_iff.1 G7.out).1)]
    exact G7.out
  · rw [O9.out _ (by omega)]
    exact G8.out
end Go.Proofs.YtmfejjlmflgnbaaGreatDoor.Tok

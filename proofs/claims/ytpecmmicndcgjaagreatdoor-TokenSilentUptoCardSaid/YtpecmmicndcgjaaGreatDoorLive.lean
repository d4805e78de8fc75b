/- CONTRACTS: tappetlaw02's num and alive: alive answers true. -/
import Derived.Test.YtpecmmicndcgjaaGreatDoorFault
import Derived.Test.YtpecmmicndcgjaaGreatDoorAlike
namespace Go.Proofs.YtpecmmicndcgjaaGreatDoor.Tok
open Go.RowKit Go.Proofs.YtpecmmicndcgjaaGreatDoor.PA Go.Proofs.YtpecmmicndcgjaaGreatDoorW.PrintWords Go.Proofs.YtpecmmicndcgjaaGreatDoorW.PrintLast Go.Proofs.YtpecmmicndcgjaaGreatDoor.Sp
set_option linter.unusedVariables false
set_option linter.unusedSimpArgs false
set_option maxRecDepth 100000

def T1 : ByteArray := ⟨#[84, 95, 49, 123, 32, 47, 47, 32, 120, 10, 34, 97, 92, 34, 34, 61, 48, 120, 102, 70, 59]⟩
def L1 : List (Tok × Nat) := [(⟨1, [84, 95, 49], 0, false⟩, 0), (⟨4, [], 0, false⟩, 3), (⟨3, [97, 34], 0, false⟩, 10), (⟨6, [], 0, false⟩, 15), (⟨2, [], 255, true⟩, 16), (⟨7, [], 0, false⟩, 20), (⟨0, [], 0, false⟩, 21)]
def T2 : ByteArray := ⟨#[120, 10, 32, 32, 64]⟩
theorem scan1 : scanT T1.data.toList = .ok L1 := by kernel_rfl
theorem scan2 : scanT T2.data.toList = .error (20, 4) := by kernel_rfl
theorem spot2 : spotT T2.data.toList 4 = (2, 3) := by kernel_rfl
def J1 : List Bs := [[84, 95, 49], [123], [34, 97, 92, 34, 34], [61], [48, 120, 70, 70], [59], []]
theorem join1 : joinF (L1.map (toS T1.data.toList)) = some J1 := by kernel_rfl
theorem cells1 : cellsL T1.data.toList L1 = [.int .i64 1, .int .i64 0, .int .i64 1, .int .i64 1, .string ⟨#[84, 95, 49]⟩, .int .u32 0, .bool false,
  .int .i64 4, .int .i64 3, .int .i64 1, .int .i64 4, .string ⟨#[]⟩, .int .u32 0, .bool false,
  .int .i64 3, .int .i64 10, .int .i64 2, .int .i64 1, .string ⟨#[97, 34]⟩, .int .u32 0, .bool false,
  .int .i64 6, .int .i64 15, .int .i64 2, .int .i64 6, .string ⟨#[]⟩, .int .u32 0, .bool false,
  .int .i64 2, .int .i64 16, .int .i64 2, .int .i64 7, .string ⟨#[]⟩, .int .u32 255, .bool true,
  .int .i64 7, .int .i64 20, .int .i64 2, .int .i64 11, .string ⟨#[]⟩, .int .u32 0, .bool false,
  .int .i64 0, .int .i64 21, .int .i64 2, .int .i64 12, .string ⟨#[]⟩, .int .u32 0, .bool false] := by kernel_rfl
theorem num_calls (e : Int) (w : World) : Calls Tryz.prog 16 #[.int .i64 e] w fun en w' => en = .returned (.int .i64 e) ∧ Below w.heap.size w w' := by
  go_enter Tryz.func16, Tryz.ntmps16
  go_wp2
  go_ret
  exact ⟨rfl, Below.refl _ _⟩
theorem live_facts {w1 w7 : World} {g c fb fa : Nat} (h : w1.ownsRow 0 34 7 (.slice (some ⟨g, 0, none⟩) 7 c) 7 (cellsL T1.data.toList L1)) (hB : Below w1.heap.size w1 w7) (hb : w7.heap[fb]? = some (.cells (faultC 20 4 2 3) 27 (0, 0))) (ha : w7.heap[fa]? = some (.cells (faultC 0 0 0 0) 27 (0, 0))) :
    w7.cell? ⟨g, 4, none⟩ = some (.string ⟨#[84, 95, 49]⟩) ∧ w7.cell? ⟨g, 18, none⟩ = some (.string ⟨#[97, 34]⟩) ∧ w7.cell? ⟨g, 15, none⟩ = some (.int .i64 10) ∧ w7.cell? ⟨g, 16, none⟩ = some (.int .i64 2) ∧ w7.cell? ⟨g, 17, none⟩ = some (.int .i64 1) ∧ w7.cell? ⟨g, 33, none⟩ = some (.int .u32 255) ∧ w7.cell? ⟨g, 34, none⟩ = some (.bool true) ∧ w7.cell? ⟨g, 42, none⟩ = some (.int .i64 0) ∧ True ∧
    w7.cell? ⟨fa, 0, none⟩ = some (.int .i64 0) ∧ w7.cell? ⟨fa, 1, none⟩ = some (.int .i64 0) ∧ w7.cell? ⟨fa, 2, none⟩ = some (.int .i64 0) ∧ w7.cell? ⟨fa, 3, none⟩ = some (.int .i64 0) ∧ w7.cell? ⟨fa, 4, none⟩ = some (.string ⟨#[]⟩) ∧
    w7.cell? ⟨fb, 0, none⟩ = some (.int .i64 20) ∧ w7.cell? ⟨fb, 1, none⟩ = some (.int .i64 4) ∧ w7.cell? ⟨fb, 2, none⟩ = some (.int .i64 2) ∧ w7.cell? ⟨fb, 3, none⟩ = some (.int .i64 3) := by
  have h7 := pw_own_below h hB
  have hc := h7.cells (g := g) rfl
  rw [cells1] at hc
  exact ⟨hc 4 _ rfl, hc 18 _ rfl, hc 15 _ rfl, hc 16 _ rfl, hc 17 _ rfl, hc 33 _ rfl, hc 34 _ rfl, hc 42 _ rfl, trivial, (cell_row ha 0).trans rfl, (cell_row ha 1).trans rfl, (cell_row ha 2).trans rfl, (cell_row ha 3).trans rfl, (cell_row ha 4).trans rfl, (cell_row hb 0).trans rfl, (cell_row hb 1).trans rfl, (cell_row hb 2).trans rfl, (cell_row hb 3).trans rfl⟩
theorem live_join {w : World} {g c : Nat} (h : w.ownsRow 0 34 7 (.slice (some ⟨g, 0, none⟩) 7 c) 7 (cellsL T1.data.toList L1)) (hG : Glob w) :
    Calls Tryz.prog 17 #[.slice (some ⟨g, 0, none⟩) 7 c] w fun e w' => e = .returned (.tuple #[.string ⟨#[84, 95, 49, 32, 123, 32, 34, 97, 92, 34, 34, 32, 61, 32, 48, 120, 70, 70, 32, 59, 32]⟩, .int .i64 0]) ∧ Below w.heap.size w w' := by
  obtain ⟨A, c', hv, hc, hC⟩ := toks_of_own (l := L1) h
  injection hv with h1 h2 h3
  subst h1 h3
  have hj := join_calls _ c (L1.map (toS T1.data.toList)) w hC hc (by decide) (by
      intro x hx
      simp only [L1, List.map_cons, List.map_nil, List.mem_cons, List.mem_nil_iff, or_false] at hx
      rcases hx with rfl | rfl | rfl | rfl | rfl | rfl | rfl <;> decide +kernel) (by
      intro s hs
      rw [join1] at hs
      injection hs with hs
      subst hs
      decide +kernel) hG
  refine hj.mono fun e w' ⟨hB, he⟩ => ⟨?_, hB⟩
  rw [he, join1]
  rfl
set_option maxHeartbeats 8000000 in
theorem alive_calls (w : World) (hG : Glob w) :
    Calls Tryz.prog 13 #[] w fun e w' => e = .returned (.bool true) ∧ Below w.heap.size w w' := by
  have HG := Lib.hid hG
  have HS1 : Hid (∀ W, Glob W → Calls Tryz.prog 10 #[.string ⟨#[84, 95, 49, 123, 32, 47, 47, 32, 120, 10, 34, 97, 92, 34, 34, 61, 48, 120, 102, 70, 59]⟩] W fun e w' => (∃ g c, e = .returned (.tuple #[.slice (some ⟨g, 0, none⟩) 7 c, .agg #[.int .i64 0, .int .i64 0, .int .i64 0, .int .i64 0, .string ⟨#[]⟩]]) ∧ w'.ownsRow 0 34 7 (.slice (some ⟨g, 0, none⟩) 7 c) 7 (cellsL T1.data.toList L1)) ∧ Below W.heap.size W w') := Lib.hid (fun W hW => (fscan_calls T1 W (by decide +kernel) hW).mono fun e w' h => by
    unfold FScanPost at h
    rw [scan1] at h
    obtain ⟨hB, v, he, ho⟩ := h
    obtain ⟨g, cap, rfl, _, _⟩ := ho.form (by decide)
    exact ⟨⟨g, cap, he, own_base_le ho (Nat.zero_le _)⟩, hB⟩)
  have HS2 : Hid (∀ W, Glob W → Calls Tryz.prog 10 #[.string ⟨#[120, 10, 32, 32, 64]⟩] W fun e w' => e = .returned (.tuple #[.slice none 0 0, .agg #[.int .i64 20, .int .i64 4, .int .i64 2, .int .i64 3, .string ⟨#[]⟩]]) ∧ Below W.heap.size W w') := Lib.hid (fun W hW => (fscan_calls T2 W (by decide +kernel) hW).mono fun e w' h => by
    unfold FScanPost at h
    rw [scan2] at h
    obtain ⟨hB, he⟩ := h
    simp only [spot2] at he
    exact ⟨he, hB⟩)
  clear hG
  have feq : ∀ W, (binOp .eql 27 (.agg #[.int .i64 0, .int .i64 0, .int .i64 0, .int .i64 0, .string ⟨#[]⟩]) (.agg #[.int .i64 0, .int .i64 0, .int .i64 0, .int .i64 0, .string ⟨#[]⟩])).run Tryz.prog W = .ok (.bool true) W := fun _ => by kernel_rfl
  have seq1 : ∀ W, (binOp .eql 25 (.agg #[.int .i64 10, .int .i64 2, .int .i64 1]) (.agg #[.int .i64 10, .int .i64 2, .int .i64 1])).run Tryz.prog W = .ok (.bool true) W := fun _ => by kernel_rfl
  have seq2 : ∀ W, (binOp .eql 25 (.agg #[.int .i64 4, .int .i64 2, .int .i64 3]) (.agg #[.int .i64 4, .int .i64 2, .int .i64 3])).run Tryz.prog W = .ok (.bool true) W := fun _ => by kernel_rfl
  have tk1 : True := trivial
  go_enter Tryz.func13, Tryz.ntmps13
  go_wp2_with fail
  refine (HS1.out _ HG.out).mono ?_
  rintro e w1 ⟨⟨g, c, rfl, ho1⟩, hB1⟩
  have B1 := Lib.hid hB1
  have O1 := Lib.hid ho1
  clear ho1 hB1
  go_wp2_with (first
    | (have _t := tk1; refine run_event rfl (.alloc 27) rfl (.pointer (some ⟨w1.heap.size, 0, none⟩)) (w1.alloc (.cells (faultC 0 0 0 0) 27)) (by kernel_rfl) ?_; intro w2 hw2; have B2 : Hid (Below w1.heap.size w1 w2) := Lib.hid (by rw [hw2]; exact alloc_below _ _); have G2 : Hid (w2.heap[w1.heap.size]? = some (.cells (faultC 0 0 0 0) 27 (0, 0))) := Lib.hid (by rw [hw2]; exact heap_alloc_new _ _); clear hw2 tk1 _t)
    | ((with_reducible refine gate_store (t := 27) (p := 2) rfl ?_); refine put_event rfl 27 _ _ rfl w1.heap.size (faultC 0 0 0 0) rfl rfl 27 (faultC 0 0 0 0) G2.out (by kernel_rfl) rfl (fault_all _ _ _ _) w1.heap.size (Nat.le_refl _) ?_; intro w3 hb3 hB3 hs3 ho3; have G3 := Lib.hid hb3; have B3 : Hid (Below w1.heap.size w1 w3) := Lib.hid (B2.out.trans hB3); clear hb3 hB3 hs3 ho3)
    | (go_at_call 10; refine (HS2.out _ (HG.out.below (B1.out.trans (B3.out.mono B1.out.size)))).mono ?_; rintro e w4 ⟨rfl, hB4⟩; have B4 := Lib.hid (B3.out.trans (hB4.mono B3.out.size)); have G4 : Hid (w4.heap[w1.heap.size]? = some (.cells (faultC 0 0 0 0) 27 (0, 0))) := Lib.hid ((hB4.block _ (Array.getElem?_eq_some_iff.1 G3.out).1).trans G3.out); clear hB4)
    | (refine run_event rfl (.alloc 27) rfl (.pointer (some ⟨w4.heap.size, 0, none⟩)) (w4.alloc (.cells (faultC 0 0 0 0) 27)) (by kernel_rfl) ?_; intro w5 hw5; have B5 : Hid (Below w4.heap.size w4 w5) := Lib.hid (by rw [hw5]; exact alloc_below _ _); have G5 : Hid (w5.heap[w4.heap.size]? = some (.cells (faultC 0 0 0 0) 27 (0, 0))) := Lib.hid (by rw [hw5]; exact heap_alloc_new _ _); clear hw5)
    | ((with_reducible refine gate_store (t := 27) (p := 4) rfl ?_); refine put_event rfl 27 _ _ rfl w4.heap.size (faultC 20 4 2 3) rfl rfl 27 (faultC 0 0 0 0) G5.out (by kernel_rfl) rfl (fault_all _ _ _ _) w4.heap.size (Nat.le_refl _) ?_; intro w6 hb6 hB6 hs6 ho6; have G6 := Lib.hid hb6; have B6 : Hid (Below w4.heap.size w4 w6) := Lib.hid (B5.out.trans hB6); have BA : Hid (Below w1.heap.size w1 w6) := Lib.hid (B4.out.trans (B6.out.mono B4.out.size)); clear hb6 hB6 hs6 ho6)
    | (go_at_call 17; refine (live_join (pw_own_below O1.out BA.out) (HG.out.below (B1.out.trans (BA.out.mono B1.out.size)))).mono ?_; rintro e w7 ⟨rfl, hB7⟩; have h7 := live_facts O1.out (BA.out.trans (hB7.mono BA.out.size)) ((hB7.block _ (Array.getElem?_eq_some_iff.1 G6.out).1).trans G6.out) ((hB7.block _ (Nat.lt_of_lt_of_le (Array.getElem?_eq_some_iff.1 G4.out).1 (by have := B6.out.size; omega))).trans ((B6.out.block _ (Array.getElem?_eq_some_iff.1 G4.out).1).trans G4.out)); obtain ⟨a0, a1, a2, a3, a4, a5, a6, a7, a8, b0, b1, b2, b3, b4, d0, d1, d2, d3⟩ := h7; have BB : Hid (Below w.heap.size w w7) := Lib.hid (B1.out.trans ((BA.out.trans (hB7.mono BA.out.size)).mono B1.out.size)); clear hB7)
    | (go_at_call 16; refine (num_calls _ _).mono ?_; rintro e w8 ⟨rfl, hB8⟩; have BC := Lib.hid (BB.out.trans (hB8.mono BB.out.size)); clear hB8))
  go_ret
  exact ⟨rfl, BC.out⟩
end Go.Proofs.YtpecmmicndcgjaaGreatDoor.Tok

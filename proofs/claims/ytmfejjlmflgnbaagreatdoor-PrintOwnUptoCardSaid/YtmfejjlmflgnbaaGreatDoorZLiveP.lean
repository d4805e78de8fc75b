/- CONTRACT: tappetlaw04's alive answers true. -/
import Derived.Test.YtmfejjlmflgnbaaGreatDoorZPrN
import Derived.Test.YtmfejjlmflgnbaaGreatDoorZPrS2
import Derived.Test.YtmfejjlmflgnbaaGreatDoorZOne
namespace Go.Proofs.YtmfejjlmflgnbaaGreatDoor.Tok
open Go.RowKit Go.Proofs.YtmfejjlmflgnbaaGreatDoor.PA Go.Proofs.YtmfejjlmflgnbaaGreatDoorW.PrintWords Go.Proofs.YtmfejjlmflgnbaaGreatDoorW.PrintLast Go.Proofs.YtmfejjlmflgnbaaGreatDoor.Sp Go.Proofs.YtmfejjlmflgnbaaGreatDoor.Tr
set_option linter.unusedVariables false
set_option linter.unusedSimpArgs false
set_option maxRecDepth 100000

def liveT : ByteArray := ⟨#[79, 73, 76, 95, 86, 69, 82, 83, 73, 79, 78, 32, 61, 32, 34, 50, 46, 53, 34, 59, 10, 67, 80, 85, 32, 99, 32, 123, 10, 32, 32, 84, 65, 83, 75, 32, 84, 32, 123, 10, 32, 32, 32, 32, 65, 32, 61, 32, 84, 82, 85, 69, 32, 123, 10, 32, 32, 32, 32, 32, 32, 80, 32, 61, 32, 48, 120, 65, 59, 10, 32, 32, 32, 32, 125, 32, 58, 32, 34, 110, 34, 59, 10, 32, 32, 125, 59, 10, 32, 32, 69, 86, 69, 78, 84, 32, 69, 32, 123, 32, 125, 59, 10, 125, 59, 10]⟩
theorem live_text : treeT (oneT nP) = liveT.data.toList := by kernel_rfl
theorem live_good : badT (oneT nP) = none := by kernel_rfl
theorem live_bad : badT (oneT n1) = some [0, 0, 0] := by kernel_rfl
theorem live_len : (treeT (oneT nP)).length ≤ 262144 := by
  rw [live_text]
  exact of_decide_eq_true (by kernel_rfl)
theorem live_no : sameT false (oneT n1) (oneT nP) = false := by kernel_rfl
theorem live_yes : sameT false (oneT nP) (oneT nP) = true := by kernel_rfl
def oneV (g3 : Nat) : Value := .agg #[.string ⟨#[50, 46, 53]⟩, .string ⟨#[99]⟩, .slice (some ⟨g3, 0, none⟩) 2 2, .bool false, .string ⟨#[]⟩]
theorem lp_calls {B g1 g2 g3 : Nat} (W : World) (h : OneAt nP W B g1 g2 g3) (hG : Glob W) :
    Calls Tryz.prog 18 #[.agg #[.string ⟨#[50, 46, 53]⟩, .string ⟨#[99]⟩, .slice (some ⟨g3, 0, none⟩) 2 2, .bool false, .string ⟨#[]⟩]] W fun e w' => e = .returned (.tuple #[.string ⟨#[79, 73, 76, 95, 86, 69, 82, 83, 73, 79, 78, 32, 61, 32, 34, 50, 46, 53, 34, 59, 10, 67, 80, 85, 32, 99, 32, 123, 10, 32, 32, 84, 65, 83, 75, 32, 84, 32, 123, 10, 32, 32, 32, 32, 65, 32, 61, 32, 84, 82, 85, 69, 32, 123, 10, 32, 32, 32, 32, 32, 32, 80, 32, 61, 32, 48, 120, 65, 59, 10, 32, 32, 32, 32, 125, 32, 58, 32, 34, 110, 34, 59, 10, 32, 32, 125, 59, 10, 32, 32, 69, 86, 69, 78, 84, 32, 69, 32, 123, 32, 125, 59, 10, 125, 59, 10]⟩, .agg #[.int .i64 0, .slice none 0 0]]) ∧ Below W.heap.size W w' :=
  (pprint_calls (oneT nP) (some ⟨g3, 0, none⟩) 2 W h.C (Nat.le_refl _) (one_sm nP (by decide)) hG).mono fun e w' hp => by
    obtain ⟨hB, he⟩ := hp
    rw [live_good] at he
    simp only at he
    rw [if_neg (by have := live_len; omega), live_text] at he
    exact ⟨he, hB⟩
theorem lf_calls {B g1 g2 g3 : Nat} (W : World) (h : OneAt n1 W B g1 g2 g3) (hG : Glob W) :
    Calls Tryz.prog 13 #[.agg #[.string ⟨#[50, 46, 53]⟩, .string ⟨#[99]⟩, .slice (some ⟨g3, 0, none⟩) 2 2, .bool false, .string ⟨#[]⟩]] W fun e w' => (∃ g cap, e = .returned (.agg #[.int .i64 40, .slice (some ⟨g, 0, none⟩) 3 cap]) ∧ w'.cell? ⟨g, 0, none⟩ = some (.int .i64 0) ∧ w'.cell? ⟨g, 2, none⟩ = some (.int .i64 0)) ∧ Below W.heap.size W w' :=
  (pfits_calls (oneT n1) (some ⟨g3, 0, none⟩) 2 W h.C (Nat.le_refl _) (one_sm n1 (by decide)).ok hG).mono fun e w' hp => by
    obtain ⟨hB, he⟩ := hp
    rw [live_bad] at he
    obtain ⟨v, he, hI⟩ := he
    obtain ⟨g, cap, hv, _⟩ := Kd.R_form hI (by simp)
    subst hv
    obtain ⟨A', c', hv2, _, hC⟩ := Kd.R_reads hI
    injection hv2 with e1 e2 e3
    subst e1
    obtain ⟨ad, ea, hc⟩ := hC.2.2 (by simp)
    injection ea with ea
    subst ea
    refine ⟨⟨g, cap, he, ?_, ?_⟩, hB⟩
    · obtain ⟨c0, hl, hK, hcell⟩ := hc 0 0 rfl
      have hK' : c0 = [.int .i64 0] := hK
      subst hK'
      exact hcell 0 _ rfl
    · obtain ⟨c0, hl, hK, hcell⟩ := hc 2 0 rfl
      have hK' : c0 = [.int .i64 0] := hK
      subst hK'
      exact hcell 0 _ rfl
theorem ls_calls {n m : ByteArray} {B g1 g2 g3 B' h1 h2 h3 : Nat} (W : World) (h : OneAt n W B g1 g2 g3) (h' : OneAt m W B' h1 h2 h3) (hn : n.size ≤ 1000) (r : Bool) (hr : sameT false (oneT n) (oneT m) = r) :
    Calls Tryz.prog 21 #[.agg #[.string ⟨#[50, 46, 53]⟩, .string ⟨#[99]⟩, .slice (some ⟨g3, 0, none⟩) 2 2, .bool false, .string ⟨#[]⟩], .agg #[.string ⟨#[50, 46, 53]⟩, .string ⟨#[99]⟩, .slice (some ⟨h3, 0, none⟩) 2 2, .bool false, .string ⟨#[]⟩]] W fun e w' => e = .returned (.bool r) ∧ Below W.heap.size W w' := by
  have := psame_calls (oneT n) (oneT m) (some ⟨g3, 0, none⟩) (some ⟨h3, 0, none⟩) 2 2 W h.C (Nat.le_refl _) h'.C (Nat.le_refl _) (fun j o ho => by have := (one_sm n hn).ok.cnt j o ho; omega) (by have := (one_sm n hn).ok.len; omega)
  rw [hr] at this
  exact this
/-- The parameter's name is written over. -/
theorem one_over {w w1 : World} {B g1 g2 g3 : Nat} (h : OneAt nP w B g1 g2 g3) (hw : w1 = w.setCells g1 0 [.string ⟨#[49]⟩]) : OneAt n1 w1 B g1 g2 g3 := by
  have e : w1 = w.setCell ⟨g1, 0, none⟩ (.string ⟨#[49]⟩) := hw
  have hg := setCell_grown w g1 0 (.string ⟨#[49]⟩)
  rw [← e] at hg
  have b2 := h.b2
  have b3 := h.b3
  refine ⟨h.b1, h.b2, h.b3, ?_, ?_, ?_⟩
  · rw [e]
    exact setCell_row h.h1 _
  · exact (hg.block g2 (Array.getElem?_eq_some_iff.1 h.h2).1 (by simp; omega)).trans h.h2
  · exact (hg.block g3 (Array.getElem?_eq_some_iff.1 h.h3).1 (by simp; omega)).trans h.h3
theorem one_there {n : ByteArray} {w : World} {B g1 g2 g3 : Nat} (h : OneAt n w B g1 g2 g3) : w.there g1 0 1 := fun j hj => by
  obtain rfl : j = 0 := by omega
  exact ⟨by rw [cell_row h.h1 0]; rfl, frozen_row h.h1 0⟩
theorem over_other {w w1 : World} {g k : Nat} {v : Value} {o : Obj} (hw : w1 = w.setCells g 0 [v]) (h : w.heap[k]? = some o) (hne : k ≠ g) : w1.heap[k]? = some o := by
  rw [hw]
  exact (Below.heap_setCell w ⟨g, 0, none⟩ v k hne).trans h
/-- What alive reads. -/
structure LV (W : World) (a b c g cap h3 : Nat) : Prop where
  f2 : W.heap[a]? = some (.cells flawC0 29 (0, 0))
  f4 : W.heap[b]? = some (.cells #[.int .i64 40, .slice (some ⟨g, 0, none⟩) 3 cap] 29 (0, 0))
  t : W.heap[c]? = some (.cells #[.string ⟨#[50, 46, 53]⟩, .string ⟨#[99]⟩, .slice (some ⟨h3, 0, none⟩) 2 2, .bool false, .string ⟨#[]⟩] 24 (0, 0))
  s0 : W.cell? ⟨g, 0, none⟩ = some (.int .i64 0)
  s2 : W.cell? ⟨g, 2, none⟩ = some (.int .i64 0)
theorem LV.below {W W' : World} {a b c g cap h3 : Nat} (h : LV W a b c g cap h3) (hB : Below W.heap.size W W') : LV W' a b c g cap h3 :=
  ⟨(hB.block _ (Array.getElem?_eq_some_iff.1 h.f2).1).trans h.f2, (hB.block _ (Array.getElem?_eq_some_iff.1 h.f4).1).trans h.f4, (hB.block _ (Array.getElem?_eq_some_iff.1 h.t).1).trans h.t, (hB.cell (World.block_lt_of_cell? W _ h.s0)).trans h.s0, (hB.cell (World.block_lt_of_cell? W _ h.s2)).trans h.s2⟩
theorem LV.S {W : World} {a b c g cap h3 : Nat} (h : LV W a b c g cap h3) : W.cell? ⟨a, 0, none⟩ = some (.int .i64 0) ∧ W.cell? ⟨a, 1, none⟩ = some (.slice none 0 0) ∧ W.cell? ⟨b, 0, none⟩ = some (.int .i64 40) ∧ W.cell? ⟨b, 1, none⟩ = some (.slice (some ⟨g, 0, none⟩) 3 cap) ∧ W.cell? ⟨g, 0, none⟩ = some (.int .i64 0) ∧ W.cell? ⟨g, 2, none⟩ = some (.int .i64 0) ∧ W.cell? ⟨c, 0, none⟩ = some (.string ⟨#[50, 46, 53]⟩) ∧ W.cell? ⟨c, 1, none⟩ = some (.string ⟨#[99]⟩) ∧ W.cell? ⟨c, 2, none⟩ = some (.slice (some ⟨h3, 0, none⟩) 2 2) ∧ W.cell? ⟨c, 3, none⟩ = some (.bool false) ∧ W.cell? ⟨c, 4, none⟩ = some (.string ⟨#[]⟩) :=
  ⟨(cell_row h.f2 0).trans rfl, (cell_row h.f2 1).trans rfl, (cell_row h.f4 0).trans rfl, (cell_row h.f4 1).trans rfl, h.s0, h.s2, (cell_row h.t 0).trans rfl, (cell_row h.t 1).trans rfl, (cell_row h.t 2).trans rfl, (cell_row h.t 3).trans rfl, (cell_row h.t 4).trans rfl⟩
set_option maxHeartbeats 32000000 in
theorem palive_calls (w : World) (hG : Glob w) :
    Calls Tryz.prog 17 #[] w fun e w' => e = .returned (.bool true) ∧ Below w.heap.size w w' := by
  have HG := Lib.hid hG
  clear hG
  have tk1 : True := trivial
  have tk2 : True := trivial
  have tk3 : True := trivial
  have tk4 : True := trivial
  go_enter Tryz.func17, Tryz.ntmps17
  go_upto_region 4 with (first
    | (have _t := tk1; go_at_call 43; refine (one_calls _).mono ?_; rintro e w1 ⟨⟨g1, g2, g3, rfl, hO1⟩, hB1⟩; have O1 := Lib.hid hO1; have B1 := Lib.hid hB1; clear hO1 hB1 tk1 _t)
    | (go_at_call 18; refine (lp_calls _ O1.out (HG.out.below B1.out)).mono ?_; rintro e w2 ⟨rfl, hB2⟩; have B2 := Lib.hid (B1.out.trans (hB2.mono B1.out.size)); clear hB2)
    | (have _t := tk2; refine run_event rfl (.alloc 29) rfl (.pointer (some ⟨w2.heap.size, 0, none⟩)) (w2.alloc (.cells flawC0 29)) (by kernel_rfl) ?_; intro w3 hw3; have B23 : Hid (Below w2.heap.size w2 w3) := Lib.hid (by rw [hw3]; exact alloc_below _ _); have G3 : Hid (w3.heap[w2.heap.size]? = some (.cells flawC0 29 (0, 0))) := Lib.hid (by rw [hw3]; exact heap_alloc_new _ _); clear hw3 tk2 _t)
    | ((with_reducible refine gate_store (t := 29) (p := 2) rfl ?_); refine put_event rfl 29 _ _ rfl w2.heap.size #[.int .i64 0, .slice none 0 0] rfl rfl 29 flawC0 G3.out (by kernel_rfl) rfl (flaw_all _ _ _ _) w2.heap.size (Nat.le_refl _) ?_; intro w4 hb4 hB4 hs4 ho4; have G4 : Hid (w4.heap[w2.heap.size]? = some (.cells flawC0 29 (0, 0))) := Lib.hid hb4; have B4 : Hid (Below w.heap.size w w4) := Lib.hid (B2.out.trans ((B23.out.trans hB4).mono B2.out.size)); have ZB4 := Lib.hid B4.out.size; clear hb4 hB4 hs4 ho4)
    | (have _t := B4; go_at_call 43; refine (one_calls _).mono ?_; rintro e w5 ⟨⟨h1, h2, h3, rfl, hO5⟩, hB5⟩; have O5 := Lib.hid hO5; have B45 := Lib.hid hB5; have B5 := Lib.hid (B4.out.trans (hB5.mono B4.out.size)); have G5 : Hid (w5.heap[w2.heap.size]? = some (.cells flawC0 29 (0, 0))) := Lib.hid ((hB5.block _ (Array.getElem?_eq_some_iff.1 G4.out).1).trans G4.out); clear hO5 hB5 _t B4)
    | (have _t := tk3; refine run_event rfl (.alloc 24) rfl (.pointer (some ⟨w5.heap.size, 0, none⟩)) (w5.alloc (.cells tree0 24)) (by kernel_rfl) ?_; intro w6 hw6; have B56 : Hid (Below w5.heap.size w5 w6) := Lib.hid (by rw [hw6]; exact alloc_below _ _); have G6 : Hid (w6.heap[w5.heap.size]? = some (.cells tree0 24 (0, 0))) := Lib.hid (by rw [hw6]; exact heap_alloc_new _ _); clear hw6 tk3 _t)
    | ((with_reducible refine gate_store (t := 24) (p := 3) rfl ?_); refine put_event rfl 24 _ _ rfl w5.heap.size #[.string ⟨#[50, 46, 53]⟩, .string ⟨#[99]⟩, .slice (some ⟨h3, 0, none⟩) 2 2, .bool false, .string ⟨#[]⟩] rfl rfl 24 tree0 G6.out (by kernel_rfl) rfl (by simp [Value.oneCell']) w5.heap.size (Nat.le_refl _) ?_; intro w7 hb7 hB7 hs7 ho7; have G7 := Lib.hid hb7; have B57 : Hid (Below w5.heap.size w5 w7) := Lib.hid (B56.out.trans hB7); obtain ⟨_, _, y2, _, _⟩ := tree_read (t := oneT nP) (A := some ⟨h3, 0, none⟩) (c := 2) hb7 (Below.refl _ _); replace y2 : w7.cell? ⟨w5.heap.size, 2, none⟩ = some (.slice (some ⟨h3, 0, none⟩) 2 2) := y2; have O7 := Lib.hid (O5.out.below B57.out); have z5 : w7.cell? ⟨h3, 5, none⟩ = some (.slice (some ⟨h2, 0, none⟩) 1 1) := (cell_row O7.out.h3 5).trans rfl; have z9 : w7.cell? ⟨h2, 9, none⟩ = some (.slice (some ⟨h1, 0, none⟩) 1 1) := (cell_row O7.out.h2 9).trans rfl; clear hb7 hB7 hs7 ho7)
    | ((with_reducible refine gate_store (t := 9) (p := 20) rfl ?_); refine cell_event rfl 9 _ _ rfl h1 0 (.string ⟨#[49]⟩) rfl rfl rfl (one_there O7.out) (by kernel_rfl) w4.heap.size O5.out.b1 ?_; intro w8 hw8 hB8 hs8; have O8 : Hid (OneAt n1 w8 w4.heap.size h1 h2 h3) := Lib.hid (one_over O7.out hw8); have V8 : Hid (w8.heap[w5.heap.size]? = some (.cells #[.string ⟨#[50, 46, 53]⟩, .string ⟨#[99]⟩, .slice (some ⟨h3, 0, none⟩) 2 2, .bool false, .string ⟨#[]⟩] 24 (0, 0))) := Lib.hid (over_other hw8 G7.out (by have := (Array.getElem?_eq_some_iff.1 O5.out.h1).1; omega)); have G8 : Hid (w8.heap[w2.heap.size]? = some (.cells flawC0 29 (0, 0))) := Lib.hid ((hB8.block _ (by have := (Array.getElem?_eq_some_iff.1 G4.out).1; omega)).trans ((B57.out.block _ (Array.getElem?_eq_some_iff.1 G5.out).1).trans G5.out)); have B8 : Hid (Below w.heap.size w w8) := Lib.hid ((B5.out.trans (B57.out.mono B5.out.size)).trans (hB8.mono ZB4.out)); clear hw8 hB8 hs8 y2 z5 z9))
  obtain ⟨y0, y1, y2, y3, y4⟩ := tree_read (t := oneT nP) (A := some ⟨h3, 0, none⟩) (c := 2) V8.out (Below.refl _ _)
  dsimp only [oneT, List.length_cons, List.length_nil] at y0 y1 y2 y3 y4
  go_upto_region 5 with (first
    | (go_at_call 13; refine (lf_calls _ O8.out (HG.out.below B8.out)).mono ?_; rintro e w9 ⟨⟨g, cap, rfl, hs0, hs2⟩, hB9⟩; have S0 := Lib.hid hs0; have S2 := Lib.hid hs2; have B89 := Lib.hid hB9; clear hs0 hs2 hB9 y0 y1 y2 y3 y4)
    | (have _t := tk4; refine run_event rfl (.alloc 29) rfl (.pointer (some ⟨w9.heap.size, 0, none⟩)) (w9.alloc (.cells flawC0 29)) (by kernel_rfl) ?_; intro w10 hw10; have B910 : Hid (Below w9.heap.size w9 w10) := Lib.hid (by rw [hw10]; exact alloc_below _ _); have G10 : Hid (w10.heap[w9.heap.size]? = some (.cells flawC0 29 (0, 0))) := Lib.hid (by rw [hw10]; exact heap_alloc_new _ _); clear hw10 tk4 _t)
    | ((with_reducible refine gate_store (t := 29) (p := 4) rfl ?_); refine put_event rfl 29 _ _ rfl w9.heap.size #[.int .i64 40, .slice (some ⟨g, 0, none⟩) 3 cap] rfl rfl 29 flawC0 G10.out (by kernel_rfl) rfl (flaw_all _ _ _ _) w9.heap.size (Nat.le_refl _) ?_; intro w11 hb11 hB11 hs11 ho11; have G11 := Lib.hid hb11; have B911 : Hid (Below w9.heap.size w9 w11) := Lib.hid (B910.out.trans hB11); clear hb11 hB11 hs11 ho11))
  have C11 : Hid (Below w8.heap.size w8 w11) := Lib.hid (B89.out.trans (B911.out.mono B89.out.size))
  have V11 : Hid (LV w11 w2.heap.size w9.heap.size w5.heap.size g cap h3) := Lib.hid ⟨(C11.out.block _ (Array.getElem?_eq_some_iff.1 G8.out).1).trans G8.out, G11.out, (C11.out.block _ (Array.getElem?_eq_some_iff.1 V8.out).1).trans V8.out, (B911.out.cell (World.block_lt_of_cell? w9 _ S0.out)).trans S0.out, (B911.out.cell (World.block_lt_of_cell? w9 _ S2.out)).trans S2.out⟩
  have tk5 : True := trivial
  have tk6 : True := trivial
  have tk7 : True := trivial
  go_region_held3 (fun W => W.cell? ⟨w2.heap.size, 0, none⟩ = some (.int .i64 0) ∧ W.cell? ⟨w2.heap.size, 1, none⟩ = some (.slice none 0 0) ∧ W.cell? ⟨w9.heap.size, 0, none⟩ = some (.int .i64 40) ∧ W.cell? ⟨w9.heap.size, 1, none⟩ = some (.slice (some ⟨g, 0, none⟩) 3 cap) ∧ W.cell? ⟨g, 0, none⟩ = some (.int .i64 0) ∧ W.cell? ⟨g, 2, none⟩ = some (.int .i64 0) ∧ W.cell? ⟨w5.heap.size, 0, none⟩ = some (.string ⟨#[50, 46, 53]⟩) ∧ W.cell? ⟨w5.heap.size, 1, none⟩ = some (.string ⟨#[99]⟩) ∧ W.cell? ⟨w5.heap.size, 2, none⟩ = some (.slice (some ⟨h3, 0, none⟩) 2 2) ∧ W.cell? ⟨w5.heap.size, 3, none⟩ = some (.bool false) ∧ W.cell? ⟨w5.heap.size, 4, none⟩ = some (.string ⟨#[]⟩)) (first | exact V11.out.S | exact V12.out.S | exact V13.out.S | exact V14.out.S | exact V15.out.S | exact V16.out.S | exact V17.out.S | assumption) (first
    | (go_at_call 44; refine (pnum_calls _ _).mono ?_; rintro e w12 ⟨rfl, hB12⟩; have C12 : Hid (Below w11.heap.size w11 w12) := Lib.hid ((Below.refl _ _).drew.trans hB12); have V12 := Lib.hid (V11.out.below C12.out); clear hB12)
    | (have _t := tk5; go_at_call 43; refine (one_calls _).mono ?_; rintro e w13 ⟨⟨i1, i2, i3, rfl, hO13⟩, hB13⟩; have O13 := Lib.hid hO13; have C13 : Hid (Below w11.heap.size w11 w13) := Lib.hid (C12.out.trans (hB13.mono C12.out.size)); have V13 := Lib.hid (V11.out.below C13.out); clear hB13 hO13 tk5 _t)
    | (have _t := tk6; go_at_call 21; refine (ls_calls _ (O8.out.below (C11.out.trans (C13.out.mono C11.out.size))) O13.out (by decide) false live_no).mono ?_; rintro e w14 ⟨rfl, hB14⟩; have C14 : Hid (Below w11.heap.size w11 w14) := Lib.hid (C13.out.trans (hB14.mono C13.out.size)); have V14 := Lib.hid (V11.out.below C14.out); clear hB14 tk6 _t)
    | (have _t := tk7; go_at_call 43; refine (one_calls _).mono ?_; rintro e w15 ⟨⟨j1, j2, j3, rfl, hO15⟩, hB15⟩; have O15 := Lib.hid hO15; have C15 : Hid (Below w11.heap.size w11 w15) := Lib.hid (C14.out.trans (hB15.mono C14.out.size)); have V15 := Lib.hid (V11.out.below C15.out); clear hB15 hO15 tk7 _t)
    | (go_at_call 43; refine (one_calls _).mono ?_; rintro e w16 ⟨⟨k1, k2, k3, rfl, hO16⟩, hB16⟩; have O16 := Lib.hid hO16; have O156 := Lib.hid (O15.out.below hB16); have C16 : Hid (Below w11.heap.size w11 w16) := Lib.hid (C15.out.trans (hB16.mono C15.out.size)); have V16 := Lib.hid (V11.out.below C16.out); clear hB16 hO16)
    | (go_at_call 21; (first | refine (ls_calls _ O156.out O16.out (by decide) true live_yes).mono ?_ | refine (ls_calls _ O16.out O156.out (by decide) true live_yes).mono ?_); rintro e w17 ⟨rfl, hB17⟩; have C17 : Hid (Below w11.heap.size w11 w17) := Lib.hid (C16.out.trans (hB17.mono C16.out.size)); have V17 := Lib.hid (V11.out.below C17.out); clear hB17))
  all_goals
    go_wp2_with fail
    go_ret
    exact ⟨rfl, B8.out.trans ((C11.out.trans (C17.out.mono C11.out.size)).mono B8.out.size)⟩
end Go.Proofs.YtmfejjlmflgnbaaGreatDoor.Tok

/- CONTRACT: token.Scan of every text: its tokens with their spots, or the first fault. -/
import Derived.Test.YtpecmmicndcgjaaGreatDoorScan
import Derived.Test.YtpecmmicndcgjaaGreatDoorIs
import Derived.RegionTactic
namespace Go.Proofs.YtpecmmicndcgjaaGreatDoor.Tok
open Go.RowKit Go.Proofs.YtpecmmicndcgjaaGreatDoor.PA Go.Proofs.YtpecmmicndcgjaaGreatDoorW.PrintWords Go.Proofs.YtpecmmicndcgjaaGreatDoorW.PrintLast Go.Proofs.YtpecmmicndcgjaaGreatDoor.Sp
set_option linter.unusedVariables false
set_option linter.unusedSimpArgs false
set_option maxRecDepth 100000

theorem scanT_err {t : Bs} {c p : Nat} (h : scanT t = .error (c, p)) : (c = 20 ∨ c = 21 ∨ c = 22 ∨ c = 23 ∨ c = 24) ∧ p ≤ t.length := by
  unfold scanT at h
  split at h
  · simp only [Except.error.injEq, Prod.mk.injEq] at h
    omega
  · have F := fails_of _ _ _ _ _ (Nat.zero_le _) (by omega) h
    have := pre_fail F (Nat.zero_le _)
    exact ⟨this.2.1, this.1⟩
def faultC (c o l k : Int) : Array Value := #[.int .i64 c, .int .i64 o, .int .i64 l, .int .i64 k, .string ⟨#[]⟩]
theorem fault_all (c o l k : Int) : (faultC c o l k).all (·.oneCell') = true := by simp [faultC, Value.oneCell']
theorem as_calls (b tb : Nat) (p c : Int) (w : World) (hG : w.cell? ⟨0, 0, none⟩ = some (.iface 143 (.agg #[.pointer (some ⟨10, 52, none⟩)]))) (ht : w.heap[tb]? = some (.cells #[.pointer none] 55 (0, 0))) :
    Calls Tryz.prog 24 #[.iface 55 (.pointer (some ⟨b, 0, none⟩)), .iface 57 (.pointer (some ⟨tb, 0, none⟩))] w fun e w' => e = .returned (.bool true) ∧ w.grownBy w' (some tb) ∧ w'.heap[tb]? = some (.cells #[.pointer (some ⟨b, 0, none⟩)] 55 (0, 0)) := by
  have hlt := (Array.getElem?_eq_some_iff.1 ht).1
  refine (as_hit ⟨b, 0, none⟩ ⟨tb, 0, none⟩ (.pointer none) w hG ((cell_row ht 0).trans rfl) (frozen_row ht 0)).mono fun e w' ⟨he, hw⟩ => ⟨he, ?_⟩
  have hB : Below w.heap.size w ((((w.alloc (.cells #[.pointer (some ⟨tb, 0, none⟩)] 57)).alloc (.cells #[.pointer (some ⟨10, 57, none⟩), .pointer (some ⟨w.heap.size, 0, none⟩), .int .u64 150] 92)).alloc (.cells #[.pointer (some ⟨10, 57, none⟩), .pointer (some ⟨w.heap.size, 0, none⟩), .int .u64 150] 92)).alloc (.cells #[.pointer (some ⟨b, 0, none⟩)] 55)) :=
    ((((Below.refl _ _).alloc (Nat.le_refl _) _).alloc (by simp) _).alloc (by simp; omega) _).alloc (by simp; omega) _
  generalize ((((w.alloc (.cells #[.pointer (some ⟨tb, 0, none⟩)] 57)).alloc (.cells #[.pointer (some ⟨10, 57, none⟩), .pointer (some ⟨w.heap.size, 0, none⟩), .int .u64 150] 92)).alloc (.cells #[.pointer (some ⟨10, 57, none⟩), .pointer (some ⟨w.heap.size, 0, none⟩), .int .u64 150] 92)).alloc (.cells #[.pointer (some ⟨b, 0, none⟩)] 55)) = W at hB hw
  subst hw
  have h1 : W.heap[tb]? = some (.cells #[.pointer none] 55 (0, 0)) := (hB.block tb hlt).trans ht
  exact ⟨(below_grown hB).trans (setCell_grown W tb 0 _), (setCell_row h1 _).trans rfl⟩
def FScanPost (text : ByteArray) (w : World) (e : Ending) (w' : World) : Prop :=
  Below w.heap.size w w' ∧ match scanT text.data.toList with
    | .ok l => ∃ v, e = .returned (.tuple #[v, .agg (faultC 0 0 0 0)]) ∧ w'.ownsRow w.heap.size 34 7 v l.length (cellsL text.data.toList l)
    | .error (c, p) => e = .returned (.tuple #[.slice none 0 0, .agg (faultC c p ((spotT text.data.toList p).1 : Nat) ((spotT text.data.toList p).2 : Nat))])
/-- The result's block, and one more of the call's own. -/
structure RI (w wr : World) : Prop where
  r : wr.heap[w.heap.size]? = some (.cells (faultC 0 0 0 0) 27 (0, 0))
  lt : w.heap.size < wr.heap.size
  bel : Below w.heap.size w wr
theorem RI.below {w wr w2 : World} (I : RI w wr) (hB : Below wr.heap.size wr w2) : RI w w2 :=
  ⟨(hB.block _ I.lt).trans I.r, Nat.lt_of_lt_of_le I.lt hB.size, I.bel.trans (hB.mono (by have := I.lt; omega))⟩
theorem RI.new (w : World) : RI w (w.alloc (.cells (faultC 0 0 0 0) 27)) :=
  ⟨heap_alloc_new _ _, by simp, (Below.refl _ _).alloc (Nat.le_refl _) _⟩
theorem RI.grown {w wr w2 : World} {g : Nat} (I : RI w wr) (hg : wr.grownBy w2 (some g)) (h : w.heap.size < g) : RI w w2 :=
  ⟨(hg.block _ I.lt (fun e => by injection e with e; omega)).trans I.r, Nat.lt_of_lt_of_le I.lt hg.size, I.bel.trans (below_of_grown hg (by omega) I.bel.size)⟩
set_option maxHeartbeats 8000000 in
theorem fscan_ok (text : ByteArray) (w : World) (hs : text.size ≤ 1048576) (hG : Glob w) (l : List (Tok × Nat)) (hl : scanT text.data.toList = .ok l) :
    Calls Tryz.prog 10 #[.string text] w (FScanPost text w) := by
  have HG := Lib.hid hG
  have HO := Lib.hid hl
  have HSC : Hid (∀ W, Glob W → Calls Tryz.prog 23 #[.string text] W fun e w' => (∃ v, e = .returned (.tuple #[v, .nilIface]) ∧ w'.ownsRow W.heap.size 34 7 v l.length (cellsL text.data.toList l)) ∧ Below W.heap.size W w') := Lib.hid (fun W hW => (scan_calls text W hs hW).mono fun e w' h => by
    unfold ScanPost at h; rw [hl] at h; exact ⟨h.2, h.1⟩)
  clear hG hl
  go_enter Tryz.func10, Tryz.ntmps10
  go_wp2_with (first
    | (refine run_event rfl (.alloc 27) rfl (.pointer (some ⟨w.heap.size, 0, none⟩)) (w.alloc (.cells (faultC 0 0 0 0) 27)) (by kernel_rfl) ?_; intro w0 hw0; have J0 : Hid (RI w w0) := Lib.hid (by rw [hw0]; exact RI.new w); clear hw0)
    | (go_at_call 23; refine (HSC.out _ (HG.out.below J0.out.bel)).mono ?_; rintro e w2 ⟨⟨v, rfl, ho⟩, hB2⟩; have HW := Lib.hid ho; have J2 : Hid (RI w w2) := Lib.hid (J0.out.below hB2); clear ho hB2)
    | ((with_reducible refine gate_store (t := 27) (p := 3) rfl ?_); refine put_event rfl 27 _ _ rfl w.heap.size (faultC 0 0 0 0) rfl rfl 27 (faultC 0 0 0 0) J2.out.r (by kernel_rfl) rfl (fault_all _ _ _ _) w.heap.size (Nat.le_refl _) ?_; intro w3 hblk3 hB3 hs3 ho3; have HB3 := Lib.hid hB3; have HO3 : Hid (w2.grownBy w3 (some w.heap.size)) := Lib.hid ⟨hB3.os, hB3.tape, hB3.output, hB3.size, fun k hk hne => ho3 k (fun e => hne (by rw [e]))⟩; clear hB3 hs3 ho3))
  refine bodyPost_ret (results_list (rs := [.tmp 2, .cell 3 27]) rfl (by simp) (.tmp (.cell w.heap.size 27 (faultC 0 0 0 0) (0, 0) _ rfl hblk3 Tryz.underlying27 rfl (by kernel_rfl) .nil))) rfl ?_
  refine ⟨J2.out.bel.trans HB3.out, ?_⟩
  rw [HO.out]
  refine ⟨v, rfl, own_base_le (HW.out.kept HO3.out ?_) (Nat.le_of_lt J0.out.lt)⟩
  cases hv : v.ownBlock with
  | none => exact .inl rfl
  | some b =>
    refine .inr fun e => ?_
    injection e with e
    have := (HW.out.lt b hv).1
    have := J0.out.lt
    omega
/-- What stands in the loop over the codes. -/
structure FL (w : World) (b fb sb : Nat) (c p l k : Int) (j : Nat) (wr : World) : Prop where
  ri : RI w wr
  f : wr.heap[fb]? = some (.cells (faultC (if c < 20 + (j : Int) then c else 0) p l k) 27 (0, 0))
  s : wr.heap[sb]? = some (.cells #[.int .i64 20, .int .i64 21, .int .i64 22, .int .i64 23, .int .i64 24] 23 (0, 0))
  e : WrongAt wr b p c
  hw : w.heap.size < fb
  hb : fb ≠ b
  hs : fb ≠ sb
theorem FL.same {w : World} {b fb sb : Nat} {c p l k : Int} {j : Nat} {wr : World} (I : FL w b fb sb c p l k j wr) (h : ¬ c = 20 + (j : Int)) : FL w b fb sb c p l k (j + 1) wr := by
  refine { I with f := ?_ }
  rw [I.f]
  congr 3
  by_cases h1 : c < 20 + (j : Int)
  · rw [if_pos h1, if_pos (by omega)]
  · rw [if_neg h1, if_neg (by omega)]
theorem FL.hit {w : World} {b fb sb : Nat} {c p l k : Int} {j : Nat} {wr w2 : World} (I : FL w b fb sb c p l k j wr) (q : Int) (hq : q = 20 + (j : Int)) (h : c = 20 + (j : Int)) (hw2 : w2 = wr.setCells fb 0 [.int .i64 q]) : FL w b fb sb c p l k (j + 1) w2 := by
  have hg : wr.grownBy w2 (some fb) := set_grown hw2
  have hrow : w2.heap[fb]? = some (.cells (faultC q p l k) 27 (0, 0)) := by rw [hw2]; exact (setCell_row I.f _).trans rfl
  refine ⟨I.ri.grown hg I.hw, ?_, (hg.block sb (Array.getElem?_eq_some_iff.1 I.s).1 (fun e => by injection e with e; exact I.hs e.symm)).trans I.s, (hg.block b (Array.getElem?_eq_some_iff.1 I.e).1 (fun e => by injection e with e; exact I.hb e.symm)).trans I.e, I.hw, I.hb, I.hs⟩
  rw [hrow, if_pos (by omega), hq, h]
theorem put5 {w4 : World} {g : Nat} (h : w4.heap[g]? = some (.cells (faultC 0 0 0 0) 27 (0, 0))) (c o l k : Int) {w5 : World}
    (hw : w5 = (((((w4.setCell ⟨g, 0, none⟩ (.int .i64 c)).setCell ⟨g, 1, none⟩ (.int .i64 o)).setCell ⟨g, 2, none⟩ (.int .i64 l)).setCell ⟨g, 3, none⟩ (.int .i64 k)).setCell ⟨g, 4, none⟩ (.string ⟨#[]⟩)).drew) :
    w5.heap[g]? = some (.cells (faultC c o l k) 27 (0, 0)) ∧ w4.grownBy w5 (some g) := by
  subst hw
  have g0 := setCell_grown w4 g 0 (.int .i64 c)
  have h0 : (w4.setCell ⟨g, 0, none⟩ (.int .i64 c)).heap[g]? = some (.cells #[.int .i64 c, .int .i64 0, .int .i64 0, .int .i64 0, .string ⟨#[]⟩] 27 (0, 0)) := setCell_row h _
  generalize w4.setCell ⟨g, 0, none⟩ (.int .i64 c) = x0 at g0 h0 ⊢
  have g1 := setCell_grown x0 g 1 (.int .i64 o)
  have h1 : (x0.setCell ⟨g, 1, none⟩ (.int .i64 o)).heap[g]? = some (.cells #[.int .i64 c, .int .i64 o, .int .i64 0, .int .i64 0, .string ⟨#[]⟩] 27 (0, 0)) := setCell_row h0 _
  generalize x0.setCell ⟨g, 1, none⟩ (.int .i64 o) = x1 at g1 h1 ⊢
  have g2 := setCell_grown x1 g 2 (.int .i64 l)
  have h2 : (x1.setCell ⟨g, 2, none⟩ (.int .i64 l)).heap[g]? = some (.cells #[.int .i64 c, .int .i64 o, .int .i64 l, .int .i64 0, .string ⟨#[]⟩] 27 (0, 0)) := setCell_row h1 _
  generalize x1.setCell ⟨g, 2, none⟩ (.int .i64 l) = x2 at g2 h2 ⊢
  have g3 := setCell_grown x2 g 3 (.int .i64 k)
  have h3 : (x2.setCell ⟨g, 3, none⟩ (.int .i64 k)).heap[g]? = some (.cells #[.int .i64 c, .int .i64 o, .int .i64 l, .int .i64 k, .string ⟨#[]⟩] 27 (0, 0)) := setCell_row h2 _
  generalize x2.setCell ⟨g, 3, none⟩ (.int .i64 k) = x3 at g3 h3 ⊢
  have g4 := setCell_grown x3 g 4 (.string ⟨#[]⟩)
  have h4 : (x3.setCell ⟨g, 4, none⟩ (.string ⟨#[]⟩)).heap[g]? = some (.cells #[.int .i64 c, .int .i64 o, .int .i64 l, .int .i64 k, .string ⟨#[]⟩] 27 (0, 0)) := setCell_row h3 _
  generalize x3.setCell ⟨g, 4, none⟩ (.string ⟨#[]⟩) = x4 at g4 h4 ⊢
  exact ⟨h4, ((((g0.trans g1).trans g2).trans g3).trans g4).trans (below_grown (below_dN (Below.refl _ _) 1))⟩
set_option maxHeartbeats 16000000 in
theorem fscan_bad (text : ByteArray) (w : World) (hs : text.size ≤ 1048576) (hG : Glob w) (c p : Nat) (hl : scanT text.data.toList = .error (c, p)) :
    Calls Tryz.prog 10 #[.string text] w (FScanPost text w) := by
  have HG := Lib.hid hG
  have HO := Lib.hid hl
  obtain ⟨hc, hp⟩ := scanT_err hl
  rw [size_len] at hp
  have HC := Lib.hid hc
  have HSC : Hid (∀ W, Glob W → Calls Tryz.prog 23 #[.string text] W fun e w' => (∃ b, e = .returned (.tuple #[.slice none 0 0, .iface 55 (.pointer (some ⟨b, 0, none⟩))]) ∧ W.heap.size ≤ b ∧ WrongAt w' b p c) ∧ Below W.heap.size W w') := Lib.hid (fun W hW => (scan_calls text W hs hW).mono fun e w' h => by
    unfold ScanPost at h; rw [hl] at h; obtain ⟨h1, b, h2, h3, h4, _⟩ := h; exact ⟨⟨b, h2, h3, h4⟩, h1⟩)
  have HAT : Hid (∀ W, Calls Tryz.prog 19 #[.string text, .int .i64 (p : Int)] W fun e w' => e = .returned (.agg #[.int .i64 (p : Int), .int .i64 ((spotT text.data.toList p).1 : Nat), .int .i64 ((spotT text.data.toList p).2 : Nat)]) ∧ Below W.heap.size W w') := Lib.hid (fun W => by
    have h := at_calls2 text (p : Int) W (by omega)
    have e : clampT (p : Int) text.size = p := by unfold clampT; omega
    rw [e] at h; exact h)
  clear hG hl hc
  obtain ⟨ln, hln⟩ : ∃ ln : Int, ln = ((spotT text.data.toList p).1 : Nat) := ⟨_, rfl⟩
  obtain ⟨cl, hcl⟩ : ∃ cl : Int, cl = ((spotT text.data.toList p).2 : Nat) := ⟨_, rfl⟩
  rw [← hln, ← hcl] at HAT
  have HLN := Lib.hid hln
  have HCL := Lib.hid hcl
  clear hln hcl
  have tok1 : True := trivial
  go_enter Tryz.func10, Tryz.ntmps10
  go_wp2_with (first
    | (have _t := tok1; refine run_event rfl (.alloc 27) rfl (.pointer (some ⟨w.heap.size, 0, none⟩)) (w.alloc (.cells (faultC 0 0 0 0) 27)) (by kernel_rfl) ?_; intro w0 hw0; have J0 : Hid (RI w w0) := Lib.hid (by rw [hw0]; exact RI.new w); clear hw0 tok1 _t)
    | (go_at_call 23; refine (HSC.out _ (HG.out.below J0.out.bel)).mono ?_; rintro e w2 ⟨⟨b, rfl, hb1, hb2⟩, hB2⟩; have HB := Lib.hid hb1; have HW2 := Lib.hid hb2; have J2 : Hid (RI w w2) := Lib.hid (J0.out.below hB2); clear hb1 hb2 hB2)
    | (refine run_event rfl (.alloc 55) rfl (.pointer (some ⟨w2.heap.size, 0, none⟩)) (w2.alloc (.cells #[.pointer none] 55)) (by kernel_rfl) ?_; intro w3 hw3; have B3 : Hid (Below w2.heap.size w2 w3) := Lib.hid (by rw [hw3]; exact alloc_below _ _); have G3 : Hid (w3.heap[w2.heap.size]? = some (.cells #[.pointer none] 55 (0, 0))) := Lib.hid (by rw [hw3]; exact heap_alloc_new _ _); clear hw3)
    | (go_at_call 24; refine (as_calls b w2.heap.size p c w3 (HG.out.below (J2.out.below B3.out).bel).errt G3.out).mono ?_; rintro e w4 ⟨rfl, hg4, hc4⟩; have J4 : Hid (RI w w4) := Lib.hid ((J2.out.below B3.out).grown hg4 J2.out.lt); have W4 : Hid (WrongAt w4 b p c) := Lib.hid ((hg4.block b (Array.getElem?_eq_some_iff.1 ((B3.out.block b (Array.getElem?_eq_some_iff.1 HW2.out).1).trans HW2.out)).1 (fun e => by injection e with e; have := (Array.getElem?_eq_some_iff.1 HW2.out).1; omega)).trans ((B3.out.block b (Array.getElem?_eq_some_iff.1 HW2.out).1).trans HW2.out)); have y0 : w4.cell? ⟨w2.heap.size, 0, none⟩ = some (.pointer (some ⟨b, 0, none⟩)) := (cell_row hc4 0).trans rfl; have y1 : w4.cell? ⟨b, 0, none⟩ = some (.int .i64 (p : Int)) := (cell_row W4.out 0).trans rfl; clear hg4 hc4)
    | (go_at_call 19; refine (HAT.out _).mono ?_; rintro e w5 ⟨rfl, hB5⟩; have J5 : Hid (RI w w5) := Lib.hid (J4.out.below hB5); have W5 : Hid (WrongAt w5 b p c) := Lib.hid ((hB5.block b (Array.getElem?_eq_some_iff.1 W4.out).1).trans W4.out); clear hB5 y0 y1)
    | (refine run_event rfl (.alloc 27) rfl (.pointer (some ⟨w5.heap.size, 0, none⟩)) (w5.alloc (.cells (faultC 0 0 0 0) 27)) (by kernel_rfl) ?_; intro w6 hw6; have B6 : Hid (Below w5.heap.size w5 w6) := Lib.hid (by rw [hw6]; exact alloc_below _ _); have G6 : Hid (w6.heap[w5.heap.size]? = some (.cells (faultC 0 0 0 0) 27 (0, 0))) := Lib.hid (by rw [hw6]; exact heap_alloc_new _ _); clear hw6)
    | ((with_reducible refine gate_store (t := 27) (p := 7) rfl ?_); refine put_event rfl 27 _ _ rfl w5.heap.size (faultC 0 p ln cl) rfl rfl 27 (faultC 0 0 0 0) G6.out (by kernel_rfl) rfl (fault_all _ _ _ _) w5.heap.size (Nat.le_refl _) ?_; intro w7 hb7 hB7 hs7 ho7; have G7 := Lib.hid hb7; have B7 : Hid (Below w5.heap.size w5 w7) := Lib.hid (B6.out.trans hB7); clear hb7 hB7 hs7 ho7)
    | (refine run_event rfl (.buildSlice 60 5 _) rfl (.slice (some ⟨w7.heap.size, 0, none⟩) 5 5) (w7.alloc (.cells #[.int .i64 20, .int .i64 21, .int .i64 22, .int .i64 23, .int .i64 24] 23)) (by kernel_rfl) ?_; intro w8 hw8; have G8 : Hid (w8.heap[w7.heap.size]? = some (.cells #[.int .i64 20, .int .i64 21, .int .i64 22, .int .i64 23, .int .i64 24] 23 (0, 0))) := Lib.hid (by rw [hw8]; exact heap_alloc_new _ _); have B8 : Hid (Below w7.heap.size w7 w8) := Lib.hid (by rw [hw8]; exact alloc_below _ _); clear hw8))
  have hF0 : Hid (FL w b w5.heap.size w7.heap.size c p ln cl 0 w8) := Lib.hid (by
    have hb5 := (Array.getElem?_eq_some_iff.1 W5.out).1
    have h7 := (Array.getElem?_eq_some_iff.1 G7.out).1
    refine ⟨(J5.out.below B7.out).below B8.out, ?_, G8.out, (B8.out.block b (Nat.lt_of_lt_of_le hb5 B7.out.size)).trans ((B7.out.block b hb5).trans W5.out), J5.out.lt, by omega, by omega⟩
    rw [(B8.out.block _ h7), G7.out, if_neg (by have := HC.out; omega)])
  go_loopw [33] (fun v wr => ∃ j : Nat, v = .int .i64 (j : Int) ∧ j ≤ 5 ∧ Hid (FL w b w5.heap.size w7.heap.size c p ln cl j wr)) (fun v _ => 5 - (intOf v).toNat)
  case atStart => exact ⟨0, by go_num, by omega, hF0⟩
  case round =>
    obtain ⟨j, rfl, hj, I⟩ := hrel
    by_cases hlt : j < 5
    · obtain ⟨q, hq, hq2⟩ : ∃ q : Int, Hid (q = 20 + (j : Int)) ∧ wr.cell? ⟨w7.heap.size, j, none⟩ = some (.int .i64 q) := by
        refine ⟨20 + (j : Int), Lib.hid rfl, ?_⟩
        have hj5 : j = 0 ∨ j = 1 ∨ j = 2 ∨ j = 3 ∨ j = 4 := by omega
        rcases hj5 with rfl | rfl | rfl | rfl | rfl <;> exact (cell_row I.out.s _).trans rfl
      have hwr : wr.cell? ⟨b, 1, none⟩ = some (.iface 62 (.int .i64 (c : Int))) := (cell_row I.out.e 1).trans rfl
      have HWR := Lib.hid hwr
      clear hwr
      by_cases hcq : (c : Int) = 20 + (j : Int)
      · have HCQ := Lib.hid hcq
        have HR : Hid (((c : Int) == q) = true) := Lib.hid (by rw [hq.out, hcq]; simp)
        clear hcq
        go_wp2_with (first
          | (go_at_call 25; refine (is_calls b _ (c : Int) _ HWR.out true HR.out).mono ?_; rintro e w9 ⟨rfl, rfl⟩)
          | ((with_reducible refine gate_store (t := 23) (p := 42) rfl ?_); refine cell_event rfl 23 _ _ rfl w5.heap.size 0 (.int .i64 q) rfl rfl rfl (there_row (by simp [faultC]) I.out.f) (by kernel_rfl) w5.heap.size (Nat.le_refl _) ?_; intro w9 hw9 hB9 hs9; have I9 := Lib.hid (I.out.hit q hq.out HCQ.out hw9); clear hw9 hB9 hs9))
        go_roundw
        case rel => exact ⟨j + 1, by go_num, by omega, I9⟩
        case measure => simp [intOf]; omega
      · have HCQ := Lib.hid hcq
        have HR : Hid (((c : Int) == q) = false) := Lib.hid (by rw [hq.out, beq_eq_false_iff_ne]; exact hcq)
        have I9 := Lib.hid (I.out.same hcq)
        clear hcq
        go_wp2_with (first
          | (go_at_call 25; refine (is_calls b _ (c : Int) _ HWR.out false HR.out).mono ?_; rintro e w9 ⟨rfl, rfl⟩))
        go_roundw
        case rel => exact ⟨j + 1, by go_num, by omega, I9⟩
        case measure => simp [intOf]; omega
    · obtain rfl : j = 5 := by omega
      have hF : Hid (wr.heap[w5.heap.size]? = some (.cells (faultC c p ln cl) 27 (0, 0))) := Lib.hid (by
        rw [I.out.f, if_pos (by have := HC.out; omega)])
      have y0 : wr.cell? ⟨w5.heap.size, 0, none⟩ = some (.int .i64 (c : Int)) := (cell_row hF.out 0).trans rfl
      have y1 : wr.cell? ⟨w5.heap.size, 1, none⟩ = some (.int .i64 (p : Int)) := (cell_row hF.out 1).trans rfl
      have y2 : wr.cell? ⟨w5.heap.size, 2, none⟩ = some (.int .i64 ln) := (cell_row hF.out 2).trans rfl
      have y3 : wr.cell? ⟨w5.heap.size, 3, none⟩ = some (.int .i64 cl) := (cell_row hF.out 3).trans rfl
      have y4 : wr.cell? ⟨w5.heap.size, 4, none⟩ = some (.string ⟨#[]⟩) := (cell_row hF.out 4).trans rfl
      have z0 : wr.cell? ⟨w.heap.size, 0, none⟩ = some (.int .i64 0) := (cell_row I.out.ri.r 0).trans rfl
      have z1 : wr.cell? ⟨w.heap.size, 1, none⟩ = some (.int .i64 0) := (cell_row I.out.ri.r 1).trans rfl
      have z2 : wr.cell? ⟨w.heap.size, 2, none⟩ = some (.int .i64 0) := (cell_row I.out.ri.r 2).trans rfl
      have z3 : wr.cell? ⟨w.heap.size, 3, none⟩ = some (.int .i64 0) := (cell_row I.out.ri.r 3).trans rfl
      have z4 : wr.cell? ⟨w.heap.size, 4, none⟩ = some (.string ⟨#[]⟩) := (cell_row I.out.ri.r 4).trans rfl
      have f0 : ∀ k, wr.frozen? ⟨w.heap.size, k, none⟩ = false := fun k => frozen_row I.out.ri.r k
      go_wp2_with fail
      go_region
      clear y0 y1 y2 y3 y4 z0 z1 z2 z3 z4 f0
      obtain ⟨wx, hwx⟩ : ∃ wx : World, wx = (((((wr.setCell ⟨w.heap.size, 0, none⟩ (.int .i64 (c : Int))).setCell ⟨w.heap.size, 1, none⟩ (.int .i64 (p : Int))).setCell ⟨w.heap.size, 2, none⟩ (.int .i64 ln)).setCell ⟨w.heap.size, 3, none⟩ (.int .i64 cl)).setCell ⟨w.heap.size, 4, none⟩ (.string ⟨#[]⟩)).drew := ⟨_, rfl⟩
      rw [← hwx]
      obtain ⟨hblkx, hgx⟩ := put5 I.out.ri.r c p ln cl hwx
      clear hwx
      go_wp2_with fail
      refine bodyPost_ret (results_list (rs := [.tmp 2, .cell 3 27]) rfl (by simp) (.tmp (.cell w.heap.size 27 (faultC c p ln cl) (0, 0) _ rfl hblkx Tryz.underlying27 rfl (by kernel_rfl) .nil))) rfl ?_
      refine ⟨I.out.ri.bel.trans (below_of_grown hgx (Nat.le_refl _) (Nat.le_of_lt I.out.ri.lt)), ?_⟩
      rw [HO.out]
      show _ = _
      rw [← HLN.out, ← HCL.out]
      rfl
theorem fscan_calls (text : ByteArray) (w : World) (hs : text.size ≤ 1048576) (hG : Glob w) : Calls Tryz.prog 10 #[.string text] w (FScanPost text w) := by
  cases h : scanT text.data.toList with
  | ok l => exact fscan_ok text w hs hG l h
  | error cp => obtain ⟨c, p⟩ := cp; exact fscan_bad text w hs hG c p h
end Go.Proofs.YtpecmmicndcgjaaGreatDoor.Tok

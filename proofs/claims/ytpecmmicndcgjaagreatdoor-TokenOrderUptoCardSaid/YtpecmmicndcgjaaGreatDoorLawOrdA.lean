/- THE LAWS' WALKS: TokenOrder where the text has a fault. -/
import Derived.Test.YtpecmmicndcgjaaGreatDoorLive
import Derived.Test.YtpecmmicndcgjaaGreatDoorNumP
import Derived.Test.YtpecmmicndcgjaaGreatDoorSpotEq
import Derived.BigQuiet
import Derived.Deep.RegionHeld3
namespace Go.Proofs.YtpecmmicndcgjaaGreatDoor.Tok
open Go.RowKit Go.Proofs.YtpecmmicndcgjaaGreatDoor.PA Go.Proofs.YtpecmmicndcgjaaGreatDoorW.PrintWords Go.Proofs.YtpecmmicndcgjaaGreatDoorW.PrintLast Go.Proofs.YtpecmmicndcgjaaGreatDoor.Sp
set_option linter.unusedVariables false
set_option linter.unusedSimpArgs false
set_option maxRecDepth 100000

theorem take_scan {t : Bs} {c p : Nat} (h : scanT t = .error (c, p)) : p ≤ t.length ∧ c ≠ 0 ∧ (t.length ≤ 262144 → c ≠ 22 → ∃ L, scanT (t.take p) = .ok L) := by
  unfold scanT at h
  split at h
  · cases h
    exact ⟨by omega, by omega, fun h1 => by omega⟩
  · rename_i hn
    have hf := fails_of _ t 0 c p (Nat.zero_le _) (by first | omega | (simp; omega)) h
    obtain ⟨h1, h2, h3, h4⟩ := pre_fail hf (Nat.zero_le _)
    refine ⟨h1, by omega, fun _ h5 => ?_⟩
    obtain ⟨L, hL⟩ := h4 h5
    exact ⟨L, scanT_of hL (by rw [List.length_take]; omega)⟩
theorem scan_any (text : ByteArray) (W : World) (hs : text.size ≤ 1048576) (hG : Glob W) : Calls Tryz.prog 10 #[.string text] W fun e w' => (∃ v gc gp gl gk, e = .returned (.tuple #[v, .agg #[.int .i64 gc, .int .i64 gp, .int .i64 gl, .int .i64 gk, .string ⟨#[]⟩]]) ∧ ((∃ L, scanT text.data.toList = .ok L) → gc = 0)) ∧ Below W.heap.size W w' :=
  (fscan_calls text W hs hG).mono fun e w' h => by
    unfold FScanPost at h
    obtain ⟨hB, h⟩ := h
    refine ⟨?_, hB⟩
    cases hl : scanT text.data.toList with
    | ok L =>
      rw [hl] at h
      obtain ⟨v, he, _⟩ := h
      exact ⟨v, 0, 0, 0, 0, he, fun _ => rfl⟩
    | error cp =>
      obtain ⟨c, p⟩ := cp
      rw [hl] at h
      exact ⟨_, _, _, _, _, h, fun ⟨L, hL⟩ => by cases hL⟩
set_option maxHeartbeats 8000000 in
theorem law_order_bad (text : ByteArray) (w : World) (hs : text.size ≤ 1048576) (hG : Glob w) (c p : Nat) (hl : scanT text.data.toList = .error (c, p)) :
    Calls Tryz.prog 9 #[.string text] w fun e w' => e = .returned (.bool true) ∧ Below w.heap.size w w' := by
  have HG := Lib.hid hG
  obtain ⟨hp, hc0, htk⟩ := take_scan hl
  have hlen : text.data.toList.length = text.size := by rw [Array.length_toList]; rfl
  rw [hlen] at hp htk
  have HS0 : Hid (∀ W, Glob W → Calls Tryz.prog 10 #[.string text] W fun e w' => e = .returned (.tuple #[.slice none 0 0, .agg (faultC c p ((spotT text.data.toList p).1 : Nat) ((spotT text.data.toList p).2 : Nat))]) ∧ Below W.heap.size W w') := Lib.hid (fun W hW => (fscan_calls text W hs hW).mono fun e w' h => by
    unfold FScanPost at h
    rw [hl] at h
    exact ⟨h.2, h.1⟩)
  have HAT : Hid (∀ W, Calls Tryz.prog 19 #[.string text, .int .i64 (p : Int)] W fun e w' => e = .returned (.agg #[.int .i64 (p : Int), .int .i64 ((spotT text.data.toList p).1 : Nat), .int .i64 ((spotT text.data.toList p).2 : Nat)]) ∧ Below W.heap.size W w') := Lib.hid (fun W => by
    have h := at_calls2 text (p : Int) W (by omega)
    have e : clampT (p : Int) text.size = p := by unfold clampT; omega
    rw [e] at h; exact h)
  have hx : (text.extract 0 p).data.toList = text.data.toList.take p := by simp
  have hxs : (text.extract 0 p).size ≤ 1048576 := by simp [ByteArray.size_extract]; omega
  have HS2 : Hid (∀ W, Glob W → Calls Tryz.prog 10 #[.string (text.extract 0 p)] W fun e w' => (∃ v gc gp gl gk, e = .returned (.tuple #[v, .agg #[.int .i64 gc, .int .i64 gp, .int .i64 gl, .int .i64 gk, .string ⟨#[]⟩]]) ∧ (text.size ≤ 262144 → c ≠ 22 → gc = 0)) ∧ Below W.heap.size W w') := Lib.hid (fun W hW => (scan_any (text.extract 0 p) W hxs hW).mono fun e w' ⟨⟨v, gc, gp, gl, gk, he, hi⟩, hB⟩ => ⟨⟨v, gc, gp, gl, gk, he, fun h1 h2 => hi (by rw [hx]; exact htk h1 h2)⟩, hB⟩)
  clear hG hl htk hx hxs hs hlen
  generalize (((spotT text.data.toList p).1 : Nat) : Int) = ln at HS0 HAT
  generalize (((spotT text.data.toList p).2 : Nat) : Int) = cl at HS0 HAT
  have HS1 : Hid (∀ W, Glob W → Calls Tryz.prog 10 #[.string text] W fun e w' => e = .returned (.tuple #[.slice none 0 0, .agg #[.int .i64 (c : Int), .int .i64 (p : Int), .int .i64 ln, .int .i64 cl, .string ⟨#[]⟩]]) ∧ Below W.heap.size W w') := HS0
  clear HS0
  have dc : ((c : Int) != 0) = true := by simp; omega
  have dp : decide ((text.size : Int) < (p : Int)) = false := decide_eq_false (by omega)
  have dpn : decide (text.size < p) = false := decide_eq_false (by omega)
  have HP := Lib.hid hp
  have hcut : ∀ W : World, (Instr.slice 9 (.string text) none (some (.int .i64 (p : Int))) none).run Tryz.prog W = .ok (.string (text.extract 0 p)) W := fun W => by
    have h := run_slice_string_h (P := Tryz.prog) (w := W) (t := 9) (s := text) Tryz.underlying9 .i64 (p : Int) (by omega) (by omega)
    simpa using h
  clear hc0 hp

  have hgt : ∀ W, (binOp .gtr 3 (.int .i64 (p : Int)) (.int .i64 (text.size : Int))).run Tryz.prog W = .ok (.bool false) W := fun W => int_gtr _ _ (by have := HP.out; omega) W
  have hne : ∀ W, (binOp .neq 25 (.agg #[.int .i64 (p : Int), .int .i64 ln, .int .i64 cl]) (.agg #[.int .i64 (p : Int), .int .i64 ln, .int .i64 cl])).run Tryz.prog W = .ok (.bool false) W := fun W => spot_neq _ _ _ W
  by_cases hbig : text.size ≤ 262144
  · have db : decide ((text.size : Int) ≤ 262144) = true := decide_eq_true (by omega)
    have dbn : decide (text.size ≤ 262144) = true := decide_eq_true (by omega)
    have hle : ∀ W, (binOp .leq 3 (.int .i64 (text.size : Int)) (.int .i64 262144)).run Tryz.prog W = .ok (.bool true) W := fun W => int_leq _ _ (by omega) W
    have db2 : decide ((262144 : Int) < (text.size : Int)) = false := decide_eq_false (by omega)
    go_enter Tryz.func9, Tryz.ntmps9
    go_wp2_with fail
    refine (HS1.out _ HG.out).mono ?_
    rintro e w1 ⟨rfl, hB1⟩
    have B1 := Lib.hid hB1
    clear hB1
    go_wp2_with (first
      | (refine run_event rfl (.alloc 27) rfl (.pointer (some ⟨w1.heap.size, 0, none⟩)) (w1.alloc (.cells (faultC 0 0 0 0) 27)) (by kernel_rfl) ?_; intro w2 hw2; have B2 : Hid (Below w1.heap.size w1 w2) := Lib.hid (by rw [hw2]; exact alloc_below _ _); have G2 : Hid (w2.heap[w1.heap.size]? = some (.cells (faultC 0 0 0 0) 27 (0, 0))) := Lib.hid (by rw [hw2]; exact heap_alloc_new _ _); clear hw2)
      | ((with_reducible refine gate_store (t := 27) (p := 4) rfl ?_); refine put_event rfl 27 _ _ rfl w1.heap.size (faultC c p ln cl) rfl rfl 27 (faultC 0 0 0 0) G2.out (by kernel_rfl) rfl (fault_all _ _ _ _) w1.heap.size (Nat.le_refl _) ?_; intro w3 hb3 hB3 hs3 ho3; have G3 := Lib.hid hb3; have B3 : Hid (Below w.heap.size w w3) := Lib.hid (B1.out.trans ((B2.out.trans hB3).mono B1.out.size)); obtain ⟨y0, y1, y2, y3, y4⟩ := cells_fault hb3; clear hb3 hB3 hs3 ho3))
    go_region_held3 (fun W => W.cell? ⟨w1.heap.size, 0, none⟩ = some (.int .i64 (c : Int)) ∧ W.cell? ⟨w1.heap.size, 1, none⟩ = some (.int .i64 (p : Int)) ∧ W.cell? ⟨w1.heap.size, 2, none⟩ = some (.int .i64 ln) ∧ W.cell? ⟨w1.heap.size, 3, none⟩ = some (.int .i64 cl) ∧ W.cell? ⟨w1.heap.size, 4, none⟩ = some (.string ⟨#[]⟩)) (first | exact ⟨y0, y1, y2, y3, y4⟩ | exact ⟨z0, z1, z2, z3, z4⟩ | assumption) (first
      | (go_at_call 19; refine (HAT.out _).mono ?_; rintro e wt ⟨rfl, hBt⟩; have gt : wt.heap[w1.heap.size]? = some (.cells (faultC c p ln cl) 27 (0, 0)) := (hBt.block _ (Array.getElem?_eq_some_iff.1 G3.out).1).trans G3.out; obtain ⟨z0, z1, z2, z3, z4⟩ := cells_fault gt; have Gt := Lib.hid gt; have Bt := Lib.hid (B3.out.drew.trans (hBt.mono B3.out.drew.size)); clear hBt gt))
    go_wp2_with fail
    refine (HS2.out _ (HG.out.below Bt.out)).mono ?_
    rintro e w4 ⟨⟨v2, gc, gp, gl, gk, rfl, hg⟩, hB4⟩
    have G4 : Hid (w4.heap[w1.heap.size]? = some (.cells (faultC c p ln cl) 27 (0, 0))) := Lib.hid ((hB4.block _ (Array.getElem?_eq_some_iff.1 Gt.out).1).trans Gt.out)
    have B4 : Hid (Below w.heap.size w w4) := Lib.hid (Bt.out.trans (hB4.mono Bt.out.size))
    clear hB4
    by_cases g0 : gc = 0
    · subst g0
      clear hg
      go_wp2_with (first
        | (refine run_event rfl (.alloc 27) rfl (.pointer (some ⟨w4.heap.size, 0, none⟩)) (w4.alloc (.cells (faultC 0 0 0 0) 27)) (by kernel_rfl) ?_; intro w5 hw5; have B5 : Hid (Below w4.heap.size w4 w5) := Lib.hid (by rw [hw5]; exact alloc_below _ _); have G5 : Hid (w5.heap[w4.heap.size]? = some (.cells (faultC 0 0 0 0) 27 (0, 0))) := Lib.hid (by rw [hw5]; exact heap_alloc_new _ _); clear hw5)
        | ((with_reducible refine gate_store (t := 27) (p := 6) rfl ?_); refine put_event rfl 27 _ _ rfl w4.heap.size (faultC 0 gp gl gk) rfl rfl 27 (faultC 0 0 0 0) G5.out (by kernel_rfl) rfl (fault_all _ _ _ _) w4.heap.size (Nat.le_refl _) ?_; intro w6 hb6 hB6 hs6 ho6; have B6 : Hid (Below w4.heap.size w4 w6) := Lib.hid (B5.out.trans hB6); have BA : Hid (Below w.heap.size w w6) := Lib.hid (B4.out.trans (B6.out.mono B4.out.size)); obtain ⟨a0, a1, a2, a3, a4⟩ := cells_fault hb6; obtain ⟨b0, b1, b2, b3, b4⟩ := cells_fault ((B6.out.block _ (Array.getElem?_eq_some_iff.1 G4.out).1).trans G4.out); clear hb6 hB6 hs6 ho6)
        | (go_at_call 16; refine (num_pure _ _).mono ?_; rintro e w7 ⟨rfl, rfl⟩)
        | (go_at_call 13; refine (alive_calls _ (HG.out.below BA.out)).mono ?_; rintro e w8 ⟨rfl, hB8⟩; have B8 := Lib.hid (BA.out.trans (hB8.mono BA.out.size)); clear hB8))
      go_ret
      exact ⟨rfl, B8.out⟩
    · have dg : (gc == 0) = false := by simp [g0]
      by_cases c22 : c = 22
      · subst c22
        clear hg g0
        go_wp2_with (first
          | (refine run_event rfl (.alloc 27) rfl (.pointer (some ⟨w4.heap.size, 0, none⟩)) (w4.alloc (.cells (faultC 0 0 0 0) 27)) (by kernel_rfl) ?_; intro w5 hw5; have B5 : Hid (Below w4.heap.size w4 w5) := Lib.hid (by rw [hw5]; exact alloc_below _ _); have G5 : Hid (w5.heap[w4.heap.size]? = some (.cells (faultC 0 0 0 0) 27 (0, 0))) := Lib.hid (by rw [hw5]; exact heap_alloc_new _ _); clear hw5)
          | ((with_reducible refine gate_store (t := 27) (p := 6) rfl ?_); refine put_event rfl 27 _ _ rfl w4.heap.size (faultC gc gp gl gk) rfl rfl 27 (faultC 0 0 0 0) G5.out (by kernel_rfl) rfl (fault_all _ _ _ _) w4.heap.size (Nat.le_refl _) ?_; intro w6 hb6 hB6 hs6 ho6; have B6 : Hid (Below w4.heap.size w4 w6) := Lib.hid (B5.out.trans hB6); have BA : Hid (Below w.heap.size w w6) := Lib.hid (B4.out.trans (B6.out.mono B4.out.size)); obtain ⟨a0, a1, a2, a3, a4⟩ := cells_fault hb6; obtain ⟨b0, b1, b2, b3, b4⟩ := cells_fault ((B6.out.block _ (Array.getElem?_eq_some_iff.1 G4.out).1).trans G4.out); clear hb6 hB6 hs6 ho6)
          | (go_at_call 16; refine (num_pure _ _).mono ?_; rintro e w7 ⟨rfl, rfl⟩)
          | (go_at_call 13; refine (alive_calls _ (HG.out.below BA.out)).mono ?_; rintro e w8 ⟨rfl, hB8⟩; have B8 := Lib.hid (BA.out.trans (hB8.mono BA.out.size)); clear hB8))
        go_ret
        exact ⟨rfl, B8.out⟩
      · exact absurd (hg hbig c22) g0

  · have db : decide ((text.size : Int) ≤ 262144) = false := decide_eq_false (by omega)
    have dbn : decide (text.size ≤ 262144) = false := decide_eq_false (by omega)
    have db2 : decide ((262144 : Int) < (text.size : Int)) = true := decide_eq_true (by omega)
    go_enter Tryz.func9, Tryz.ntmps9
    go_wp2_with fail
    refine (HS1.out _ HG.out).mono ?_
    rintro e w1 ⟨rfl, hB1⟩
    have B1 := Lib.hid hB1
    clear hB1
    go_wp2_with (first
      | (refine run_event rfl (.alloc 27) rfl (.pointer (some ⟨w1.heap.size, 0, none⟩)) (w1.alloc (.cells (faultC 0 0 0 0) 27)) (by kernel_rfl) ?_; intro w2 hw2; have B2 : Hid (Below w1.heap.size w1 w2) := Lib.hid (by rw [hw2]; exact alloc_below _ _); have G2 : Hid (w2.heap[w1.heap.size]? = some (.cells (faultC 0 0 0 0) 27 (0, 0))) := Lib.hid (by rw [hw2]; exact heap_alloc_new _ _); clear hw2)
      | ((with_reducible refine gate_store (t := 27) (p := 4) rfl ?_); refine put_event rfl 27 _ _ rfl w1.heap.size (faultC c p ln cl) rfl rfl 27 (faultC 0 0 0 0) G2.out (by kernel_rfl) rfl (fault_all _ _ _ _) w1.heap.size (Nat.le_refl _) ?_; intro w3 hb3 hB3 hs3 ho3; have G3 := Lib.hid hb3; have B3 : Hid (Below w.heap.size w w3) := Lib.hid (B1.out.trans ((B2.out.trans hB3).mono B1.out.size)); obtain ⟨y0, y1, y2, y3, y4⟩ := cells_fault hb3; clear hb3 hB3 hs3 ho3))
    go_quiet (fail)
    go_wp2_with fail
    refine (HS2.out _ (HG.out.below (B3.out.trans ((below_dN (Below.refl _ _) _).mono B3.out.size)))).mono ?_
    rintro e w4 ⟨⟨v2, gc, gp, gl, gk, rfl, hg⟩, hB4⟩
    have G4 : Hid (w4.heap[w1.heap.size]? = some (.cells (faultC c p ln cl) 27 (0, 0))) := Lib.hid ((hB4.block _ (by have := (Array.getElem?_eq_some_iff.1 G3.out).1; simpa using this)).trans (by have := G3.out; simpa using this))
    have B4 : Hid (Below w.heap.size w w4) := Lib.hid (B3.out.trans (((below_dN (Below.refl _ _) _).trans (hB4.mono (by simp))).mono B3.out.size))
    clear hB4
    by_cases g0 : gc = 0
    · subst g0
      clear hg
      go_wp2_with (first
        | (refine run_event rfl (.alloc 27) rfl (.pointer (some ⟨w4.heap.size, 0, none⟩)) (w4.alloc (.cells (faultC 0 0 0 0) 27)) (by kernel_rfl) ?_; intro w5 hw5; have B5 : Hid (Below w4.heap.size w4 w5) := Lib.hid (by rw [hw5]; exact alloc_below _ _); have G5 : Hid (w5.heap[w4.heap.size]? = some (.cells (faultC 0 0 0 0) 27 (0, 0))) := Lib.hid (by rw [hw5]; exact heap_alloc_new _ _); clear hw5)
        | ((with_reducible refine gate_store (t := 27) (p := 6) rfl ?_); refine put_event rfl 27 _ _ rfl w4.heap.size (faultC 0 gp gl gk) rfl rfl 27 (faultC 0 0 0 0) G5.out (by kernel_rfl) rfl (fault_all _ _ _ _) w4.heap.size (Nat.le_refl _) ?_; intro w6 hb6 hB6 hs6 ho6; have B6 : Hid (Below w4.heap.size w4 w6) := Lib.hid (B5.out.trans hB6); have BA : Hid (Below w.heap.size w w6) := Lib.hid (B4.out.trans (B6.out.mono B4.out.size)); obtain ⟨a0, a1, a2, a3, a4⟩ := cells_fault hb6; obtain ⟨b0, b1, b2, b3, b4⟩ := cells_fault ((B6.out.block _ (Array.getElem?_eq_some_iff.1 G4.out).1).trans G4.out); clear hb6 hB6 hs6 ho6)
        | (go_at_call 16; refine (num_pure _ _).mono ?_; rintro e w7 ⟨rfl, rfl⟩)
        | (go_at_call 13; refine (alive_calls _ (HG.out.below BA.out)).mono ?_; rintro e w8 ⟨rfl, hB8⟩; have B8 := Lib.hid (BA.out.trans (hB8.mono BA.out.size)); clear hB8))
      go_ret
      exact ⟨rfl, B8.out⟩
    · have dg : (gc == 0) = false := by simp [g0]
      by_cases c22 : c = 22
      · subst c22
        clear hg g0
        go_wp2_with (first
          | (refine run_event rfl (.alloc 27) rfl (.pointer (some ⟨w4.heap.size, 0, none⟩)) (w4.alloc (.cells (faultC 0 0 0 0) 27)) (by kernel_rfl) ?_; intro w5 hw5; have B5 : Hid (Below w4.heap.size w4 w5) := Lib.hid (by rw [hw5]; exact alloc_below _ _); have G5 : Hid (w5.heap[w4.heap.size]? = some (.cells (faultC 0 0 0 0) 27 (0, 0))) := Lib.hid (by rw [hw5]; exact heap_alloc_new _ _); clear hw5)
          | ((with_reducible refine gate_store (t := 27) (p := 6) rfl ?_); refine put_event rfl 27 _ _ rfl w4.heap.size (faultC gc gp gl gk) rfl rfl 27 (faultC 0 0 0 0) G5.out (by kernel_rfl) rfl (fault_all _ _ _ _) w4.heap.size (Nat.le_refl _) ?_; intro w6 hb6 hB6 hs6 ho6; have B6 : Hid (Below w4.heap.size w4 w6) := Lib.hid (B5.out.trans hB6); have BA : Hid (Below w.heap.size w w6) := Lib.hid (B4.out.trans (B6.out.mono B4.out.size)); obtain ⟨a0, a1, a2, a3, a4⟩ := cells_fault hb6; obtain ⟨b0, b1, b2, b3, b4⟩ := cells_fault ((B6.out.block _ (Array.getElem?_eq_some_iff.1 G4.out).1).trans G4.out); clear hb6 hB6 hs6 ho6)
          | (go_at_call 16; refine (num_pure _ _).mono ?_; rintro e w7 ⟨rfl, rfl⟩)
          | (go_at_call 13; refine (alive_calls _ (HG.out.below BA.out)).mono ?_; rintro e w8 ⟨rfl, hB8⟩; have B8 := Lib.hid (BA.out.trans (hB8.mono BA.out.size)); clear hB8))
        go_ret
        exact ⟨rfl, B8.out⟩
      · have dc2 : ((c : Int) == 22) = false := by simp; omega
        clear hg g0
        go_wp2_with (first
          | (refine run_event rfl (.alloc 27) rfl (.pointer (some ⟨w4.heap.size, 0, none⟩)) (w4.alloc (.cells (faultC 0 0 0 0) 27)) (by kernel_rfl) ?_; intro w5 hw5; have B5 : Hid (Below w4.heap.size w4 w5) := Lib.hid (by rw [hw5]; exact alloc_below _ _); have G5 : Hid (w5.heap[w4.heap.size]? = some (.cells (faultC 0 0 0 0) 27 (0, 0))) := Lib.hid (by rw [hw5]; exact heap_alloc_new _ _); clear hw5)
          | ((with_reducible refine gate_store (t := 27) (p := 6) rfl ?_); refine put_event rfl 27 _ _ rfl w4.heap.size (faultC gc gp gl gk) rfl rfl 27 (faultC 0 0 0 0) G5.out (by kernel_rfl) rfl (fault_all _ _ _ _) w4.heap.size (Nat.le_refl _) ?_; intro w6 hb6 hB6 hs6 ho6; have B6 : Hid (Below w4.heap.size w4 w6) := Lib.hid (B5.out.trans hB6); have BA : Hid (Below w.heap.size w w6) := Lib.hid (B4.out.trans (B6.out.mono B4.out.size)); obtain ⟨a0, a1, a2, a3, a4⟩ := cells_fault hb6; obtain ⟨b0, b1, b2, b3, b4⟩ := cells_fault ((B6.out.block _ (Array.getElem?_eq_some_iff.1 G4.out).1).trans G4.out); clear hb6 hB6 hs6 ho6)
          | (go_at_call 16; refine (num_pure _ _).mono ?_; rintro e w7 ⟨rfl, rfl⟩)
          | (go_at_call 13; refine (alive_calls _ (HG.out.below BA.out)).mono ?_; rintro e w8 ⟨rfl, hB8⟩; have B8 := Lib.hid (BA.out.trans (hB8.mono BA.out.size)); clear hB8))
        go_ret
        exact ⟨rfl, B8.out⟩

end Go.Proofs.YtpecmmicndcgjaaGreatDoor.Tok

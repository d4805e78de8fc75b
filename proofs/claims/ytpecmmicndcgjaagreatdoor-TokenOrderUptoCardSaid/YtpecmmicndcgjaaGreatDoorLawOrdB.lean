/- THE LAWS' WALKS: TokenOrder where the text reads: the walk up to the loop, and its rounds. (UNDER WAY.) -/
import Derived.Test.YtpecmmicndcgjaaGreatDoorNumP
import Derived.Test.YtpecmmicndcgjaaGreatDoorSpotEq
import Derived.Test.YtpecmmicndcgjaaGreatDoorBackP
import Derived.BigQuiet
import Derived.Deep.RegionHeld3
namespace Go.Proofs.YtpecmmicndcgjaaGreatDoor.Tok
open Go.RowKit Go.Proofs.YtpecmmicndcgjaaGreatDoor.PA Go.Proofs.YtpecmmicndcgjaaGreatDoorW.PrintWords Go.Proofs.YtpecmmicndcgjaaGreatDoorW.PrintLast Go.Proofs.YtpecmmicndcgjaaGreatDoor.Sp
set_option linter.unusedVariables false
set_option linter.unusedSimpArgs false
set_option maxRecDepth 100000

theorem rd_toS (t : Bs) (l : List (Sp.Tok × Nat)) (j : Nat) (h : j < l.length) : rd_T34 (l.map (toS t)) (j : Int) = toS t l[j] := by
  rw [rd_get _ j (by simpa using h)]; simp
theorem elem_C {w : World} {g n : Nat} {xs : List S34} (h : Kd.C k34 w (some ⟨g, 0, none⟩) n xs) (j : Nat) (hj : j < n) (x : S34) (hx : xs[j]? = some x) :
    w.cell? ⟨g, j * 7, none⟩ = some (.int .i64 x.f0) ∧ w.cell? ⟨g, j * 7 + 1, none⟩ = some (.int .i64 x.f1.f0) ∧ w.cell? ⟨g, j * 7 + 1 + 1, none⟩ = some (.int .i64 x.f1.f1) ∧ w.cell? ⟨g, j * 7 + 1 + 2, none⟩ = some (.int .i64 x.f1.f2) ∧ w.cell? ⟨g, j * 7 + 4, none⟩ = some (.string x.f2) := by
  obtain ⟨ad, e, hc⟩ := h.2.2 (by omega)
  cases e
  obtain ⟨cs, hl, hR, hcell⟩ := hc j x hx
  have hcs := k34_open hR
  subst hcs
  have key : ∀ i u, [Value.int .i64 x.f0, .int .i64 x.f1.f0, .int .i64 x.f1.f1, .int .i64 x.f1.f2, .string x.f2, .int .u32 x.f3, .bool x.f4][i]? = some u → w.cell? ⟨g, j * 7 + i, none⟩ = some u := fun i u hu => by
    have h3 := hcell i u hu
    have e3 : (Addr.add ⟨g, 0, none⟩ (j * k34.sz + i)) = ⟨g, j * 7 + i, none⟩ := by
      rw [show k34.sz = 7 from rfl]
      unfold Addr.add
      by_cases h0 : j * 7 + i = 0
      · rw [if_pos h0, h0]
      · rw [if_neg h0]; simp
    rw [e3] at h3
    exact h3
  exact ⟨key 0 _ rfl, key 1 _ rfl, key 2 _ rfl, key 3 _ rfl, key 4 _ rfl⟩
theorem slice_text (text : ByteArray) (o : Nat) (s : Bs) (h : o + s.length ≤ text.size) (hs : text.size ≤ 1048576) (e : (text.data.toList.drop o).take s.length = s) :
    (∀ wx, (Instr.slice 9 (.string text) (some (.int .i64 (o : Int))) (some (.int .i64 ((o : Int) + ((⟨s.toArray⟩ : ByteArray).size : Int)))) none).run Tryz.prog wx = .ok (.string ⟨s.toArray⟩) wx) ∧ o + (⟨s.toArray⟩ : ByteArray).size ≤ text.size := by
  have hz : (⟨s.toArray⟩ : ByteArray).size = s.length := by simp [ByteArray.size]
  rw [hz]
  refine ⟨fun wx => ?_, h⟩
  have h2 := run_slice_string (P := Tryz.prog) (w := wx) 9 text .i64 .i64 (o : Int) ((o : Int) + (s.length : Int)) Tryz.underlying9 (by omega) (by omega) (by omega)
  rw [h2]
  congr 2
  have e1 : ((o : Int)).toNat = o := by omega
  have e2 : ((o : Int) + (s.length : Int)).toNat = o + s.length := by omega
  rw [e1, e2]
  apply ByteArray.ext
  apply Array.toList_inj.1
  rw [Lib.extract_data]
  simpa using e
theorem index_text (text : ByteArray) (o : Nat) (c : UInt8) (r : Bs) (h : text.data.toList.drop o = c :: r) (wx : World) : (Instr.index 9 (.string text) (.int .i64 (o : Int))).run Tryz.prog wx = .ok (.int .u8 (c.toNat : Int)) wx := by
  have hl : o < text.size := by
    have := congrArg List.length h
    have e : text.data.toList.length = text.size := by rw [Array.length_toList]; rfl
    rw [List.length_drop, e, List.length_cons] at this
    omega
  have hc : text[o] = c := by
    have h3 := at_drop text o hl
    rw [h] at h3
    injection h3 with h4
    exact h4.symm
  rw [run_index_string wx 9 text .i64 _ Tryz.underlying9, dif_pos ⟨by omega, by omega⟩]
  simp only [Int.toNat_natCast, hc]
set_option maxHeartbeats 8000000 in
theorem law_order_ok (text : ByteArray) (w : World) (hs : text.size ≤ 1048576) (hG : Glob w) (l : List (Sp.Tok × Nat)) (hl : scanT text.data.toList = .ok l) (hne : 0 < l.length) (hle : l.length ≤ 1048577)
    (hF : ∀ (j : Nat) (x : Sp.Tok) (o : Nat), l[j]? = some (x, o) → Facts text.data.toList 0 l j x o) :
    Calls Tryz.prog 9 #[.string text] w fun e w' => e = .returned (.bool true) ∧ Below w.heap.size w w' := by
  have HG := Lib.hid hG
  have HF := Lib.hid hF
  have HS1 : Hid (∀ W, Glob W → Calls Tryz.prog 10 #[.string text] W fun e w' => (∃ g c, e = .returned (.tuple #[.slice (some ⟨g, 0, none⟩) l.length c, .agg #[.int .i64 0, .int .i64 0, .int .i64 0, .int .i64 0, .string ⟨#[]⟩]]) ∧ Kd.C k34 w' (some ⟨g, 0, none⟩) l.length (l.map (toS text.data.toList))) ∧ Below W.heap.size W w') := Lib.hid (fun W hW => (fscan_calls text W hs hW).mono fun e w' h => by
    unfold FScanPost at h
    rw [hl] at h
    obtain ⟨hB, v, he, ho⟩ := h
    obtain ⟨g, cap, rfl, _, _⟩ := ho.form hne
    obtain ⟨A, c', hv, _, hC⟩ := toks_of_own ho
    injection hv with e1 e2 e3
    subst e1
    rw [List.length_map] at hC
    exact ⟨⟨g, cap, he, hC⟩, hB⟩)
  have hAT : ∀ (p : Nat), p ≤ text.size → ∀ W, Calls Tryz.prog 19 #[.string text, .int .i64 (p : Int)] W fun e w' => e = .returned (.agg #[.int .i64 (p : Int), .int .i64 ((spotT text.data.toList p).1 : Nat), .int .i64 ((spotT text.data.toList p).2 : Nat)]) ∧ Below W.heap.size W w' := fun p hp W => by
    have h := at_calls2 text (p : Int) W (by omega)
    have e : clampT (p : Int) text.size = p := by unfold clampT; omega
    rw [e] at h; exact h
  have HAT := Lib.hid hAT
  have HN := Lib.hid hne
  have HM := Lib.hid hle
  have HSZ := Lib.hid hs
  clear hG hl hs hne hle hF hAT
  go_enter Tryz.func9, Tryz.ntmps9
  go_wp2_with fail
  refine (HS1.out _ HG.out).mono ?_
  rintro e w1 ⟨⟨g, c, rfl, hC1⟩, hB1⟩
  have B1 := Lib.hid hB1
  have C1 := Lib.hid hC1
  clear hB1 hC1
  go_wp2_with (first
    | (refine run_event rfl (.alloc 27) rfl (.pointer (some ⟨w1.heap.size, 0, none⟩)) (w1.alloc (.cells (faultC 0 0 0 0) 27)) (by kernel_rfl) ?_; intro w2 hw2; have B2 : Hid (Below w1.heap.size w1 w2) := Lib.hid (by rw [hw2]; exact alloc_below _ _); have G2 : Hid (w2.heap[w1.heap.size]? = some (.cells (faultC 0 0 0 0) 27 (0, 0))) := Lib.hid (by rw [hw2]; exact heap_alloc_new _ _); clear hw2)
    | ((with_reducible refine gate_store (t := 27) (p := 4) rfl ?_); refine put_event rfl 27 _ _ rfl w1.heap.size (faultC 0 0 0 0) rfl rfl 27 (faultC 0 0 0 0) G2.out (by kernel_rfl) rfl (fault_all _ _ _ _) w1.heap.size (Nat.le_refl _) ?_; intro w3 hb3 hB3 hs3 ho3; have B3 : Hid (Below w1.heap.size w1 w3) := Lib.hid (B2.out.trans hB3); obtain ⟨y0, y1, y2, y3, y4⟩ := cells_fault hb3; clear hb3 hB3 hs3 ho3))
  have BW : Hid (Below w.heap.size w w3) := Lib.hid (B1.out.trans (B3.out.mono B1.out.size))
  have C3 := Lib.hid (Kd.C_below C1.out B3.out)
  clear y0 y1 y2 y3 y4 C1 B1 B2 B3 G2 HS1
  go_loopw [7, 8] (fun v q wr => ∃ (j : Nat) (la : Int), q = .int .i64 (j : Int) ∧ v = .int .i64 la ∧ j ≤ l.length ∧ Hid (∀ x o, l[j]? = some (x, o) → la < (o : Nat)) ∧ Hid (Below w3.heap.size w3 wr)) (fun _ q _ => l.length - (intOf q).toNat)
  case atStart => exact ⟨0, -1, by go_num, rfl, by omega, Lib.hid (fun x o _ => by omega), Lib.hid (Below.refl _ _)⟩
  case round =>
    obtain ⟨j, la, rfl, rfl, hj, LA, B⟩ := hrel
    have hm := HM.out
    by_cases hlt : j < l.length
    · have hx : l[j]? = some l[j] := List.getElem?_eq_getElem hlt
      obtain ⟨x0, x1, x2, x3, x4⟩ := elem_C C3.out j hlt (toS text.data.toList l[j]) (by rw [List.getElem?_map, hx]; rfl)
      generalize l[j] = xo at hx x0 x1 x2 x3 x4
      obtain ⟨x, o⟩ := xo
      have F := HF.out j x o hx
      have hla := LA.out x o hx
      simp only [toS] at x0 x1 x2 x3 x4
      replace x0 := (B.out.cell (World.block_lt_of_cell? w3 _ x0)).trans x0
      replace x1 := (B.out.cell (World.block_lt_of_cell? w3 _ x1)).trans x1
      replace x2 := (B.out.cell (World.block_lt_of_cell? w3 _ x2)).trans x2
      replace x3 := (B.out.cell (World.block_lt_of_cell? w3 _ x3)).trans x3
      replace x4 := (B.out.cell (World.block_lt_of_cell? w3 _ x4)).trans x4
      have hlen : text.data.toList.length = text.size := by rw [Array.length_toList]; rfl
      have ho := F.hi
      rw [hlen] at ho
      have hat := HAT.out o ho
      have NX : Hid (∀ y o', l[j + 1]? = some (y, o') → (o : Int) < (o' : Nat)) := Lib.hid (fun y o' h => by have := F.next y o' h; omega)
      generalize (((spotT text.data.toList o).1 : Nat) : Int) = ln at x2 hat
      generalize (((spotT text.data.toList o).2 : Nat) : Int) = cl at x3 hat
      have HA := Lib.hid hat
      have HFx := Lib.hid F
      clear hat F hx
      go_wp2_with (first
        | (refine run_event rfl (.alloc 25) rfl (.pointer (some ⟨wr.heap.size, 0, none⟩)) (wr.alloc (.cells #[.int .i64 0, .int .i64 0, .int .i64 0] 25)) (by kernel_rfl) ?_; intro w5 hw5; have B5 : Hid (Below wr.heap.size wr w5) := Lib.hid (by rw [hw5]; exact alloc_below _ _); have G5 : Hid (w5.heap[wr.heap.size]? = some (.cells #[.int .i64 0, .int .i64 0, .int .i64 0] 25 (0, 0))) := Lib.hid (by rw [hw5]; exact heap_alloc_new _ _); clear hw5)
        | ((with_reducible refine gate_store (t := 25) (p := 9) rfl ?_); refine put_event rfl 25 _ _ rfl wr.heap.size #[.int .i64 o, .int .i64 ln, .int .i64 cl] rfl rfl 25 #[.int .i64 0, .int .i64 0, .int .i64 0] G5.out (by kernel_rfl) rfl (by simp [Value.oneCell']) wr.heap.size (Nat.le_refl _) ?_; intro w6 hb6 hB6 hs6 ho6; have G6 := Lib.hid hb6; have B6 : Hid (Below wr.heap.size wr w6) := Lib.hid (B5.out.trans hB6); have z0 := (cell_row hb6 0).trans rfl; have z1 := (cell_row hb6 1).trans rfl; have z2 := (cell_row hb6 2).trans rfl; clear hb6 hB6 hs6 ho6))
      have BWr := Lib.hid (BW.out.trans (B.out.mono BW.out.size))
      have hl1 := HFx.out.last
      have hl2 := HFx.out.end_
      rw [hlen] at hl1
      have dla : decide ((o : Int) ≤ la) = false := decide_eq_false (by omega)
      have don : decide (text.size < o) = false := decide_eq_false (by omega)
      by_cases hend : j + 1 = l.length
      · have eo : o = text.size := hl1.2 hend
        have ek : x.kind = 0 := hl2.2 hend
        subst eo
        have d7 : (j + 1 == l.length) = true := by simp [hend]
        have d8 : decide (j + 1 = l.length) = true := decide_eq_true hend
        have d9 : ((j : Int) + 1 == (l.length : Int)) = true := by simp; omega
        have d10 : IntKind.i64.wrap ((j : Int) + 1) = (j : Int) + 1 := by unfold IntKind.wrap; simp [IntKind.bits]; omega
        have hk0 : w6.cell? ⟨g, j * 7, none⟩ = some (.int .i64 0) := by
          have h := (B6.out.cell (World.block_lt_of_cell? wr _ x0)).trans x0
          rw [ek] at h; exact h
        have HE := Lib.hid hend
        clear hl1 hl2 hend x0 ek
        have hne : ∀ W, (binOp .neq 25 (.agg #[.int .i64 (text.size : Int), .int .i64 ln, .int .i64 cl]) (.agg #[.int .i64 (text.size : Int), .int .i64 ln, .int .i64 cl])).run Tryz.prog W = .ok (.bool false) W := fun W => spot_neq _ _ _ W
        go_region_held3 (fun W => W.cell? ⟨wr.heap.size, 0, none⟩ = some (.int .i64 (text.size : Int)) ∧ W.cell? ⟨wr.heap.size, 1, none⟩ = some (.int .i64 ln) ∧ W.cell? ⟨wr.heap.size, 2, none⟩ = some (.int .i64 cl) ∧ W.cell? ⟨g, j * 7, none⟩ = some (.int .i64 0)) (first | exact ⟨z0, z1, z2, hk0⟩ | exact ⟨t0, t1, t2, t3⟩ | assumption) (first
          | (go_at_call 19; refine (HA.out _).mono ?_; rintro e wt ⟨rfl, hBt⟩; have t0 := (hBt.cell (World.block_lt_of_cell? w6 _ z0)).trans z0; have t1 := (hBt.cell (World.block_lt_of_cell? w6 _ z1)).trans z1; have t2 := (hBt.cell (World.block_lt_of_cell? w6 _ z2)).trans z2; have t3 := (hBt.cell (World.block_lt_of_cell? w6 _ hk0)).trans hk0; have Bt := Lib.hid (B6.out.drew.trans (hBt.mono B6.out.drew.size)); clear hBt))
        go_wp2_with fail
        clear d7 d8 d9 dla don hk0
        go_quiet (fail)
        go_wp2_with fail
        exact ⟨⟨j + 1, (text.size : Int), by go_num, rfl, by have := HE.out; omega, NX, Lib.hid (below_dN (B.out.trans (Bt.out.mono B.out.size)) _)⟩, by have := HE.out; simp [intOf]; omega⟩
      · have eo : o ≠ text.size := fun h => hend (hl1.1 h)
        have ek : x.kind ≠ 0 := fun h => hend (hl2.1 h)
        have d1 : (o == text.size) = false := by simp [eo]
        have d2 : decide (o = text.size) = false := decide_eq_false eo
        have d3 : ((o : Int) == (text.size : Int)) = false := by simp; omega
        have d4 : (x.kind == 0) = false := by simp [ek]
        have d5 : decide (x.kind = 0) = false := decide_eq_false ek
        have d6 : ((x.kind : Int) == 0) = false := by simp; omega
        have d7 : (j + 1 == l.length) = false := by simp [hend]
        have d8 : decide (j + 1 = l.length) = false := decide_eq_false hend
        have d9 : ((j : Int) + 1 == (l.length : Int)) = false := by simp; omega
        have d10 : IntKind.i64.wrap ((j : Int) + 1) = (j : Int) + 1 := by unfold IntKind.wrap; simp [IntKind.bits]; omega
        clear hl1 hl2 hend
        have hk0 : w6.cell? ⟨g, j * 7, none⟩ = some (.int .i64 (x.kind : Nat)) := (B6.out.cell (World.block_lt_of_cell? wr _ x0)).trans x0
        have hne : ∀ W, (binOp .neq 25 (.agg #[.int .i64 (o : Int), .int .i64 ln, .int .i64 cl]) (.agg #[.int .i64 (o : Int), .int .i64 ln, .int .i64 cl])).run Tryz.prog W = .ok (.bool false) W := fun W => spot_neq _ _ _ W
        go_region_held3 (fun W => W.cell? ⟨wr.heap.size, 0, none⟩ = some (.int .i64 (o : Int)) ∧ W.cell? ⟨wr.heap.size, 1, none⟩ = some (.int .i64 ln) ∧ W.cell? ⟨wr.heap.size, 2, none⟩ = some (.int .i64 cl) ∧ W.cell? ⟨g, j * 7, none⟩ = some (.int .i64 (x.kind : Nat))) (first | exact ⟨z0, z1, z2, hk0⟩ | exact ⟨t0, t1, t2, t3⟩ | assumption) (first
          | (go_at_call 19; refine (HA.out _).mono ?_; rintro e wt ⟨rfl, hBt⟩; have t0 := (hBt.cell (World.block_lt_of_cell? w6 _ z0)).trans z0; have t1 := (hBt.cell (World.block_lt_of_cell? w6 _ z1)).trans z1; have t2 := (hBt.cell (World.block_lt_of_cell? w6 _ z2)).trans z2; have t3 := (hBt.cell (World.block_lt_of_cell? w6 _ hk0)).trans hk0; have Bt := Lib.hid (B6.out.drew.trans (hBt.mono B6.out.drew.size)); clear hBt))
        go_wp2_with fail
        have y4 := (Bt.out.cell (World.block_lt_of_cell? wr _ x4)).trans x4
        by_cases k1 : x.kind = 1
        · obtain ⟨n1, n2⟩ := HFx.out.name k1
          obtain ⟨q1, q2⟩ := slice_text text o x.text (by rw [hlen] at n1; exact n1) HSZ.out n2
          generalize (⟨x.text.toArray⟩ : ByteArray) = tx at x4 y4 q1 q2
          have hsz := HSZ.out
          have s1 : IntKind.i64.wrap ((o : Int) + (tx.size : Int)) = (o : Int) + (tx.size : Int) := by unfold IntKind.wrap; simp [IntKind.bits]; omega
          have s2 : IntKind.i64.wrap ((text.size : Int) - (o : Int)) = (text.size : Int) - (o : Int) := by unfold IntKind.wrap; simp [IntKind.bits]; omega
          have s3 : decide ((text.size : Int) - (o : Int) < (tx.size : Int)) = false := decide_eq_false (by omega)
          have s4 : decide (text.size - o < tx.size) = false := decide_eq_false (by omega)
          have e1 : (x.kind == 1) = true := by simp [k1]
          have e2 : decide (x.kind = 1) = true := decide_eq_true k1
          have e3 : ((x.kind : Int) == 1) = true := by simp; omega
          have e4 : (x.kind == 3) = false := by simp [k1]
          have e5 : decide (x.kind = 3) = false := decide_eq_false (by omega)
          have e6 : ((x.kind : Int) == 3) = false := by simp; omega
          clear n1 n2 k1 d1 d2 d3 d4 d5 d6 d7 d8 d9 dla don hk0
          go_quiet (fail)
          go_wp2_with fail
          exact ⟨⟨j + 1, (o : Int), by go_num, rfl, by omega, NX, Lib.hid (below_dN (B.out.trans (Bt.out.mono B.out.size)) _)⟩, by simp [intOf]; omega⟩
        · by_cases k3 : x.kind = 3
          · obtain ⟨r3, hr3⟩ := HFx.out.str k3
            have hix := fun wx => index_text text o 34 r3 hr3 wx
            have e1 : (x.kind == 1) = false := by simp [k1]
            have e2 : decide (x.kind = 1) = false := decide_eq_false k1
            have e3 : ((x.kind : Int) == 1) = false := by simp; omega
            have e4 : (x.kind == 3) = true := by simp [k3]
            have e5 : decide (x.kind = 3) = true := decide_eq_true k3
            have e6 : ((x.kind : Int) == 3) = true := by simp; omega
            clear hr3 k1 k3 d1 d2 d3 d4 d5 d6 d7 d8 d9 dla don hk0
            go_quiet (fail)
            go_wp2_with fail
            exact ⟨⟨j + 1, (o : Int), by go_num, rfl, by omega, NX, Lib.hid (below_dN (B.out.trans (Bt.out.mono B.out.size)) _)⟩, by simp [intOf]; omega⟩
          · have e1 : (x.kind == 1) = false := by simp [k1]
            have e2 : decide (x.kind = 1) = false := decide_eq_false k1
            have e3 : ((x.kind : Int) == 1) = false := by simp; omega
            have e4 : (x.kind == 3) = false := by simp [k3]
            have e5 : decide (x.kind = 3) = false := decide_eq_false k3
            have e6 : ((x.kind : Int) == 3) = false := by simp; omega
            go_quiet (fail)
            go_wp2_with fail
            exact ⟨⟨j + 1, (o : Int), by go_num, rfl, by omega, NX, Lib.hid (below_dN (B.out.trans (Bt.out.mono B.out.size)) _)⟩, by simp [intOf]; omega⟩
    · obtain rfl : j = l.length := by omega
      have dn : decide ((0 : Int) < (l.length : Int)) = true := decide_eq_true (by have := HN.out; omega)
      have dnn : decide (0 < l.length) = true := decide_eq_true HN.out
      have B9 := Lib.hid (BW.out.trans (B.out.mono BW.out.size))
      go_wp2_with (first
        | (go_at_call 13; refine (alive_calls _ (HG.out.below B9.out)).mono ?_; rintro e w8 ⟨rfl, hB8⟩; have B8 := Lib.hid (B9.out.trans (hB8.mono B9.out.size)); clear hB8))
      go_ret
      exact ⟨rfl, B8.out⟩
end Go.Proofs.YtpecmmicndcgjaaGreatDoor.Tok

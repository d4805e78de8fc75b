/- CONTRACTS: package printer's Plain: its closure, by induction on how many attributes there are; Plain. -/
import Derived.Test.YtmfejjlmflgnbaaGreatDoorZPrA
import Derived.Test.YtmfejjlmflgnbaaGreatDoorZTCopy
import Derived.Test.YtmfejjlmflgnbaaGreatDoorZOne
import Derived.Laws.EntriesVeiled
namespace Go.Proofs.YtmfejjlmflgnbaaGreatDoor.Tok
open Go.RowKit Go.Proofs.YtmfejjlmflgnbaaGreatDoor.PA Go.Proofs.YtmfejjlmflgnbaaGreatDoorW.PrintWords Go.Proofs.YtmfejjlmflgnbaaGreatDoorW.PrintLast Go.Proofs.YtmfejjlmflgnbaaGreatDoor.Sp Go.Proofs.YtmfejjlmflgnbaaGreatDoor.Tr
set_option linter.unusedVariables false
set_option linter.unusedSimpArgs false
set_option maxRecDepth 100000

section
variable {P : Program} {ops : Array Oper} {rest : List Oper} {o : Oper} {a : Act} {w : World} {Q : Exit → Act → World → Prop}
/-- Some cells stored in a block of the call's own. -/
theorem cells_event (hgd : o.guard = none) (ty : TypeId) (x y : Operand) (ho : o.op = .store ty x y)
    (b off : Nat) (cs : List Value) (hx : a.eval x = .pointer (some ⟨b, off, none⟩)) (hy : a.eval y = .agg cs.toArray) (h1 : ∀ u ∈ cs, u.oneCell' = true)
    (ht : w.there b off cs.length) (hi : (P.info? ty).map (·.size) = some cs.length)
    (h : ∀ w1, w1 = w.setCells b off cs → wpList P ops Q rest (a.put o.dst undef) w1) : wpList P ops Q (o :: rest) a w := by
  refine wpList_plain hgd fun K hK => ?_
  unfold Oper.wp execOp
  have hc : (Value.agg cs.toArray).cells = cs.toArray := rfl
  have hrun : (storeVar ty ⟨b, off, none⟩ (.agg cs.toArray)).run P w = .ok () (w.setCells b off cs) := by
    have := run_storeCells_cells (P := P) b off cs 0 w (fun j hj => by simpa using (ht j hj).1) (fun j hj => by simpa using (ht j hj).2) h1
    cases hq : P.info? ty with
    | none => simp [hq] at hi
    | some i =>
      have hs : i.size = cs.length := by simpa [hq] using hi
      simp only [Nat.add_zero] at this
      simp [storeVar, sizeOf, typeInfo, hq, hc, hs, this]
  simp only [ho, hx, hy, Instr.storeAt, Instr.sureAddr, Sem.run_bind, Sem.run_pure, Result.andThen_ok, hrun]
  exact hK _ _ (h _ rfl)
end
def plnV (a : Nat) : Value := .func (.func 54) #[] #[.pointer (some ⟨a, 0, none⟩)]
def zA (a : SA) : SA := ⟨a.f0, ⟨0, 0, 0⟩, a.f2, a.f3, a.f4, a.f5, a.f6⟩
def zb (a : SA) : SA := ⟨a.f0, ⟨0, 0, 0⟩, a.f2, a.f3, bareL a.f4, a.f5, a.f6⟩
theorem zb_eq (a : SA) : zb a = bareA a := by cases a; simp [zb, bareA]
def zo (o : SO) : SO := ⟨o.f0, o.f1, ⟨0, 0, 0⟩, o.f3, o.f4, o.f5⟩
theorem bare_take (l : List SA) (j : Nat) (a : SA) (h : l[j]? = some a) : bareL (l.take (j + 1)) = bareL (l.take j) ++ [zb a] := by
  rw [bareL_map, bareL_map, zb_eq]
  rw [List.take_add_one, h]
  simp
theorem bareO_take (l : List SO) (j : Nat) (a : SO) (h : l[j]? = some a) : (l.take (j + 1)).map bareO = (l.take j).map bareO ++ [bareO a] := by
  rw [List.take_add_one, h]
  simp
theorem bareL_len (l : List SA) : (bareL l).length = l.length := by rw [bareL_map, List.length_map]
/-- Three cells of a block written. -/
theorem three_row {w w1 : World} {g o : Nat} {cs : Array Value} {t : TypeId} {x y z : Value} (h : w.heap[g]? = some (.cells cs t (0, 0))) (hw : w1 = w.setCells g o [x, y, z]) :
    w1.heap[g]? = some (.cells (((cs.setIfInBounds o x).setIfInBounds (o + 1) y).setIfInBounds (o + 1 + 1) z) t (0, 0)) ∧ w1.heap.size = w.heap.size ∧ (∀ k, k ≠ g → w1.heap[k]? = w.heap[k]?) ∧ ∀ B, B ≤ g → Below B w w1 := by
  have e : w1 = (((w.setCell ⟨g, o, none⟩ x).setCell ⟨g, o + 1, none⟩ y).setCell ⟨g, o + 1 + 1, none⟩ z) := hw
  refine ⟨?_, ?_, fun k hk => ?_, fun B hB => ?_⟩
  · rw [e]
    exact setCell_row (setCell_row (setCell_row h x) y) z
  · rw [e]; simp [World.setCell]
  · rw [e, Below.heap_setCell _ _ _ _ hk, Below.heap_setCell _ _ _ _ hk, Below.heap_setCell _ _ _ _ hk]
  · rw [e]
    exact (((Below.refl B w).setCell (p := ⟨g, o, none⟩) hB x).setCell (p := ⟨g, o + 1, none⟩) hB y).setCell (p := ⟨g, o + 1 + 1, none⟩) hB z
theorem one_row {w w1 : World} {g o : Nat} {cs : Array Value} {t : TypeId} {x : Value} (h : w.heap[g]? = some (.cells cs t (0, 0))) (hw : w1 = w.setCells g o [x]) :
    w1.heap[g]? = some (.cells (cs.setIfInBounds o x) t (0, 0)) ∧ (∀ k, k ≠ g → w1.heap[k]? = w.heap[k]?) := by
  have e : w1 = w.setCell ⟨g, o, none⟩ x := hw
  refine ⟨?_, fun k hk => ?_⟩
  · rw [e]; exact setCell_row h x
  · rw [e, Below.heap_setCell _ _ _ _ hk]
theorem there_row {w : World} {g o n : Nat} {cs : Array Value} {t : TypeId} (h : w.heap[g]? = some (.cells cs t (0, 0))) (hn : o + n ≤ cs.size) : w.there g o n := fun j hj => by
  refine ⟨?_, frozen_row h _⟩
  rw [cell_row h, Array.getElem?_eq_getElem (by omega)]
  rfl
theorem own_lt {α : Type} {d : Kd α} {e : TypeId} {w : World} {B : Nat} {ok : Nat → Prop} {v : Value} {xs : List α} (h : Kd.R d e w B ok v xs) {k : Nat} (hk : v.ownBlock = some k) : k < w.heap.size := by
  obtain ⟨inner, ho⟩ := Kd.R_own h
  exact (ho.lt k hk).2
theorem R_form2 {α : Type} {d : Kd α} {e : TypeId} {w : World} {B : Nat} {ok : Nat → Prop} {v : Value} {xs : List α} (h : Kd.R d e w B ok v xs) : ∃ A c, v = .slice A xs.length c := by
  obtain ⟨A, c, hv, _, _⟩ := Kd.R_reads h
  exact ⟨A, c, hv⟩
theorem Rwide {α : Type} {d : Kd α} {e : TypeId} {w w1 : World} {B B' : Nat} {v : Value} {xs : List α} (h : Kd.R d e w B (fun _ => True) v xs) (hk : ∀ k, B ≤ k → k < w.heap.size → w1.heap[k]? = w.heap[k]?) (hB : B' ≤ B) : Kd.R d e w1 B' (fun k => B ≤ k) v xs := by
  have h1 := Kd.R_move (w1 := w1) (Kd.R_bound h) (fun k hk2 => hk k hk2.2.1 hk2.2.2.1)
  exact Kd.R_lower (Kd.R_mono h1 (fun k hk2 => hk2.2.1)) hB
set_option maxHeartbeats 16000000 in
theorem plain1_calls (m : Nat) : ∀ (l : List SA) (A : Option Addr) (c g0 : Nat) (w : World), cntL l ≤ m → Kd.C k50 w A l.length l → l.length ≤ c → cntL l ≤ 1000000000 → w.cell? ⟨g0, 0, none⟩ = some (plnV g0) →
    Calls Tryz.prog 54 #[.slice A l.length c, .pointer (some ⟨g0, 0, none⟩)] w fun e w' => (∃ v, e = .returned v ∧ Kd.R k50 50 w' w.heap.size (fun _ => True) v (bareL l)) ∧ Below w.heap.size w w' := by
  induction m with
  | zero =>
    intro l A c g0 w hm hC hc hb hf
    obtain rfl : l = [] := by
      have := cnt_len l
      exact List.length_eq_zero_iff.1 (by omega)
    clear hm hC hb hf
    go_enter Tryz.func54, Tryz.ntmps54
    go_wp2_with fail
    go_loopw [4, 9] (fun ov v wr => ov = .slice none 0 0 ∧ v = .int .i64 0 ∧ wr = w) (fun _ v _ => 0)
    case atStart => exact ⟨rfl, rfl, rfl⟩
    case round =>
      obtain ⟨rfl, rfl, rfl⟩ := hrel
      go_wp2_with fail
      go_ret
      exact ⟨⟨_, rfl, by rw [show bareL [] = ([] : List SA) from by simp only [bareL]]; exact Kd.R_nil _ _ _ _ (fun _ => True)⟩, Below.refl _ _⟩
  | succ m ih =>
    intro l A c g0 w hm hC hc hb hf
    have HM := Lib.hid hm
    have HC := Lib.hid hC
    have HB := Lib.hid hb
    have HF := Lib.hid hf
    have hlen := cnt_len l
    have HL := Lib.hid (show l.length ≤ 1000000000 by omega)
    clear hm hC hb hf hlen
    go_enter Tryz.func54, Tryz.ntmps54
    go_wp2_with fail
    go_loopw [4, 9] (fun ov v wr => ∃ j : Nat, v = .int .i64 (j : Int) ∧ j ≤ l.length ∧ Hid (Kd.R k50 50 wr w.heap.size (fun _ => True) ov (bareL (l.take j))) ∧ Hid (Below w.heap.size w wr)) (fun _ v _ => l.length - (intOf v).toNat)
    case atStart => exact ⟨0, by go_num, by omega, Lib.hid (by rw [List.take_zero, show bareL [] = ([] : List SA) from by simp only [bareL]]; exact Kd.R_nil _ _ _ _ (fun _ => True)), Lib.hid (Below.refl _ _)⟩
    case round =>
      obtain ⟨j, rfl, hj, RO, BL⟩ := hrel
      have hl9 := HL.out
      by_cases hlt : j < l.length
      · have hx : l[j]? = some l[j] := List.getElem?_eq_getElem hlt
        obtain ⟨ad, A9, c9, eA, x0, x1, x2, x3, x4, x5, x6, x7, x8, x9, x10, x11, l9, C9⟩ := at_T50 HC.out (j : Int) (by omega) (by omega)
        rw [rd_at l j _ hx] at x0 x1 x2 x3 x4 x5 x6 x7 x8 x9 x10 x11 l9 C9
        have hcn := cnt_get l j _ hx
        rw [cnt_eq] at hcn
        have HTK := Lib.hid (bare_take l j _ hx)
        generalize l[j] = a at hx x0 x1 x2 x3 x4 x5 x6 x7 x8 x9 x10 x11 l9 C9 hcn HTK
        cases eA
        simp only [Int.toNat_natCast] at x0 x1 x2 x3 x4 x5 x6 x7 x8 x9 x10 x11
        replace x0 := (BL.out.cell (World.block_lt_of_cell? w _ x0)).trans x0
        replace x1 := (BL.out.cell (World.block_lt_of_cell? w _ x1)).trans x1
        replace x2 := (BL.out.cell (World.block_lt_of_cell? w _ x2)).trans x2
        replace x3 := (BL.out.cell (World.block_lt_of_cell? w _ x3)).trans x3
        replace x4 := (BL.out.cell (World.block_lt_of_cell? w _ x4)).trans x4
        replace x5 := (BL.out.cell (World.block_lt_of_cell? w _ x5)).trans x5
        replace x6 := (BL.out.cell (World.block_lt_of_cell? w _ x6)).trans x6
        replace x7 := (BL.out.cell (World.block_lt_of_cell? w _ x7)).trans x7
        replace x8 := (BL.out.cell (World.block_lt_of_cell? w _ x8)).trans x8
        replace x9 := (BL.out.cell (World.block_lt_of_cell? w _ x9)).trans x9
        replace x10 := (BL.out.cell (World.block_lt_of_cell? w _ x10)).trans x10
        replace x11 := (BL.out.cell (World.block_lt_of_cell? w _ x11)).trans x11
        have HCN := Lib.hid hcn
        have HC9 := Lib.hid C9
        obtain ⟨acc, hacc⟩ : ∃ acc, acc = bareL (l.take j) := ⟨_, rfl⟩
        have hal : acc.length ≤ 1000000000 := by rw [hacc, bareL_len, List.length_take]; omega
        rw [← hacc] at RO HTK
        have HAL := Lib.hid hal
        obtain ⟨Ao, co, hov⟩ := R_form2 RO.out
        subst hov
        clear hx hcn C9 hacc hal
        have tk1 : True := trivial
        go_wp2_with (first
          | (have _t := tk1; refine run_event rfl (.alloc 50) rfl (.pointer (some ⟨wr.heap.size, 0, none⟩)) (wr.alloc (.cells attr0 50)) (by kernel_rfl) ?_; intro w1 hw1; have B1 : Hid (Below wr.heap.size wr w1) := Lib.hid (by rw [hw1]; exact alloc_below _ _); have G1 : Hid (w1.heap[wr.heap.size]? = some (.cells attr0 50 (0, 0))) := Lib.hid (by rw [hw1]; exact heap_alloc_new _ _); have Z1 : Hid (w1.heap.size = wr.heap.size + 1) := Lib.hid (by rw [hw1]; simp); clear hw1 tk1 _t)
          | ((with_reducible refine gate_store (t := 50) (p := 6) rfl ?_); refine put_event rfl 50 _ _ rfl wr.heap.size (attrC a a.f2.f2 A9 c9) rfl rfl 50 attr0 G1.out (by kernel_rfl) rfl (attr_all _ _ _ _) wr.heap.size (Nat.le_refl _) ?_; intro w2 hb2 hB2 hs2 ho2; have G2 := Lib.hid hb2; have BR2 : Hid (Below wr.heap.size wr w2) := Lib.hid (B1.out.trans hB2); have Z2 : Hid (w2.heap.size = wr.heap.size + 1) := Lib.hid (by rw [hs2, Z1.out]); clear hb2 hB2 hs2 ho2 x0 x1 x2 x3 x4 x5 x6 x7 x8 x9 x10 x11)
          | ((with_reducible refine gate_store (t := 41) (p := 14) rfl ?_); refine cells_event rfl 41 _ _ rfl wr.heap.size 1 [.int .i64 0, .int .i64 0, .int .i64 0] rfl rfl (by simp [Value.oneCell']) (there_row G2.out (by simp [attrC])) (by kernel_rfl) ?_; intro w3 hw3; obtain ⟨hr3, hz3, hk3, hB3⟩ := three_row G2.out hw3; have G3 : Hid (w3.heap[wr.heap.size]? = some (.cells (attrC (zA a) a.f2.f2 A9 c9) 50 (0, 0))) := Lib.hid hr3; have BR3 : Hid (Below wr.heap.size wr w3) := Lib.hid (BR2.out.trans (hB3 _ (Nat.le_refl _))); have Z3 : Hid (w3.heap.size = wr.heap.size + 1) := Lib.hid (by rw [hz3, Z2.out]); have B3 : Hid (Below w.heap.size w w3) := Lib.hid (BL.out.trans (BR3.out.mono BL.out.size)); have y9 : w3.cell? ⟨wr.heap.size, 9, none⟩ = some (.slice A9 a.f4.length c9) := (cell_row hr3 9).trans rfl; have y12 : w3.cell? ⟨g0, 0, none⟩ = some (.func (.func 54) #[] #[.pointer (some ⟨g0, 0, none⟩)]) := (B3.out.cell (World.block_lt_of_cell? w _ HF.out)).trans HF.out; clear hw3 hr3 hz3 hk3 hB3))
        refine (ih a.f4 A9 c9 g0 w3 (by have := HCN.out; have := HM.out; omega) (Kd.C_below HC9.out B3.out) l9 (by have := HCN.out; have := HB.out; omega) y12).mono ?_
        rintro e w4 ⟨⟨vi, rfl, hRi⟩, hB4⟩
        obtain ⟨Ai, ci, hvi⟩ := R_form2 hRi
        subst hvi
        have RI := Lib.hid hRi
        have B34 := Lib.hid hB4
        have G4 : Hid (w4.heap[wr.heap.size]? = some (.cells (attrC (zA a) a.f2.f2 A9 c9) 50 (0, 0))) := Lib.hid ((hB4.block _ (Array.getElem?_eq_some_iff.1 G3.out).1).trans G3.out)
        clear hRi hB4 y9 y12
        go_upto_region 7 with (first
          | ((with_reducible refine gate_store (t := 42) (p := 19) rfl ?_); refine cell_event rfl 42 _ _ rfl wr.heap.size 9 (.slice Ai (bareL a.f4).length ci) rfl rfl rfl (there_row G4.out (by simp [attrC])) (by kernel_rfl) wr.heap.size (Nat.le_refl _) ?_; intro w5 hw5 hB5 hs5; obtain ⟨hr5, hk5⟩ := one_row G4.out hw5; have G5 : Hid (w5.heap[wr.heap.size]? = some (.cells (attrC (zb a) a.f2.f2 Ai ci) 50 (0, 0))) := Lib.hid hr5; have K5 := Lib.hid hk5; have BR5 : Hid (Below wr.heap.size wr w5) := Lib.hid ((BR3.out.trans (B34.out.mono BR3.out.size)).trans hB5); clear hw5 hB5 hs5 hr5 hk5))
        have HIN : Hid (Kd.R k50 50 w5 w.heap.size (fun k => w3.heap.size ≤ k) (.slice Ai (bareL a.f4).length ci) (bareL a.f4)) := Lib.hid (Rwide RI.out (fun k h1 h2 => K5.out k (by have := Z3.out; omega)) (by have := B3.out.size; omega))
        have ROW : Hid (Kd.R k50 50 w5 w.heap.size (fun _ => True) (.slice Ao acc.length co) acc) := Lib.hid (Kd.R_below RO.out BR5.out)
        have BW5 : Hid (Below w.heap.size w w5) := Lib.hid (BL.out.trans (BR5.out.mono BL.out.size))
        have HOK : Hid (∀ k, w3.heap.size ≤ k → True ∧ some k ≠ Value.ownBlock (.slice Ao acc.length co)) := Lib.hid (fun k hk => ⟨trivial, fun e => by have := own_lt RO.out e.symm; have := Z3.out; omega⟩)
        obtain ⟨y0, y1, y2, y3, y4, y5, y6, y7, y8, y9, y10, y11⟩ := attr_cells G5.out
        dsimp only [zb] at y0 y1 y2 y3 y4 y5 y6 y7 y8 y9 y10 y11
        go_wp2_with (first
          | (at_builtin; refine Kd.R_append k50 (w0 := w) w.heap.size rfl (.tmp 20) (.tmp 22) 42 50 (.agg #[(.string ⟨#[]⟩), (.int .i64 0), (.int .i64 0), (.int .i64 0), (.int .i64 0), (.string ⟨#[]⟩), (.int .u32 0), (.bool false), (.bool false), (.slice none 0 0), (.bool false), (.string ⟨#[]⟩)]) 128 rfl Tryz.underlying42 info50 rfl (by decide) (by omega) (.slice Ao acc.length co) acc (zb a) [.string a.f0, .int .i64 0, .int .i64 0, .int .i64 0, .int .i64 a.f2.f0, .string a.f2.f1, .int .u32 a.f2.f2, .bool a.f2.f3, .bool a.f3, .slice Ai (bareL a.f4).length ci, .bool a.f5, .string a.f6] (fun _ => True) (fun k => w3.heap.size ≤ k) rfl rfl (k50_mkM w5 w.heap.size _ (zb a) HIN.out) HOK.out (fun _ _ => trivial) ROW.out BW5.out BW5.out.size (by have := HAL.out; omega) ?_; intro v6 w6 ho hb hg hat; have R6 : Hid (Kd.R k50 50 w6 w.heap.size (fun _ => True) v6 (bareL (l.take (j + 1)))) := Lib.hid (by rw [HTK.out]; exact ho); have B6 := Lib.hid hb; clear ho hb hg hat y0 y1 y2 y3 y4 y5 y6 y7 y8 y9 y10 y11))
        exact ⟨⟨j + 1, by go_num, by omega, R6, B6⟩, by simp [intOf]; omega⟩
      · obtain rfl : j = l.length := by omega
        have RE := Lib.hid RO.out
        rw [List.take_of_length_le (Nat.le_refl _)] at RE
        clear RO
        go_wp2_with fail
        go_ret
        exact ⟨⟨_, rfl, RE.out⟩, BL.out⟩
theorem Rmove {α : Type} {d : Kd α} {e : TypeId} {w w1 : World} {B B' : Nat} {v : Value} {xs : List α} (h : Kd.R d e w B (fun _ => True) v xs) (hk : ∀ k, B ≤ k → k < w.heap.size → w1.heap[k]? = w.heap[k]?) (hB : B' ≤ B) : Kd.R d e w1 B' (fun _ => True) v xs :=
  Kd.R_mono (Rwide h hk hB) (fun _ _ => trivial)
theorem spot_obj {w w1 : World} {g : Nat} {a : SO} {A5 : Option Addr} {c5 : Nat} (h : w.heap[g]? = some (.cells (objC a A5 c5) 44 (0, 0))) (hw : w1 = w.setCells g 2 [.int .i64 0, .int .i64 0, .int .i64 0]) :
    w1.heap[g]? = some (.cells (objC (zo a) A5 c5) 44 (0, 0)) ∧ w1.heap.size = w.heap.size ∧ ∀ B, B ≤ g → Below B w w1 := by
  obtain ⟨h1, h2, _, h4⟩ := three_row h hw
  exact ⟨h1, h2, h4⟩
set_option maxHeartbeats 16000000 in
theorem pplain_calls (t : ST) (A : Option Addr) (c : Nat) (w : World) (hC : Kd.C k44 w A t.f2.length t.f2) (hc : t.f2.length ≤ c) (hT : TreeOk t) :
    Calls Tryz.prog 20 #[.agg #[.string t.f0, .string t.f1, .slice A t.f2.length c, .bool t.f3, .string t.f4]] w fun e w' => (∃ A' c', e = .returned (.agg #[.string t.f0, .string t.f1, .slice A' t.f2.length c', .bool t.f3, .string t.f4]) ∧ Kd.R k44 44 w' w.heap.size (fun _ => True) (.slice A' t.f2.length c') (t.f2.map bareO)) ∧ Below w.heap.size w w' := by
  have HC := Lib.hid hC
  have HT := Lib.hid hT
  have HLN := Lib.hid hT.len
  clear hC hT
  have hmf : ∀ (fn : Fn) (first cap : Array Value) (w : World), (Instr.makeFunc fn first cap).run Tryz.prog w = .ok (.func fn first cap) w := fun _ _ _ _ => rfl
  go_enter Tryz.func20, Tryz.ntmps20
  go_upto_region 1 with fail
  obtain ⟨w0, hw0⟩ : ∃ w0 : World, w0 = ((w.alloc (.cells #[.string t.f0, .string t.f1, .slice A t.f2.length c, .bool t.f3, .string t.f4] 24)).alloc (.cells #[.string ⟨#[]⟩, .string ⟨#[]⟩, .slice none 0 0, .bool false, .string ⟨#[]⟩] 24)) := ⟨_, rfl⟩
  rw [← hw0]
  obtain ⟨B0, GX0, GY0⟩ := two_box hw0
  have Z0 : Hid (w0.heap.size = w.heap.size + 2) := Lib.hid (by rw [hw0]; simp)
  clear hw0
  replace GX0 : Hid (w0.heap[w.heap.size]? = some (.cells (treeC t A c) 24 (0, 0))) := GX0
  obtain ⟨_, _, y2, _, _⟩ := tree_read GX0.out (Below.refl _ _)
  have ya2 := fun (X : Obj) => cell_alloc1 y2 X
  go_wp2_with fail
  clear y2 ya2 hmf
  obtain ⟨g0, hg0⟩ : ∃ g0, g0 = w0.heap.size := ⟨_, rfl⟩
  obtain ⟨w3, hw3⟩ : ∃ w3 : World, w3 = w0.alloc (.cells #[.func (.func 54) #[] #[.pointer (some ⟨w0.heap.size, 0, none⟩)]] 115) := ⟨_, rfl⟩
  rw [← hw3]
  have B03 : Hid (Below w0.heap.size w0 w3) := Lib.hid (by rw [hw3]; exact alloc_below _ _)
  have F3 : Hid (w3.cell? ⟨g0, 0, none⟩ = some (plnV g0)) := Lib.hid (by rw [hw3, hg0]; exact (cell_row (heap_alloc_new _ _) 0).trans rfl)
  rw [← hg0]
  have B3 : Hid (Below w.heap.size w w3) := Lib.hid (B0.out.trans (B03.out.mono B0.out.size))
  clear hw3 hg0
  go_loopw [4, 11] (fun ov v wr => ∃ j : Nat, v = .int .i64 (j : Int) ∧ j ≤ t.f2.length ∧ Hid (Kd.R k44 44 wr w3.heap.size (fun _ => True) ov ((t.f2.take j).map bareO)) ∧ Hid (Below w3.heap.size w3 wr)) (fun _ v _ => t.f2.length - (intOf v).toNat)
  case atStart => exact ⟨0, by go_num, by omega, Lib.hid (by rw [List.take_zero]; exact Kd.R_nil _ _ _ _ (fun _ => True)), Lib.hid (Below.refl _ _)⟩
  case round =>
    obtain ⟨j, rfl, hj, RO, BL⟩ := hrel
    have hl9 := HLN.out
    have BR := Lib.hid (B3.out.trans (BL.out.mono B3.out.size))
    by_cases hlt : j < t.f2.length
    · have hx : t.f2[j]? = some t.f2[j] := List.getElem?_eq_getElem hlt
      obtain ⟨ad, A5, c5, eA, x0, x1, x2, x3, x4, x5, x6, x7, l5, C5⟩ := at_T44 HC.out (j : Int) (by omega) (by omega)
      rw [rdo_at t.f2 j _ hx] at x0 x1 x2 x3 x4 x5 x6 x7 l5 C5
      have HTK := Lib.hid (bareO_take t.f2 j _ hx)
      have hcn := HT.out.cnt j _ hx
      generalize t.f2[j] = a at hx x0 x1 x2 x3 x4 x5 x6 x7 l5 C5 hcn HTK
      cases eA
      simp only [Int.toNat_natCast] at x0 x1 x2 x3 x4 x5 x6 x7
      replace x0 := (BR.out.cell (World.block_lt_of_cell? w _ x0)).trans x0
      replace x1 := (BR.out.cell (World.block_lt_of_cell? w _ x1)).trans x1
      replace x2 := (BR.out.cell (World.block_lt_of_cell? w _ x2)).trans x2
      replace x3 := (BR.out.cell (World.block_lt_of_cell? w _ x3)).trans x3
      replace x4 := (BR.out.cell (World.block_lt_of_cell? w _ x4)).trans x4
      replace x5 := (BR.out.cell (World.block_lt_of_cell? w _ x5)).trans x5
      replace x6 := (BR.out.cell (World.block_lt_of_cell? w _ x6)).trans x6
      replace x7 := (BR.out.cell (World.block_lt_of_cell? w _ x7)).trans x7
      have HC5 := Lib.hid C5
      have HCN := Lib.hid hcn
      obtain ⟨acc, hacc⟩ : ∃ acc, acc = (t.f2.take j).map bareO := ⟨_, rfl⟩
      have hal : acc.length ≤ 100000000 := by rw [hacc, List.length_map, List.length_take]; omega
      rw [← hacc] at RO HTK
      have HAL := Lib.hid hal
      obtain ⟨Ao, co, hov⟩ := R_form2 RO.out
      subst hov
      clear hx C5 hacc hal hcn
      have tk1 : True := trivial
      go_wp2_with (first
        | (have _t := tk1; refine run_event rfl (.alloc 44) rfl (.pointer (some ⟨wr.heap.size, 0, none⟩)) (wr.alloc (.cells obj0 44)) (by kernel_rfl) ?_; intro w1 hw1; have B1 : Hid (Below wr.heap.size wr w1) := Lib.hid (by rw [hw1]; exact alloc_below _ _); have G1 : Hid (w1.heap[wr.heap.size]? = some (.cells obj0 44 (0, 0))) := Lib.hid (by rw [hw1]; exact heap_alloc_new _ _); have Z1 : Hid (w1.heap.size = wr.heap.size + 1) := Lib.hid (by rw [hw1]; simp); clear hw1 tk1 _t)
        | ((with_reducible refine gate_store (t := 44) (p := 6) rfl ?_); refine put_event rfl 44 _ _ rfl wr.heap.size (objC a A5 c5) rfl rfl 44 obj0 G1.out (by kernel_rfl) rfl (obj_all _ _ _) wr.heap.size (Nat.le_refl _) ?_; intro w2 hb2 hB2 hs2 ho2; have G2 := Lib.hid hb2; have BR2 : Hid (Below wr.heap.size wr w2) := Lib.hid (B1.out.trans hB2); have Z2 : Hid (w2.heap.size = wr.heap.size + 1) := Lib.hid (by rw [hs2, Z1.out]); clear hb2 hB2 hs2 ho2 x0 x1 x2 x3 x4 x5 x6 x7)
        | ((with_reducible refine gate_store (t := 41) (p := 16) rfl ?_); refine cells_event rfl 41 _ _ rfl wr.heap.size 2 [.int .i64 0, .int .i64 0, .int .i64 0] rfl rfl (by simp [Value.oneCell']) (there_row G2.out (by simp [objC])) (by kernel_rfl) ?_; intro w5 hw5; obtain ⟨hr5, hz5, hB5⟩ := spot_obj G2.out hw5; have G5 : Hid (w5.heap[wr.heap.size]? = some (.cells (objC (zo a) A5 c5) 44 (0, 0))) := Lib.hid hr5; have BR5 : Hid (Below wr.heap.size wr w5) := Lib.hid (BR2.out.trans (hB5 _ (Nat.le_refl _))); have Z5 : Hid (w5.heap.size = wr.heap.size + 1) := Lib.hid (by rw [hz5, Z2.out]); have B35 : Hid (Below w3.heap.size w3 w5) := Lib.hid (BL.out.trans (BR5.out.mono BL.out.size)); have y5 : w5.cell? ⟨wr.heap.size, 5, none⟩ = some (.slice A5 a.f3.length c5) := (cell_row hr5 5).trans rfl; have y12 : w5.cell? ⟨g0, 0, none⟩ = some (.func (.func 54) #[] #[.pointer (some ⟨g0, 0, none⟩)]) := (B35.out.cell (World.block_lt_of_cell? w3 _ F3.out)).trans F3.out; clear hw5 hr5 hz5 hB5))
      refine (plain1_calls (cntL a.f3) a.f3 A5 c5 g0 w5 (Nat.le_refl _) (Kd.C_below HC5.out (BR.out.trans (BR5.out.mono BR.out.size))) l5 (by have := HCN.out; omega) y12).mono ?_
      rintro e w6 ⟨⟨vi, rfl, hRi⟩, hB6⟩
      obtain ⟨Ai, ci, hvi⟩ := R_form2 hRi
      subst hvi
      have RI := Lib.hid hRi
      have B56 := Lib.hid hB6
      have G6 : Hid (w6.heap[wr.heap.size]? = some (.cells (objC (zo a) A5 c5) 44 (0, 0))) := Lib.hid ((hB6.block _ (Array.getElem?_eq_some_iff.1 G5.out).1).trans G5.out)
      clear hRi hB6 y5 y12
      go_upto_region 9 with (first
        | ((with_reducible refine gate_store (t := 42) (p := 21) rfl ?_); refine cell_event rfl 42 _ _ rfl wr.heap.size 5 (.slice Ai (bareL a.f3).length ci) rfl rfl rfl (there_row G6.out (by simp [objC])) (by kernel_rfl) wr.heap.size (Nat.le_refl _) ?_; intro w7 hw7 hB7 hs7; obtain ⟨hr7, hk7⟩ := one_row G6.out hw7; have G7 : Hid (w7.heap[wr.heap.size]? = some (.cells (objC (bareO a) Ai ci) 44 (0, 0))) := Lib.hid hr7; have K7 := Lib.hid hk7; have BR7 : Hid (Below wr.heap.size wr w7) := Lib.hid ((BR5.out.trans (B56.out.mono BR5.out.size)).trans hB7); clear hw7 hB7 hs7 hr7 hk7))
      have HIN : Hid (Kd.R k50 50 w7 w3.heap.size (fun k => w5.heap.size ≤ k) (.slice Ai (bareL a.f3).length ci) (bareL a.f3)) := Lib.hid (Rwide RI.out (fun k h1 h2 => K7.out k (by have := Z5.out; omega)) (by have := B35.out.size; omega))
      have ROW : Hid (Kd.R k44 44 w7 w3.heap.size (fun _ => True) (.slice Ao acc.length co) acc) := Lib.hid (Kd.R_below RO.out BR7.out)
      have BW7 : Hid (Below w3.heap.size w3 w7) := Lib.hid (BL.out.trans (BR7.out.mono BL.out.size))
      have HOK : Hid (∀ k, w5.heap.size ≤ k → True ∧ some k ≠ Value.ownBlock (.slice Ao acc.length co)) := Lib.hid (fun k hk => ⟨trivial, fun e => by have := own_lt RO.out e.symm; have := Z5.out; omega⟩)
      obtain ⟨y0, y1, y2, y3, y4, y5, y6, y7⟩ := obj_cells G7.out
      dsimp only [bareO] at y0 y1 y2 y3 y4 y5 y6 y7
      go_wp2_with (first
        | (at_builtin; refine Kd.R_append k44 (w0 := w3) w3.heap.size rfl (.tmp 22) (.tmp 24) 22 44 (.agg #[(.string ⟨#[]⟩), (.string ⟨#[]⟩), (.int .i64 0), (.int .i64 0), (.int .i64 0), (.slice none 0 0), (.bool false), (.string ⟨#[]⟩)]) 104 rfl Tryz.underlying22 info44 rfl (by decide) (by omega) (.slice Ao acc.length co) acc (bareO a) [.string a.f0, .string a.f1, .int .i64 0, .int .i64 0, .int .i64 0, .slice Ai (bareL a.f3).length ci, .bool a.f4, .string a.f5] (fun _ => True) (fun k => w5.heap.size ≤ k) rfl rfl (k44_mkM w7 w3.heap.size _ (bareO a) HIN.out) HOK.out (fun _ _ => trivial) ROW.out BW7.out BW7.out.size (by have := HAL.out; omega) ?_; intro v8 w8 ho hb hg hat; have R8 : Hid (Kd.R k44 44 w8 w3.heap.size (fun _ => True) v8 ((t.f2.take (j + 1)).map bareO)) := Lib.hid (by rw [HTK.out]; exact ho); have B8 := Lib.hid hb; clear ho hb hg hat y0 y1 y2 y3 y4 y5 y6 y7))
      exact ⟨⟨j + 1, by go_num, by omega, R8, B8⟩, by simp [intOf]; omega⟩
    · obtain rfl : j = t.f2.length := by omega
      have RE := Lib.hid RO.out
      rw [List.take_of_length_le (Nat.le_refl _)] at RE
      obtain ⟨Ao, co, hov⟩ := R_form2 RE.out
      rw [List.length_map] at hov
      subst hov
      clear RO
      have Z3 : Hid (w.heap.size + 2 ≤ w3.heap.size) := Lib.hid (by have := Z0.out; have := B03.out.size; omega)
      have GXr : Hid (wr.heap[w.heap.size]? = some (.cells (treeC t A c) 24 (0, 0))) := Lib.hid ((BL.out.block _ (by have := Z3.out; omega)).trans ((B03.out.block _ (by have := Z0.out; omega)).trans GX0.out))
      have GYr : Hid (wr.heap[w.heap.size + 1]? = some (.cells tree0 24 (0, 0))) := Lib.hid ((BL.out.block _ (by have := Z3.out; omega)).trans ((B03.out.block _ (by have := Z0.out; omega)).trans GY0.out))
      go_upto_region 12 with (first
        | ((with_reducible refine gate_store (t := 22) (p := 28) rfl ?_); refine cell_event rfl 22 _ _ rfl w.heap.size 2 (.slice Ao t.f2.length co) rfl rfl rfl (there_row GXr.out (by simp [treeC])) (by kernel_rfl) w.heap.size (Nat.le_refl _) ?_; intro w9 hw9 hB9 hs9; obtain ⟨hr9, hk9⟩ := one_row GXr.out hw9; have G9 : Hid (w9.heap[w.heap.size]? = some (.cells (treeC t Ao co) 24 (0, 0))) := Lib.hid hr9; have K9 := Lib.hid hk9; have S9 := Lib.hid hs9; have B9 : Hid (Below w.heap.size w w9) := Lib.hid (BR.out.trans hB9); have GY9 : Hid (w9.heap[w.heap.size + 1]? = some (.cells tree0 24 (0, 0))) := Lib.hid ((hk9 _ (by omega)).trans GYr.out); clear hw9 hB9 hs9 hr9 hk9))
      obtain ⟨y0, y1, y2, y3, y4⟩ := tree_read G9.out (Below.refl _ _)
      go_wp2_with (first
        | ((with_reducible refine gate_store (t := 24) (p := 2) rfl ?_); refine put_event rfl 24 _ _ rfl (w.heap.size + 1) (treeC t Ao co) rfl rfl 24 tree0 GY9.out (by kernel_rfl) rfl (tree_all _ _ _) (w.heap.size + 1) (Nat.le_refl _) ?_; intro w10 hb10 hB10 hs10 ho10; have G10 := Lib.hid hb10; have O10 := Lib.hid ho10; have B10 : Hid (Below w.heap.size w w10) := Lib.hid (B9.out.trans (hB10.mono (by omega))); clear hb10 hB10 hs10 ho10 y0 y1 y2 y3 y4))
      obtain ⟨r0, r1, r2, r3, r4⟩ := tree_read G10.out (Below.refl _ _)
      refine bodyPost_ret (v := .agg #[.string t.f0, .string t.f1, .slice Ao t.f2.length co, .bool t.f3, .string t.f4]) (by simp [results, Tryz.results20, go_sem, r0, r1, r2, r3, r4]) rfl ?_
      refine ⟨⟨Ao, co, rfl, ?_⟩, B10.out⟩
      exact Rmove RE.out (fun k h1 h2 => by have := Z3.out; rw [O10.out k (by omega), K9.out k (by omega)]) (by have := Z3.out; omega)
end Go.Proofs.YtmfejjlmflgnbaaGreatDoor.Tok

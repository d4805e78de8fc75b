/- CONTRACT: package printer's Same: the closure that compares attributes, by induction on how many they are. -/
import Derived.Test.YtmfejjlmflgnbaaGreatDoorZSame
namespace Go.Proofs.YtmfejjlmflgnbaaGreatDoor.Tok
open Go.RowKit Go.Proofs.YtmfejjlmflgnbaaGreatDoor.PA Go.Proofs.YtmfejjlmflgnbaaGreatDoorW.PrintWords Go.Proofs.YtmfejjlmflgnbaaGreatDoorW.PrintLast Go.Proofs.YtmfejjlmflgnbaaGreatDoor.Sp Go.Proofs.YtmfejjlmflgnbaaGreatDoor.Tr
set_option linter.unusedVariables false
set_option linter.unusedSimpArgs false
set_option maxRecDepth 100000

theorem attr_read12 {w w' : World} {g : Nat} {a : SA} {n : Int} {A9 : Option Addr} {c9 : Nat} (h : w.heap[g]? = some (.cells (attrC a n A9 c9) 50 (0, 0))) (hB : Below w.heap.size w w') :
    w'.cell? ⟨g, 0, none⟩ = some (.string a.f0) ∧ w'.cell? ⟨g, 1, none⟩ = some (.int .i64 a.f1.f0) ∧ w'.cell? ⟨g, 2, none⟩ = some (.int .i64 a.f1.f1) ∧ w'.cell? ⟨g, 3, none⟩ = some (.int .i64 a.f1.f2) ∧ w'.cell? ⟨g, 4, none⟩ = some (.int .i64 a.f2.f0) ∧ w'.cell? ⟨g, 5, none⟩ = some (.string a.f2.f1) ∧ w'.cell? ⟨g, 6, none⟩ = some (.int .u32 n) ∧ w'.cell? ⟨g, 7, none⟩ = some (.bool a.f2.f3) ∧ w'.cell? ⟨g, 8, none⟩ = some (.bool a.f3) ∧ w'.cell? ⟨g, 9, none⟩ = some (.slice A9 a.f4.length c9) ∧ w'.cell? ⟨g, 10, none⟩ = some (.bool a.f5) ∧ w'.cell? ⟨g, 11, none⟩ = some (.string a.f6) := by
  have h2 : w'.heap[g]? = some (.cells (attrC a n A9 c9) 50 (0, 0)) := (hB.block _ (Array.getElem?_eq_some_iff.1 h).1).trans h
  exact ⟨(cell_row h2 0).trans rfl, (cell_row h2 1).trans rfl, (cell_row h2 2).trans rfl, (cell_row h2 3).trans rfl, (cell_row h2 4).trans rfl, (cell_row h2 5).trans rfl, (cell_row h2 6).trans rfl, (cell_row h2 7).trans rfl, (cell_row h2 8).trans rfl, (cell_row h2 9).trans rfl, (cell_row h2 10).trans rfl, (cell_row h2 11).trans rfl⟩
def samV (a : Nat) : Value := .func (.func 55) #[] #[.pointer (some ⟨a, 0, none⟩)]
theorem str_ne {x y : ByteArray} (h : ¬ x = y) : (x.toList == y.toList) = false := by rw [toList_inj, decide_eq_false h]
set_option maxHeartbeats 16000000 in
theorem same1_calls (m : Nat) : ∀ (l l' : List SA) (A A' : Option Addr) (c c' g0 : Nat) (w : World), cntL l ≤ m → Kd.C k50 w A l.length l → l.length ≤ c → Kd.C k50 w A' l'.length l' → l'.length ≤ c' → cntL l ≤ 1000000000 → w.cell? ⟨g0, 0, none⟩ = some (samV g0) →
    Calls Tryz.prog 55 #[.slice A l.length c, .slice A' l'.length c', .pointer (some ⟨g0, 0, none⟩)] w fun e w' => e = .returned (.bool (sameL false l l')) ∧ Below w.heap.size w w' := by
  induction m with
  | zero =>
    intro l l' A A' c c' g0 w hm hC hc hC' hc' hb hf
    obtain rfl : l = [] := by
      have := cnt_len l
      exact List.length_eq_zero_iff.1 (by omega)
    by_cases he : l'.length = 0
    · obtain rfl := List.length_eq_zero_iff.1 he
      clear hm hC hC' hb hf he
      go_enter Tryz.func55, Tryz.ntmps55
      go_wp2_with fail
      go_loopw [16] (fun v wr => v = .int .i64 0 ∧ wr = w) (fun v _ => 0)
      case atStart => exact ⟨rfl, rfl⟩
      case round =>
        obtain ⟨rfl, rfl⟩ := hrel
        go_wp2_with fail
        go_ret
        exact ⟨show Ending.returned (.bool true) = _ by rw [sameL_nil], Below.refl _ _⟩
    · have HS := Lib.hid (sameL_len false [] l' (fun h => he (by simpa using h.symm)))
      have d1 : ((0 : Int) == (l'.length : Int)) = false := by rw [beq_eq_false_iff_ne]; omega
      have d2 : (0 == l'.length) = false := by rw [beq_eq_false_iff_ne]; omega
      have d3 : ((0 : Int) != (l'.length : Int)) = true := by simp; omega
      have d4 : (0 != l'.length) = true := by simp; omega
      clear hm hC hC' hb hf he
      go_enter Tryz.func55, Tryz.ntmps55
      go_wp2_with fail
      go_ret
      exact ⟨show Ending.returned (.bool false) = _ by rw [HS.out], Below.refl _ _⟩
  | succ m ih =>
    intro l l' A A' c c' g0 w hm hC hc hC' hc' hb hf
    by_cases he : l.length = l'.length
    · have HM := Lib.hid hm
      have HC := Lib.hid hC
      have HC' := Lib.hid hC'
      have HB := Lib.hid hb
      have HF := Lib.hid hf
      have HE := Lib.hid he
      have hlen := cnt_len l
      have HL := Lib.hid (show l.length ≤ 1000000000 by omega)
      rw [← he]
      clear hm hC hC' hb hf hlen he
      go_enter Tryz.func55, Tryz.ntmps55
      go_wp2_with fail
      go_loopw [16] (fun v wr => ∃ j : Nat, v = .int .i64 (j : Int) ∧ j ≤ l.length ∧ Hid (sameL false (l.drop j) (l'.drop j) = sameL false l l') ∧ Hid (Below w.heap.size w wr)) (fun v _ => l.length - (intOf v).toNat)
      case atStart => exact ⟨0, by go_num, by omega, Lib.hid rfl, Lib.hid (Below.refl _ _)⟩
      case round =>
        obtain ⟨j, rfl, hj, RL, BL⟩ := hrel
        have hl9 := HL.out
        by_cases hlt : j < l.length
        · have hx : l[j]? = some l[j] := List.getElem?_eq_getElem hlt
          have hlt' : j < l'.length := by have := HE.out; omega
          have hx' : l'[j]? = some l'[j] := List.getElem?_eq_getElem hlt'
          obtain ⟨ad, A9, c9, eA, x0, x1, x2, x3, x4, x5, x6, x7, x8, x9, x10, x11, l9, C9⟩ := at_T50 HC.out (j : Int) (by omega) (by omega)
          obtain ⟨bd, A8, c8, eB, z0, z1, z2, z3, z4, z5, z6, z7, z8, z9, z10, z11, l8, C8⟩ := at_T50 HC'.out (j : Int) (by omega) (by omega)
          rw [rd_at l j _ hx] at x0 x1 x2 x3 x4 x5 x6 x7 x8 x9 x10 x11 l9 C9
          rw [rd_at l' j _ hx'] at z0 z1 z2 z3 z4 z5 z6 z7 z8 z9 z10 z11 l8 C8
          have hcn := cnt_get l j _ hx
          have hcn' : l'[j].f4.length ≤ l'[j].f4.length := Nat.le_refl _
          rw [cnt_eq] at hcn
          generalize l[j] = a at hx x0 x1 x2 x3 x4 x5 x6 x7 x8 x9 x10 x11 l9 C9 hcn
          generalize l'[j] = b at hx' z0 z1 z2 z3 z4 z5 z6 z7 z8 z9 z10 z11 l8 C8
          cases eA
          cases eB
          simp only [Int.toNat_natCast] at x0 x1 x2 x3 x4 x5 x6 x7 x8 x9 x10 x11 z0 z1 z2 z3 z4 z5 z6 z7 z8 z9 z10 z11
          replace x0 := (BL.out.cell (World.block_lt_of_cell? w _ x0)).trans x0
          replace x1 := (BL.out.cell (World.block_lt_of_cell? w _ x1)).trans x1
          replace x2 := (BL.out.cell (World.block_lt_of_cell? w _ x2)).trans x2
          replace x3 := (BL.out.cell (World.block_lt_of_cell? w _ x3)).trans x3
          replace x4 := (BL.out.cell (World.block_lt_of_cell? w _ x4)).trans x4
          replace x5 := (BL.out.cell (World.block_lt_of_cell? w _ x5)).trans x5
          replace x6 := (BL.out.cell (World.block_lt_of_cell? w _ x6)).trans x6
          replace x7 := (BL.out.cell (World.block_lt_of_cell? w _ x7)).trans x7
          replace x8 := (BL.out.cell (World.block_lt_of_cell? w _ x8)).trans x8
          replace x9 := (BL.out.cell (World.block_lt_of_cell? w _ x9)).trans x9
          replace x10 := (BL.out.cell (World.block_lt_of_cell? w _ x10)).trans x10
          replace x11 := (BL.out.cell (World.block_lt_of_cell? w _ x11)).trans x11
          replace z0 := (BL.out.cell (World.block_lt_of_cell? w _ z0)).trans z0
          replace z1 := (BL.out.cell (World.block_lt_of_cell? w _ z1)).trans z1
          replace z2 := (BL.out.cell (World.block_lt_of_cell? w _ z2)).trans z2
          replace z3 := (BL.out.cell (World.block_lt_of_cell? w _ z3)).trans z3
          replace z4 := (BL.out.cell (World.block_lt_of_cell? w _ z4)).trans z4
          replace z5 := (BL.out.cell (World.block_lt_of_cell? w _ z5)).trans z5
          replace z6 := (BL.out.cell (World.block_lt_of_cell? w _ z6)).trans z6
          replace z7 := (BL.out.cell (World.block_lt_of_cell? w _ z7)).trans z7
          replace z8 := (BL.out.cell (World.block_lt_of_cell? w _ z8)).trans z8
          replace z9 := (BL.out.cell (World.block_lt_of_cell? w _ z9)).trans z9
          replace z10 := (BL.out.cell (World.block_lt_of_cell? w _ z10)).trans z10
          replace z11 := (BL.out.cell (World.block_lt_of_cell? w _ z11)).trans z11
          have HX := Lib.hid hx
          have HX' := Lib.hid hx'
          have HCN := Lib.hid hcn
          have HC9 := Lib.hid C9
          have HC8 := Lib.hid C8
          clear hx hx' hcn hcn' C9 C8
          have HSA := Lib.hid (sameA_eq false a b)
          by_cases hN : a.f0 = b.f0
          · have HDN : Hid ((a.f0.toList == b.f0.toList) = true) := Lib.hid (by rw [toList_inj]; exact decide_eq_true hN)
            have HN0 := Lib.hid hN
            clear hN
            by_cases hV : sameV a.f2 b.f2 = true
            · have hv := fun W => val_neq a.f2.f0 b.f2.f0 a.f2.f1 b.f2.f1 a.f2.f2 b.f2.f2 a.f2.f3 b.f2.f3 W false (by rw [val_same]; exact hV)
              have HV0 := Lib.hid hV
              clear hV
              by_cases hB : a.f3 = b.f3
              · have HDB : Hid ((a.f3 == b.f3) = true) := Lib.hid (by simp [hB])
                have HDB2 : Hid ((a.f3 != b.f3) = false) := Lib.hid (by simp [hB])
                have HB0 := Lib.hid hB
                clear hB
                by_cases hT : a.f5 = b.f5
                · have HDT : Hid ((a.f5 == b.f5) = true) := Lib.hid (by simp [hT])
                  have HDT2 : Hid ((a.f5 != b.f5) = false) := Lib.hid (by simp [hT])
                  have HT0 := Lib.hid hT
                  clear hT
                  by_cases hO : a.f6 = b.f6
                  · have HDO : Hid ((a.f6.toList == b.f6.toList) = true) := Lib.hid (by rw [toList_inj]; exact decide_eq_true hO)
                    have HR0 : Hid (sameA false a b = sameL false a.f4 b.f4) := Lib.hid (by rw [HSA.out, HN0.out, HV0.out, HB0.out, HT0.out, hO]; simp)
                    clear hO
                    have tk1 : True := trivial
                    go_wp2_with (first
                      | (have _t := tk1; refine run_event rfl (.alloc 50) rfl (.pointer (some ⟨wr.heap.size, 0, none⟩)) (wr.alloc (.cells attr0 50)) (by kernel_rfl) ?_; intro w1 hw1; have B1 : Hid (Below wr.heap.size wr w1) := Lib.hid (by rw [hw1]; exact alloc_below _ _); have G1 : Hid (w1.heap[wr.heap.size]? = some (.cells attr0 50 (0, 0))) := Lib.hid (by rw [hw1]; exact heap_alloc_new _ _); clear hw1 tk1 _t)
                      | ((with_reducible refine gate_store (t := 50) (p := 7) rfl ?_); refine put_event rfl 50 _ _ rfl wr.heap.size (attrC a a.f2.f2 A9 c9) rfl rfl 50 attr0 G1.out (by kernel_rfl) rfl (attr_all _ _ _ _) wr.heap.size (Nat.le_refl _) ?_; intro w2 hb2 hB2 hs2 ho2; have G2 := Lib.hid hb2; have BR2 : Hid (Below wr.heap.size wr w2) := Lib.hid (B1.out.trans hB2); replace z0 := (BR2.out.cell (World.block_lt_of_cell? wr _ z0)).trans z0; replace z1 := (BR2.out.cell (World.block_lt_of_cell? wr _ z1)).trans z1; replace z2 := (BR2.out.cell (World.block_lt_of_cell? wr _ z2)).trans z2; replace z3 := (BR2.out.cell (World.block_lt_of_cell? wr _ z3)).trans z3; replace z4 := (BR2.out.cell (World.block_lt_of_cell? wr _ z4)).trans z4; replace z5 := (BR2.out.cell (World.block_lt_of_cell? wr _ z5)).trans z5; replace z6 := (BR2.out.cell (World.block_lt_of_cell? wr _ z6)).trans z6; replace z7 := (BR2.out.cell (World.block_lt_of_cell? wr _ z7)).trans z7; replace z8 := (BR2.out.cell (World.block_lt_of_cell? wr _ z8)).trans z8; replace z9 := (BR2.out.cell (World.block_lt_of_cell? wr _ z9)).trans z9; replace z10 := (BR2.out.cell (World.block_lt_of_cell? wr _ z10)).trans z10; replace z11 := (BR2.out.cell (World.block_lt_of_cell? wr _ z11)).trans z11; clear hb2 hB2 hs2 ho2 x0 x1 x2 x3 x4 x5 x6 x7 x8 x9 x10 x11)
                      | (refine run_event rfl (.alloc 50) rfl (.pointer (some ⟨w2.heap.size, 0, none⟩)) (w2.alloc (.cells attr0 50)) (by kernel_rfl) ?_; intro w3 hw3; have B3 : Hid (Below w2.heap.size w2 w3) := Lib.hid (by rw [hw3]; exact alloc_below _ _); have G3 : Hid (w3.heap[w2.heap.size]? = some (.cells attr0 50 (0, 0))) := Lib.hid (by rw [hw3]; exact heap_alloc_new _ _); clear hw3)
                      | ((with_reducible refine gate_store (t := 50) (p := 8) rfl ?_); refine put_event rfl 50 _ _ rfl w2.heap.size (attrC b b.f2.f2 A8 c8) rfl rfl 50 attr0 G3.out (by kernel_rfl) rfl (attr_all _ _ _ _) w2.heap.size (Nat.le_refl _) ?_; intro w4 hb4 hB4 hs4 ho4; have B24 : Hid (Below w2.heap.size w2 w4) := Lib.hid (B3.out.trans hB4); have B5 : Hid (Below w.heap.size w w4) := Lib.hid (BL.out.trans ((BR2.out.trans (B24.out.mono BR2.out.size)).mono BL.out.size)); obtain ⟨y0, _, _, _, y4, y5, y6, y7, y8, y9, y10, y11⟩ := attr_read12 G2.out B24.out; obtain ⟨t0, _, _, _, t4, t5, t6, t7, t8, t9, t10, t11⟩ := attr_read12 hb4 (Below.refl _ _); have y12 : w4.cell? ⟨g0, 0, none⟩ = some (.func (.func 55) #[] #[.pointer (some ⟨g0, 0, none⟩)]) := (B5.out.cell (World.block_lt_of_cell? w _ HF.out)).trans HF.out; (try have dN := HDN.out); (try have dB := HDB.out); (try have dB2 := HDB2.out); (try have dT := HDT.out); (try have dT2 := HDT2.out); (try have dO := HDO.out); clear hb4 hB4 hs4 ho4 z0 z1 z2 z3 z4 z5 z6 z7 z8 z9 z10 z11))
                    refine (ih a.f4 b.f4 A9 A8 c9 c8 g0 w4 (by have := HCN.out; have := HM.out; omega) (Kd.C_below HC9.out B5.out) l9 (Kd.C_below HC8.out B5.out) l8 (by have := HCN.out; have := HB.out; omega) y12).mono ?_
                    rintro e w6 ⟨he6, hB6⟩
                    have B6 := Lib.hid (B5.out.trans (hB6.mono B5.out.size))
                    clear hB6 y0 y4 y5 y6 y7 y8 y9 y10 y11 y12 t0 t4 t5 t6 t7 t8 t9 t10 t11
                    obtain ⟨r6, hr6⟩ : ∃ r6, sameL false a.f4 b.f4 = r6 := ⟨_, rfl⟩
                    rw [hr6] at he6
                    subst he6
                    have HR6 := Lib.hid hr6
                    clear hr6
                    cases r6 with
                    | false =>
                      have HFALSE : Hid (sameL false l l' = false) := Lib.hid (by rw [← RL.out, sameL_drop HX.out HX'.out, HR0.out, HR6.out, Bool.false_and])
                      go_wp2_with fail
                      go_ret
                      exact ⟨show Ending.returned (.bool false) = _ by rw [HFALSE.out], B6.out⟩
                    | true =>
                      have HN : Hid (sameL false (l.drop (j + 1)) (l'.drop (j + 1)) = sameL false l l') := Lib.hid (by rw [← RL.out, sameL_drop HX.out HX'.out, HR0.out, HR6.out, Bool.true_and])
                      go_wp2_with fail
                      exact ⟨⟨j + 1, by go_num, by omega, HN, B6⟩, by simp [intOf]; omega⟩
                  · have dd := str_ne hO
                    have HFALSE : Hid (sameL false l l' = false) := Lib.hid (by rw [← RL.out, sameL_drop HX.out HX'.out, show sameA false a b = false from (by rw [HSA.out, decide_eq_false hO]; simp), Bool.false_and])
                    have tk1 : True := trivial
                    go_wp2_with (first
                      | (have _t := tk1; refine run_event rfl (.alloc 50) rfl (.pointer (some ⟨wr.heap.size, 0, none⟩)) (wr.alloc (.cells attr0 50)) (by kernel_rfl) ?_; intro w1 hw1; have B1 : Hid (Below wr.heap.size wr w1) := Lib.hid (by rw [hw1]; exact alloc_below _ _); have G1 : Hid (w1.heap[wr.heap.size]? = some (.cells attr0 50 (0, 0))) := Lib.hid (by rw [hw1]; exact heap_alloc_new _ _); clear hw1 tk1 _t)
                      | ((with_reducible refine gate_store (t := 50) (p := 7) rfl ?_); refine put_event rfl 50 _ _ rfl wr.heap.size (attrC a a.f2.f2 A9 c9) rfl rfl 50 attr0 G1.out (by kernel_rfl) rfl (attr_all _ _ _ _) wr.heap.size (Nat.le_refl _) ?_; intro w2 hb2 hB2 hs2 ho2; have G2 := Lib.hid hb2; have BR2 : Hid (Below wr.heap.size wr w2) := Lib.hid (B1.out.trans hB2); replace z0 := (BR2.out.cell (World.block_lt_of_cell? wr _ z0)).trans z0; replace z1 := (BR2.out.cell (World.block_lt_of_cell? wr _ z1)).trans z1; replace z2 := (BR2.out.cell (World.block_lt_of_cell? wr _ z2)).trans z2; replace z3 := (BR2.out.cell (World.block_lt_of_cell? wr _ z3)).trans z3; replace z4 := (BR2.out.cell (World.block_lt_of_cell? wr _ z4)).trans z4; replace z5 := (BR2.out.cell (World.block_lt_of_cell? wr _ z5)).trans z5; replace z6 := (BR2.out.cell (World.block_lt_of_cell? wr _ z6)).trans z6; replace z7 := (BR2.out.cell (World.block_lt_of_cell? wr _ z7)).trans z7; replace z8 := (BR2.out.cell (World.block_lt_of_cell? wr _ z8)).trans z8; replace z9 := (BR2.out.cell (World.block_lt_of_cell? wr _ z9)).trans z9; replace z10 := (BR2.out.cell (World.block_lt_of_cell? wr _ z10)).trans z10; replace z11 := (BR2.out.cell (World.block_lt_of_cell? wr _ z11)).trans z11; clear hb2 hB2 hs2 ho2 x0 x1 x2 x3 x4 x5 x6 x7 x8 x9 x10 x11)
                      | (refine run_event rfl (.alloc 50) rfl (.pointer (some ⟨w2.heap.size, 0, none⟩)) (w2.alloc (.cells attr0 50)) (by kernel_rfl) ?_; intro w3 hw3; have B3 : Hid (Below w2.heap.size w2 w3) := Lib.hid (by rw [hw3]; exact alloc_below _ _); have G3 : Hid (w3.heap[w2.heap.size]? = some (.cells attr0 50 (0, 0))) := Lib.hid (by rw [hw3]; exact heap_alloc_new _ _); clear hw3)
                      | ((with_reducible refine gate_store (t := 50) (p := 8) rfl ?_); refine put_event rfl 50 _ _ rfl w2.heap.size (attrC b b.f2.f2 A8 c8) rfl rfl 50 attr0 G3.out (by kernel_rfl) rfl (attr_all _ _ _ _) w2.heap.size (Nat.le_refl _) ?_; intro w4 hb4 hB4 hs4 ho4; have B24 : Hid (Below w2.heap.size w2 w4) := Lib.hid (B3.out.trans hB4); have B5 : Hid (Below w.heap.size w w4) := Lib.hid (BL.out.trans ((BR2.out.trans (B24.out.mono BR2.out.size)).mono BL.out.size)); obtain ⟨y0, _, _, _, y4, y5, y6, y7, y8, y9, y10, y11⟩ := attr_read12 G2.out B24.out; obtain ⟨t0, _, _, _, t4, t5, t6, t7, t8, t9, t10, t11⟩ := attr_read12 hb4 (Below.refl _ _); have y12 : w4.cell? ⟨g0, 0, none⟩ = some (.func (.func 55) #[] #[.pointer (some ⟨g0, 0, none⟩)]) := (B5.out.cell (World.block_lt_of_cell? w _ HF.out)).trans HF.out; (try have dN := HDN.out); (try have dB := HDB.out); (try have dB2 := HDB2.out); (try have dT := HDT.out); (try have dT2 := HDT2.out); (try have dO := HDO.out); clear hb4 hB4 hs4 ho4 z0 z1 z2 z3 z4 z5 z6 z7 z8 z9 z10 z11))
                    go_ret
                    exact ⟨show Ending.returned (.bool false) = _ by rw [HFALSE.out], B5.out⟩
                · have dd : (a.f5 == b.f5) = false := by rw [beq_eq_false_iff_ne]; exact hT
                  have dd2 : (a.f5 != b.f5) = true := by simp [hT]
                  have HFALSE : Hid (sameL false l l' = false) := Lib.hid (by rw [← RL.out, sameL_drop HX.out HX'.out, show sameA false a b = false from (by rw [HSA.out, dd]; simp), Bool.false_and])
                  have tk1 : True := trivial
                  go_wp2_with (first
                    | (have _t := tk1; refine run_event rfl (.alloc 50) rfl (.pointer (some ⟨wr.heap.size, 0, none⟩)) (wr.alloc (.cells attr0 50)) (by kernel_rfl) ?_; intro w1 hw1; have B1 : Hid (Below wr.heap.size wr w1) := Lib.hid (by rw [hw1]; exact alloc_below _ _); have G1 : Hid (w1.heap[wr.heap.size]? = some (.cells attr0 50 (0, 0))) := Lib.hid (by rw [hw1]; exact heap_alloc_new _ _); clear hw1 tk1 _t)
                    | ((with_reducible refine gate_store (t := 50) (p := 7) rfl ?_); refine put_event rfl 50 _ _ rfl wr.heap.size (attrC a a.f2.f2 A9 c9) rfl rfl 50 attr0 G1.out (by kernel_rfl) rfl (attr_all _ _ _ _) wr.heap.size (Nat.le_refl _) ?_; intro w2 hb2 hB2 hs2 ho2; have G2 := Lib.hid hb2; have BR2 : Hid (Below wr.heap.size wr w2) := Lib.hid (B1.out.trans hB2); replace z0 := (BR2.out.cell (World.block_lt_of_cell? wr _ z0)).trans z0; replace z1 := (BR2.out.cell (World.block_lt_of_cell? wr _ z1)).trans z1; replace z2 := (BR2.out.cell (World.block_lt_of_cell? wr _ z2)).trans z2; replace z3 := (BR2.out.cell (World.block_lt_of_cell? wr _ z3)).trans z3; replace z4 := (BR2.out.cell (World.block_lt_of_cell? wr _ z4)).trans z4; replace z5 := (BR2.out.cell (World.block_lt_of_cell? wr _ z5)).trans z5; replace z6 := (BR2.out.cell (World.block_lt_of_cell? wr _ z6)).trans z6; replace z7 := (BR2.out.cell (World.block_lt_of_cell? wr _ z7)).trans z7; replace z8 := (BR2.out.cell (World.block_lt_of_cell? wr _ z8)).trans z8; replace z9 := (BR2.out.cell (World.block_lt_of_cell? wr _ z9)).trans z9; replace z10 := (BR2.out.cell (World.block_lt_of_cell? wr _ z10)).trans z10; replace z11 := (BR2.out.cell (World.block_lt_of_cell? wr _ z11)).trans z11; clear hb2 hB2 hs2 ho2 x0 x1 x2 x3 x4 x5 x6 x7 x8 x9 x10 x11)
                    | (refine run_event rfl (.alloc 50) rfl (.pointer (some ⟨w2.heap.size, 0, none⟩)) (w2.alloc (.cells attr0 50)) (by kernel_rfl) ?_; intro w3 hw3; have B3 : Hid (Below w2.heap.size w2 w3) := Lib.hid (by rw [hw3]; exact alloc_below _ _); have G3 : Hid (w3.heap[w2.heap.size]? = some (.cells attr0 50 (0, 0))) := Lib.hid (by rw [hw3]; exact heap_alloc_new _ _); clear hw3)
                    | ((with_reducible refine gate_store (t := 50) (p := 8) rfl ?_); refine put_event rfl 50 _ _ rfl w2.heap.size (attrC b b.f2.f2 A8 c8) rfl rfl 50 attr0 G3.out (by kernel_rfl) rfl (attr_all _ _ _ _) w2.heap.size (Nat.le_refl _) ?_; intro w4 hb4 hB4 hs4 ho4; have B24 : Hid (Below w2.heap.size w2 w4) := Lib.hid (B3.out.trans hB4); have B5 : Hid (Below w.heap.size w w4) := Lib.hid (BL.out.trans ((BR2.out.trans (B24.out.mono BR2.out.size)).mono BL.out.size)); obtain ⟨y0, _, _, _, y4, y5, y6, y7, y8, y9, y10, y11⟩ := attr_read12 G2.out B24.out; obtain ⟨t0, _, _, _, t4, t5, t6, t7, t8, t9, t10, t11⟩ := attr_read12 hb4 (Below.refl _ _); have y12 : w4.cell? ⟨g0, 0, none⟩ = some (.func (.func 55) #[] #[.pointer (some ⟨g0, 0, none⟩)]) := (B5.out.cell (World.block_lt_of_cell? w _ HF.out)).trans HF.out; (try have dN := HDN.out); (try have dB := HDB.out); (try have dB2 := HDB2.out); (try have dT := HDT.out); (try have dT2 := HDT2.out); (try have dO := HDO.out); clear hb4 hB4 hs4 ho4 z0 z1 z2 z3 z4 z5 z6 z7 z8 z9 z10 z11))
                  go_ret
                  exact ⟨show Ending.returned (.bool false) = _ by rw [HFALSE.out], B5.out⟩
              · have dd : (a.f3 == b.f3) = false := by rw [beq_eq_false_iff_ne]; exact hB
                have dd2 : (a.f3 != b.f3) = true := by simp [hB]
                have HFALSE : Hid (sameL false l l' = false) := Lib.hid (by rw [← RL.out, sameL_drop HX.out HX'.out, show sameA false a b = false from (by rw [HSA.out, dd]; simp), Bool.false_and])
                have tk1 : True := trivial
                go_wp2_with (first
                  | (have _t := tk1; refine run_event rfl (.alloc 50) rfl (.pointer (some ⟨wr.heap.size, 0, none⟩)) (wr.alloc (.cells attr0 50)) (by kernel_rfl) ?_; intro w1 hw1; have B1 : Hid (Below wr.heap.size wr w1) := Lib.hid (by rw [hw1]; exact alloc_below _ _); have G1 : Hid (w1.heap[wr.heap.size]? = some (.cells attr0 50 (0, 0))) := Lib.hid (by rw [hw1]; exact heap_alloc_new _ _); clear hw1 tk1 _t)
                  | ((with_reducible refine gate_store (t := 50) (p := 7) rfl ?_); refine put_event rfl 50 _ _ rfl wr.heap.size (attrC a a.f2.f2 A9 c9) rfl rfl 50 attr0 G1.out (by kernel_rfl) rfl (attr_all _ _ _ _) wr.heap.size (Nat.le_refl _) ?_; intro w2 hb2 hB2 hs2 ho2; have G2 := Lib.hid hb2; have BR2 : Hid (Below wr.heap.size wr w2) := Lib.hid (B1.out.trans hB2); replace z0 := (BR2.out.cell (World.block_lt_of_cell? wr _ z0)).trans z0; replace z1 := (BR2.out.cell (World.block_lt_of_cell? wr _ z1)).trans z1; replace z2 := (BR2.out.cell (World.block_lt_of_cell? wr _ z2)).trans z2; replace z3 := (BR2.out.cell (World.block_lt_of_cell? wr _ z3)).trans z3; replace z4 := (BR2.out.cell (World.block_lt_of_cell? wr _ z4)).trans z4; replace z5 := (BR2.out.cell (World.block_lt_of_cell? wr _ z5)).trans z5; replace z6 := (BR2.out.cell (World.block_lt_of_cell? wr _ z6)).trans z6; replace z7 := (BR2.out.cell (World.block_lt_of_cell? wr _ z7)).trans z7; replace z8 := (BR2.out.cell (World.block_lt_of_cell? wr _ z8)).trans z8; replace z9 := (BR2.out.cell (World.block_lt_of_cell? wr _ z9)).trans z9; replace z10 := (BR2.out.cell (World.block_lt_of_cell? wr _ z10)).trans z10; replace z11 := (BR2.out.cell (World.block_lt_of_cell? wr _ z11)).trans z11; clear hb2 hB2 hs2 ho2 x0 x1 x2 x3 x4 x5 x6 x7 x8 x9 x10 x11)
                  | (refine run_event rfl (.alloc 50) rfl (.pointer (some ⟨w2.heap.size, 0, none⟩)) (w2.alloc (.cells attr0 50)) (by kernel_rfl) ?_; intro w3 hw3; have B3 : Hid (Below w2.heap.size w2 w3) := Lib.hid (by rw [hw3]; exact alloc_below _ _); have G3 : Hid (w3.heap[w2.heap.size]? = some (.cells attr0 50 (0, 0))) := Lib.hid (by rw [hw3]; exact heap_alloc_new _ _); clear hw3)
                  | ((with_reducible refine gate_store (t := 50) (p := 8) rfl ?_); refine put_event rfl 50 _ _ rfl w2.heap.size (attrC b b.f2.f2 A8 c8) rfl rfl 50 attr0 G3.out (by kernel_rfl) rfl (attr_all _ _ _ _) w2.heap.size (Nat.le_refl _) ?_; intro w4 hb4 hB4 hs4 ho4; have B24 : Hid (Below w2.heap.size w2 w4) := Lib.hid (B3.out.trans hB4); have B5 : Hid (Below w.heap.size w w4) := Lib.hid (BL.out.trans ((BR2.out.trans (B24.out.mono BR2.out.size)).mono BL.out.size)); obtain ⟨y0, _, _, _, y4, y5, y6, y7, y8, y9, y10, y11⟩ := attr_read12 G2.out B24.out; obtain ⟨t0, _, _, _, t4, t5, t6, t7, t8, t9, t10, t11⟩ := attr_read12 hb4 (Below.refl _ _); have y12 : w4.cell? ⟨g0, 0, none⟩ = some (.func (.func 55) #[] #[.pointer (some ⟨g0, 0, none⟩)]) := (B5.out.cell (World.block_lt_of_cell? w _ HF.out)).trans HF.out; (try have dN := HDN.out); (try have dB := HDB.out); (try have dB2 := HDB2.out); (try have dT := HDT.out); (try have dT2 := HDT2.out); (try have dO := HDO.out); clear hb4 hB4 hs4 ho4 z0 z1 z2 z3 z4 z5 z6 z7 z8 z9 z10 z11))
                go_ret
                exact ⟨show Ending.returned (.bool false) = _ by rw [HFALSE.out], B5.out⟩
            · have hv := fun W => val_neq a.f2.f0 b.f2.f0 a.f2.f1 b.f2.f1 a.f2.f2 b.f2.f2 a.f2.f3 b.f2.f3 W true (by rw [val_same]; simpa using hV)
              have HFALSE : Hid (sameL false l l' = false) := Lib.hid (by rw [← RL.out, sameL_drop HX.out HX'.out, show sameA false a b = false from (by rw [HSA.out, show sameV a.f2 b.f2 = false from (by simpa using hV)]; simp), Bool.false_and])
              have tk1 : True := trivial
              go_wp2_with (first
                | (have _t := tk1; refine run_event rfl (.alloc 50) rfl (.pointer (some ⟨wr.heap.size, 0, none⟩)) (wr.alloc (.cells attr0 50)) (by kernel_rfl) ?_; intro w1 hw1; have B1 : Hid (Below wr.heap.size wr w1) := Lib.hid (by rw [hw1]; exact alloc_below _ _); have G1 : Hid (w1.heap[wr.heap.size]? = some (.cells attr0 50 (0, 0))) := Lib.hid (by rw [hw1]; exact heap_alloc_new _ _); clear hw1 tk1 _t)
                | ((with_reducible refine gate_store (t := 50) (p := 7) rfl ?_); refine put_event rfl 50 _ _ rfl wr.heap.size (attrC a a.f2.f2 A9 c9) rfl rfl 50 attr0 G1.out (by kernel_rfl) rfl (attr_all _ _ _ _) wr.heap.size (Nat.le_refl _) ?_; intro w2 hb2 hB2 hs2 ho2; have G2 := Lib.hid hb2; have BR2 : Hid (Below wr.heap.size wr w2) := Lib.hid (B1.out.trans hB2); replace z0 := (BR2.out.cell (World.block_lt_of_cell? wr _ z0)).trans z0; replace z1 := (BR2.out.cell (World.block_lt_of_cell? wr _ z1)).trans z1; replace z2 := (BR2.out.cell (World.block_lt_of_cell? wr _ z2)).trans z2; replace z3 := (BR2.out.cell (World.block_lt_of_cell? wr _ z3)).trans z3; replace z4 := (BR2.out.cell (World.block_lt_of_cell? wr _ z4)).trans z4; replace z5 := (BR2.out.cell (World.block_lt_of_cell? wr _ z5)).trans z5; replace z6 := (BR2.out.cell (World.block_lt_of_cell? wr _ z6)).trans z6; replace z7 := (BR2.out.cell (World.block_lt_of_cell? wr _ z7)).trans z7; replace z8 := (BR2.out.cell (World.block_lt_of_cell? wr _ z8)).trans z8; replace z9 := (BR2.out.cell (World.block_lt_of_cell? wr _ z9)).trans z9; replace z10 := (BR2.out.cell (World.block_lt_of_cell? wr _ z10)).trans z10; replace z11 := (BR2.out.cell (World.block_lt_of_cell? wr _ z11)).trans z11; clear hb2 hB2 hs2 ho2 x0 x1 x2 x3 x4 x5 x6 x7 x8 x9 x10 x11)
                | (refine run_event rfl (.alloc 50) rfl (.pointer (some ⟨w2.heap.size, 0, none⟩)) (w2.alloc (.cells attr0 50)) (by kernel_rfl) ?_; intro w3 hw3; have B3 : Hid (Below w2.heap.size w2 w3) := Lib.hid (by rw [hw3]; exact alloc_below _ _); have G3 : Hid (w3.heap[w2.heap.size]? = some (.cells attr0 50 (0, 0))) := Lib.hid (by rw [hw3]; exact heap_alloc_new _ _); clear hw3)
                | ((with_reducible refine gate_store (t := 50) (p := 8) rfl ?_); refine put_event rfl 50 _ _ rfl w2.heap.size (attrC b b.f2.f2 A8 c8) rfl rfl 50 attr0 G3.out (by kernel_rfl) rfl (attr_all _ _ _ _) w2.heap.size (Nat.le_refl _) ?_; intro w4 hb4 hB4 hs4 ho4; have B24 : Hid (Below w2.heap.size w2 w4) := Lib.hid (B3.out.trans hB4); have B5 : Hid (Below w.heap.size w w4) := Lib.hid (BL.out.trans ((BR2.out.trans (B24.out.mono BR2.out.size)).mono BL.out.size)); obtain ⟨y0, _, _, _, y4, y5, y6, y7, y8, y9, y10, y11⟩ := attr_read12 G2.out B24.out; obtain ⟨t0, _, _, _, t4, t5, t6, t7, t8, t9, t10, t11⟩ := attr_read12 hb4 (Below.refl _ _); have y12 : w4.cell? ⟨g0, 0, none⟩ = some (.func (.func 55) #[] #[.pointer (some ⟨g0, 0, none⟩)]) := (B5.out.cell (World.block_lt_of_cell? w _ HF.out)).trans HF.out; (try have dN := HDN.out); (try have dB := HDB.out); (try have dB2 := HDB2.out); (try have dT := HDT.out); (try have dT2 := HDT2.out); (try have dO := HDO.out); clear hb4 hB4 hs4 ho4 z0 z1 z2 z3 z4 z5 z6 z7 z8 z9 z10 z11))
              go_ret
              exact ⟨show Ending.returned (.bool false) = _ by rw [HFALSE.out], B5.out⟩
          · have dd := str_ne hN
            have HFALSE : Hid (sameL false l l' = false) := Lib.hid (by rw [← RL.out, sameL_drop HX.out HX'.out, show sameA false a b = false from (by rw [HSA.out, decide_eq_false hN]; simp), Bool.false_and])
            have tk1 : True := trivial
            go_wp2_with (first
              | (have _t := tk1; refine run_event rfl (.alloc 50) rfl (.pointer (some ⟨wr.heap.size, 0, none⟩)) (wr.alloc (.cells attr0 50)) (by kernel_rfl) ?_; intro w1 hw1; have B1 : Hid (Below wr.heap.size wr w1) := Lib.hid (by rw [hw1]; exact alloc_below _ _); have G1 : Hid (w1.heap[wr.heap.size]? = some (.cells attr0 50 (0, 0))) := Lib.hid (by rw [hw1]; exact heap_alloc_new _ _); clear hw1 tk1 _t)
              | ((with_reducible refine gate_store (t := 50) (p := 7) rfl ?_); refine put_event rfl 50 _ _ rfl wr.heap.size (attrC a a.f2.f2 A9 c9) rfl rfl 50 attr0 G1.out (by kernel_rfl) rfl (attr_all _ _ _ _) wr.heap.size (Nat.le_refl _) ?_; intro w2 hb2 hB2 hs2 ho2; have G2 := Lib.hid hb2; have BR2 : Hid (Below wr.heap.size wr w2) := Lib.hid (B1.out.trans hB2); replace z0 := (BR2.out.cell (World.block_lt_of_cell? wr _ z0)).trans z0; replace z1 := (BR2.out.cell (World.block_lt_of_cell? wr _ z1)).trans z1; replace z2 := (BR2.out.cell (World.block_lt_of_cell? wr _ z2)).trans z2; replace z3 := (BR2.out.cell (World.block_lt_of_cell? wr _ z3)).trans z3; replace z4 := (BR2.out.cell (World.block_lt_of_cell? wr _ z4)).trans z4; replace z5 := (BR2.out.cell (World.block_lt_of_cell? wr _ z5)).trans z5; replace z6 := (BR2.out.cell (World.block_lt_of_cell? wr _ z6)).trans z6; replace z7 := (BR2.out.cell (World.block_lt_of_cell? wr _ z7)).trans z7; replace z8 := (BR2.out.cell (World.block_lt_of_cell? wr _ z8)).trans z8; replace z9 := (BR2.out.cell (World.block_lt_of_cell? wr _ z9)).trans z9; replace z10 := (BR2.out.cell (World.block_lt_of_cell? wr _ z10)).trans z10; replace z11 := (BR2.out.cell (World.block_lt_of_cell? wr _ z11)).trans z11; clear hb2 hB2 hs2 ho2 x0 x1 x2 x3 x4 x5 x6 x7 x8 x9 x10 x11)
              | (refine run_event rfl (.alloc 50) rfl (.pointer (some ⟨w2.heap.size, 0, none⟩)) (w2.alloc (.cells attr0 50)) (by kernel_rfl) ?_; intro w3 hw3; have B3 : Hid (Below w2.heap.size w2 w3) := Lib.hid (by rw [hw3]; exact alloc_below _ _); have G3 : Hid (w3.heap[w2.heap.size]? = some (.cells attr0 50 (0, 0))) := Lib.hid (by rw [hw3]; exact heap_alloc_new _ _); clear hw3)
              | ((with_reducible refine gate_store (t := 50) (p := 8) rfl ?_); refine put_event rfl 50 _ _ rfl w2.heap.size (attrC b b.f2.f2 A8 c8) rfl rfl 50 attr0 G3.out (by kernel_rfl) rfl (attr_all _ _ _ _) w2.heap.size (Nat.le_refl _) ?_; intro w4 hb4 hB4 hs4 ho4; have B24 : Hid (Below w2.heap.size w2 w4) := Lib.hid (B3.out.trans hB4); have B5 : Hid (Below w.heap.size w w4) := Lib.hid (BL.out.trans ((BR2.out.trans (B24.out.mono BR2.out.size)).mono BL.out.size)); obtain ⟨y0, _, _, _, y4, y5, y6, y7, y8, y9, y10, y11⟩ := attr_read12 G2.out B24.out; obtain ⟨t0, _, _, _, t4, t5, t6, t7, t8, t9, t10, t11⟩ := attr_read12 hb4 (Below.refl _ _); have y12 : w4.cell? ⟨g0, 0, none⟩ = some (.func (.func 55) #[] #[.pointer (some ⟨g0, 0, none⟩)]) := (B5.out.cell (World.block_lt_of_cell? w _ HF.out)).trans HF.out; (try have dN := HDN.out); (try have dB := HDB.out); (try have dB2 := HDB2.out); (try have dT := HDT.out); (try have dT2 := HDT2.out); (try have dO := HDO.out); clear hb4 hB4 hs4 ho4 z0 z1 z2 z3 z4 z5 z6 z7 z8 z9 z10 z11))
            go_ret
            exact ⟨show Ending.returned (.bool false) = _ by rw [HFALSE.out], B5.out⟩
        · obtain rfl : j = l.length := by omega
          have HR : Hid (sameL false l l' = true) := Lib.hid (by rw [← RL.out, List.drop_eq_nil_of_le (Nat.le_refl _), List.drop_eq_nil_of_le (by rw [HE.out]; exact Nat.le_refl _), sameL_nil])
          clear RL
          go_wp2_with fail
          go_ret
          exact ⟨show Ending.returned (.bool true) = _ by rw [HR.out], BL.out⟩
    · have HS := Lib.hid (sameL_len false l l' he)
      have d1 : ((l.length : Int) == (l'.length : Int)) = false := by rw [beq_eq_false_iff_ne]; omega
      have d2 : (l.length == l'.length) = false := by rw [beq_eq_false_iff_ne]; omega
      have d3 : ((l.length : Int) != (l'.length : Int)) = true := by simp; omega
      have d4 : (l.length != l'.length) = true := by simp; omega
      clear hm hC hC' hb hf he
      go_enter Tryz.func55, Tryz.ntmps55
      go_wp2_with fail
      go_ret
      exact ⟨show Ending.returned (.bool false) = _ by rw [HS.out], Below.refl _ _⟩
end Go.Proofs.YtmfejjlmflgnbaaGreatDoor.Tok

/- CONTRACT: package printer's Same: are two trees alike but for their spots. -/
import Derived.Test.YtmfejjlmflgnbaaGreatDoorZSame
import Derived.Test.YtmfejjlmflgnbaaGreatDoorZPrA
import Derived.Test.YtmfejjlmflgnbaaGreatDoorZPrS
import Derived.Laws.EntriesVeiled
import Derived.Deep.Cut
import Derived.RegionTactic
namespace Go.Proofs.YtmfejjlmflgnbaaGreatDoor.Tok
open Go.RowKit Go.Proofs.YtmfejjlmflgnbaaGreatDoor.PA Go.Proofs.YtmfejjlmflgnbaaGreatDoorW.PrintWords Go.Proofs.YtmfejjlmflgnbaaGreatDoorW.PrintLast Go.Proofs.YtmfejjlmflgnbaaGreatDoor.Sp Go.Proofs.YtmfejjlmflgnbaaGreatDoor.Tr
set_option linter.unusedVariables false
set_option linter.unusedSimpArgs false
set_option maxRecDepth 100000

set_option maxHeartbeats 32000000 in
theorem psame_calls (t u : ST) (A A' : Option Addr) (c c' : Nat) (w : World) (hC : Kd.C k44 w A t.f2.length t.f2) (hc : t.f2.length ≤ c) (hC' : Kd.C k44 w A' u.f2.length u.f2) (hc' : u.f2.length ≤ c') (hn : ∀ (j : Nat) (o : SO), t.f2[j]? = some o → cntL o.f3 ≤ 1000000000) (hl : t.f2.length ≤ 1000000000) :
    Calls Tryz.prog 21 #[treeV t A c, treeV u A' c'] w fun e w' => e = .returned (.bool (sameT false t u)) ∧ Below w.heap.size w w' := by
  have HC := Lib.hid hC
  have HC' := Lib.hid hC'
  have HN := Lib.hid hn
  have HL9 := Lib.hid hl
  have HST := Lib.hid (sameT_eq false t u)
  clear hC hC' hn hl
  unfold treeV treeC
  go_enter Tryz.func21, Tryz.ntmps21
  go_upto_region 1 with fail
  obtain ⟨w0, hw0⟩ : ∃ w0 : World, w0 = ((w.alloc (.cells #[.string t.f0, .string t.f1, .slice A t.f2.length c, .bool t.f3, .string t.f4] 24)).alloc (.cells #[.string u.f0, .string u.f1, .slice A' u.f2.length c', .bool u.f3, .string u.f4] 24)) := ⟨_, rfl⟩
  rw [← hw0]
  obtain ⟨B0, GX0, GY0⟩ := two_box hw0
  clear hw0
  replace GX0 : Hid (w0.heap[w.heap.size]? = some (.cells (treeC t A c) 24 (0, 0))) := GX0
  replace GY0 : Hid (w0.heap[w.heap.size + 1]? = some (.cells (treeC u A' c') 24 (0, 0))) := GY0
  obtain ⟨y0, y1, y2, y3, y4⟩ := tree_read GX0.out (Below.refl _ _)
  obtain ⟨t0, t1, t2, t3, t4⟩ := tree_read GY0.out (Below.refl _ _)
  by_cases h1 : t.f0 = u.f0
  · have HP1 : Hid ((t.f0.toList == u.f0.toList) = true) := Lib.hid (by rw [toList_inj]; exact decide_eq_true h1)
    have HE1 := Lib.hid h1
    clear h1
    by_cases h2 : t.f1 = u.f1
    · have HP2 : Hid ((t.f1.toList == u.f1.toList) = true) := Lib.hid (by rw [toList_inj]; exact decide_eq_true h2)
      have HE2 := Lib.hid h2
      clear h2
      by_cases h3 : t.f3 = u.f3
      · have HP3 : Hid ((t.f3 == u.f3) = true) := Lib.hid (by simp [h3])
        have HR3 : Hid ((t.f3 != u.f3) = false) := Lib.hid (by simp [h3])
        have HE3 := Lib.hid h3
        clear h3
        by_cases h4 : t.f4 = u.f4
        · have HP4 : Hid ((t.f4.toList == u.f4.toList) = true) := Lib.hid (by rw [toList_inj]; exact decide_eq_true h4)
          have HE4 := Lib.hid h4
          clear h4
          by_cases hL : t.f2.length = u.f2.length
          · have HEL := Lib.hid hL
            clear hL
            have HTO : Hid (sameT false t u = sameOs false t.f2 u.f2) := Lib.hid (by rw [HST.out, HE1.out, HE2.out, HE3.out, HE4.out]; simp)
            rw [← HEL.out] at t2 ⊢
            have dp1 := HP1.out
            have dp2 := HP2.out
            have dp3 := HP3.out
            have dr3 := HR3.out
            have dp4 := HP4.out
            have hmf : ∀ (fn : Fn) (first cap : Array Value) (w : World), (Instr.makeFunc fn first cap).run Tryz.prog w = .ok (.func fn first cap) w := fun _ _ _ _ => rfl
            have ya2 := fun (X : Obj) => cell_alloc1 y2 X
            have ta2 := fun (X : Obj) => cell_alloc1 t2 X
            go_wp2_with fail
            clear y0 y1 y3 y4 t0 t1 t3 t4 dp1 dp2 dp3 dr3 dp4 hmf ya2 ta2 y2 t2
            obtain ⟨g0, hg0⟩ : ∃ g0, g0 = w0.heap.size := ⟨_, rfl⟩
            obtain ⟨w3, hw3⟩ : ∃ w3 : World, w3 = w0.alloc (.cells #[.func (.func 55) #[] #[.pointer (some ⟨w0.heap.size, 0, none⟩)]] 74) := ⟨_, rfl⟩
            rw [← hw3]
            have B03 : Hid (Below w0.heap.size w0 w3) := Lib.hid (by rw [hw3]; exact alloc_below _ _)
            have F3 : Hid (w3.cell? ⟨g0, 0, none⟩ = some (samV g0)) := Lib.hid (by rw [hw3, hg0]; exact (cell_row (heap_alloc_new _ _) 0).trans rfl)
            rw [← hg0]
            clear hw3 hg0
            go_loopw [48] (fun v wr => ∃ j : Nat, v = .int .i64 (j : Int) ∧ j ≤ t.f2.length ∧ Hid (sameOs false (t.f2.drop j) (u.f2.drop j) = sameOs false t.f2 u.f2) ∧ Hid (Below w3.heap.size w3 wr)) (fun v _ => t.f2.length - (intOf v).toNat)
            case atStart => exact ⟨0, by go_num, by omega, Lib.hid rfl, Lib.hid (Below.refl _ _)⟩
            case round =>
              obtain ⟨j, rfl, hj, RL, BL0⟩ := hrel
              have hl9 := HL9.out
              have BR0 := Lib.hid (B03.out.trans (BL0.out.mono B03.out.size))
              have BL := Lib.hid (B0.out.trans (BR0.out.mono B0.out.size))
              obtain ⟨_, _, y2, _, _⟩ := tree_read GX0.out BR0.out
              obtain ⟨_, _, t2, _, _⟩ := tree_read GY0.out BR0.out
              rw [← HEL.out] at t2
              by_cases hlt : j < t.f2.length
              · have hx : t.f2[j]? = some t.f2[j] := List.getElem?_eq_getElem hlt
                have hlt' : j < u.f2.length := by have := HEL.out; omega
                have hx' : u.f2[j]? = some u.f2[j] := List.getElem?_eq_getElem hlt'
                obtain ⟨ad, A5, c5, eA, x0, x1, x2, x3, x4, x5, x6, x7, l5, C5⟩ := at_T44 HC.out (j : Int) (by omega) (by omega)
                obtain ⟨bd, A6, c6, eB, z0, z1, z2, z3, z4, z5, z6, z7, l6, C6⟩ := at_T44 HC'.out (j : Int) (by omega) (by omega)
                rw [rdo_at t.f2 j _ hx] at x0 x1 x2 x3 x4 x5 x6 x7 l5 C5
                rw [rdo_at u.f2 j _ hx'] at z0 z1 z2 z3 z4 z5 z6 z7 l6 C6
                have hcn := HN.out j _ hx
                generalize t.f2[j] = a at hx x0 x1 x2 x3 x4 x5 x6 x7 l5 C5 hcn
                generalize u.f2[j] = b at hx' z0 z1 z2 z3 z4 z5 z6 z7 l6 C6
                cases eA
                cases eB
                simp only [Int.toNat_natCast] at x0 x1 x2 x3 x4 x5 x6 x7 z0 z1 z2 z3 z4 z5 z6 z7
                replace x0 := (BL.out.cell (World.block_lt_of_cell? w _ x0)).trans x0
                replace x1 := (BL.out.cell (World.block_lt_of_cell? w _ x1)).trans x1
                replace x2 := (BL.out.cell (World.block_lt_of_cell? w _ x2)).trans x2
                replace x3 := (BL.out.cell (World.block_lt_of_cell? w _ x3)).trans x3
                replace x4 := (BL.out.cell (World.block_lt_of_cell? w _ x4)).trans x4
                replace x5 := (BL.out.cell (World.block_lt_of_cell? w _ x5)).trans x5
                replace x6 := (BL.out.cell (World.block_lt_of_cell? w _ x6)).trans x6
                replace x7 := (BL.out.cell (World.block_lt_of_cell? w _ x7)).trans x7
                replace z0 := (BL.out.cell (World.block_lt_of_cell? w _ z0)).trans z0
                replace z1 := (BL.out.cell (World.block_lt_of_cell? w _ z1)).trans z1
                replace z2 := (BL.out.cell (World.block_lt_of_cell? w _ z2)).trans z2
                replace z3 := (BL.out.cell (World.block_lt_of_cell? w _ z3)).trans z3
                replace z4 := (BL.out.cell (World.block_lt_of_cell? w _ z4)).trans z4
                replace z5 := (BL.out.cell (World.block_lt_of_cell? w _ z5)).trans z5
                replace z6 := (BL.out.cell (World.block_lt_of_cell? w _ z6)).trans z6
                replace z7 := (BL.out.cell (World.block_lt_of_cell? w _ z7)).trans z7
                have HC5 := Lib.hid C5
                have HC6 := Lib.hid C6
                have HCN := Lib.hid hcn
                have HSA := Lib.hid (sameO_eq false a b)
                have HSD := Lib.hid (sameOs_drop (s := false) hx hx')
                clear hx hx' hcn C5 C6
                have tk1 : True := trivial
                obtain ⟨p, hp⟩ : ∃ p, p = wr.heap.size := ⟨_, rfl⟩
                go_upto_region 9 with (first
                  | (have _t := tk1; refine run_event rfl (.alloc 44) rfl (.pointer (some ⟨wr.heap.size, 0, none⟩)) (wr.alloc (.cells obj0 44)) (by kernel_rfl) ?_; intro w1 hw1; have B1 : Hid (Below wr.heap.size wr w1) := Lib.hid (by rw [hw1]; exact alloc_below _ _); have G1 : Hid (w1.heap[wr.heap.size]? = some (.cells obj0 44 (0, 0))) := Lib.hid (by rw [hw1]; exact heap_alloc_new _ _); clear hw1 tk1 _t)
                  | ((with_reducible refine gate_store (t := 44) (p := 7) rfl ?_); refine put_event rfl 44 _ _ rfl wr.heap.size (objC a A5 c5) rfl rfl 44 obj0 G1.out (by kernel_rfl) rfl (obj_all _ _ _) wr.heap.size (Nat.le_refl _) ?_; intro w2 hb2 hB2 hs2 ho2; have G2 := Lib.hid hb2; have BR2 : Hid (Below wr.heap.size wr w2) := Lib.hid (B1.out.trans hB2); replace z0 := (BR2.out.cell (World.block_lt_of_cell? wr _ z0)).trans z0; replace z1 := (BR2.out.cell (World.block_lt_of_cell? wr _ z1)).trans z1; replace z2 := (BR2.out.cell (World.block_lt_of_cell? wr _ z2)).trans z2; replace z3 := (BR2.out.cell (World.block_lt_of_cell? wr _ z3)).trans z3; replace z4 := (BR2.out.cell (World.block_lt_of_cell? wr _ z4)).trans z4; replace z5 := (BR2.out.cell (World.block_lt_of_cell? wr _ z5)).trans z5; replace z6 := (BR2.out.cell (World.block_lt_of_cell? wr _ z6)).trans z6; replace z7 := (BR2.out.cell (World.block_lt_of_cell? wr _ z7)).trans z7; replace t2 := (BR2.out.cell (World.block_lt_of_cell? wr _ t2)).trans t2; clear hb2 hB2 hs2 ho2 x0 x1 x2 x3 x4 x5 x6 x7 y2)
                  | (refine run_event rfl (.alloc 44) rfl (.pointer (some ⟨w2.heap.size, 0, none⟩)) (w2.alloc (.cells obj0 44)) (by kernel_rfl) ?_; intro w5 hw5; have B3 : Hid (Below w2.heap.size w2 w5) := Lib.hid (by rw [hw5]; exact alloc_below _ _); have G3 : Hid (w5.heap[w2.heap.size]? = some (.cells obj0 44 (0, 0))) := Lib.hid (by rw [hw5]; exact heap_alloc_new _ _); clear hw5)
                  | ((with_reducible refine gate_store (t := 44) (p := 8) rfl ?_); refine put_event rfl 44 _ _ rfl w2.heap.size (objC b A6 c6) rfl rfl 44 obj0 G3.out (by kernel_rfl) rfl (obj_all _ _ _) w2.heap.size (Nat.le_refl _) ?_; intro w4 hb4 hB4 hs4 ho4; have B24 : Hid (Below w2.heap.size w2 w4) := Lib.hid (B3.out.trans hB4); have B4 : Hid (Below wr.heap.size wr w4) := Lib.hid (BR2.out.trans (B24.out.mono BR2.out.size)); have GX : Hid (w4.heap[wr.heap.size]? = some (.cells (objC a A5 c5) 44 (0, 0))) := Lib.hid ((B24.out.block _ (Array.getElem?_eq_some_iff.1 G2.out).1).trans G2.out); have GY := Lib.hid hb4; clear hb4 hB4 hs4 ho4 z0 z1 z2 z3 z4 z5 z6 z7 t2))
                obtain ⟨q, hq⟩ : ∃ q, q = w2.heap.size := ⟨_, rfl⟩
                rw [← hp] at GX
                rw [← hq] at GY
                rw [← hp, ← hq]
                clear hp hq
                replace GX : Hid (w4.heap[p]? = some (.cells (objC a A5 c5) 44 (0, 0))) := GX
                replace GY : Hid (w4.heap[q]? = some (.cells (objC b A6 c6) 44 (0, 0))) := GY
                have B5 : Hid (Below w.heap.size w w4) := Lib.hid (BL.out.trans (B4.out.mono BL.out.size))
                have B04 : Hid (Below w0.heap.size w0 w4) := Lib.hid (BR0.out.trans (B4.out.mono BR0.out.size))
                have B34 : Hid (Below w3.heap.size w3 w4) := Lib.hid (BL0.out.trans (B4.out.mono BL0.out.size))
                obtain ⟨y0, y1, y2, y3, y4, y5, y6, y7⟩ := obj_cells GX.out
                obtain ⟨t0, t1, t2, t3, t4, t5, t6, t7⟩ := obj_cells GY.out
                clear y2 y3 y4 t2 t3 t4
                by_cases hN : a.f0 = b.f0
                · have HPN : Hid ((a.f0.toList == b.f0.toList) = true) := Lib.hid (by rw [toList_inj]; exact decide_eq_true hN)
                  have HEN := Lib.hid hN
                  clear hN
                  by_cases hM : a.f1 = b.f1
                  · have HPM : Hid ((a.f1.toList == b.f1.toList) = true) := Lib.hid (by rw [toList_inj]; exact decide_eq_true hM)
                    have HEM := Lib.hid hM
                    clear hM
                    by_cases hT : a.f4 = b.f4
                    · have HPT : Hid ((a.f4 == b.f4) = true) := Lib.hid (by simp [hT])
                      have HRT : Hid ((a.f4 != b.f4) = false) := Lib.hid (by simp [hT])
                      have HET := Lib.hid hT
                      clear hT
                      by_cases hO : a.f5 = b.f5
                      · have HPO : Hid ((a.f5.toList == b.f5.toList) = true) := Lib.hid (by rw [toList_inj]; exact decide_eq_true hO)
                        have HEO := Lib.hid hO
                        clear hO
                        have HR0 : Hid (sameO false a b = sameL false a.f3 b.f3) := Lib.hid (by rw [HSA.out, HEN.out, HEM.out, HET.out, HEO.out]; simp)
                        have dpN := HPN.out
                        have dpM := HPM.out
                        have dpT := HPT.out
                        have drT := HRT.out
                        have dpO := HPO.out
                        have y12 : w4.cell? ⟨g0, 0, none⟩ = some (.func (.func 55) #[] #[.pointer (some ⟨g0, 0, none⟩)]) := (B34.out.cell (World.block_lt_of_cell? w3 _ F3.out)).trans F3.out
                        go_wp2_with fail
                        refine (same1_calls (cntL a.f3) a.f3 b.f3 A5 A6 c5 c6 g0 w4 (Nat.le_refl _) (Kd.C_below HC5.out B5.out) l5 (Kd.C_below HC6.out B5.out) l6 HCN.out y12).mono ?_
                        rintro e w6 ⟨he6, hB6⟩
                        have B6 := Lib.hid (B5.out.trans (hB6.mono B5.out.size))
                        have B06 := Lib.hid (B04.out.trans (hB6.mono B04.out.size))
                        have B36 := Lib.hid (B34.out.trans (hB6.mono B34.out.size))
                        clear hB6 y12 y0 t0 y1 t1 y5 t5 y6 t6 y7 t7 dpN dpM dpT drT dpO
                        obtain ⟨r6, hr6⟩ : ∃ r6, sameL false a.f3 b.f3 = r6 := ⟨_, rfl⟩
                        rw [hr6] at he6
                        subst he6
                        have HR6 := Lib.hid hr6
                        clear hr6
                        cases r6 with
                        | false =>
                          have HFALSE : Hid (sameT false t u = false) := Lib.hid (by rw [HTO.out, ← RL.out, HSD.out, HR0.out, HR6.out, Bool.false_and])
                          go_wp2_with fail
                          go_ret
                          exact ⟨show Ending.returned (.bool false) = _ by rw [HFALSE.out], B6.out⟩
                        | true =>
                          have HN : Hid (sameOs false (t.f2.drop (j + 1)) (u.f2.drop (j + 1)) = sameOs false t.f2 u.f2) := Lib.hid (by rw [← RL.out, HSD.out, HR0.out, HR6.out, Bool.true_and])
                          go_wp2_with fail
                          exact ⟨⟨j + 1, by go_num, by omega, HN, B36⟩, by simp [intOf]; omega⟩
                      · have HQO := Lib.hid (str_neq0 hO)
                        have HEO := Lib.hid hO
                        clear hO
                        have HFALSE : Hid (sameT false t u = false) := Lib.hid (by rw [HTO.out, ← RL.out, HSD.out, show sameO false a b = false from (by rw [HSA.out, decide_eq_false HEO.out]; simp), Bool.false_and])
                        clear y5 t5
                        have dpN := HPN.out
                        have dpM := HPM.out
                        have dpT := HPT.out
                        have drT := HRT.out
                        have dqO := HQO.out
                        go_wp2_with fail
                        go_ret
                        exact ⟨show Ending.returned (.bool false) = _ by rw [HFALSE.out], B5.out⟩
                    · have HQT : Hid ((a.f4 == b.f4) = false) := Lib.hid (by rw [beq_eq_false_iff_ne]; exact hT)
                      have HST : Hid ((a.f4 != b.f4) = true) := Lib.hid (by simp [hT])
                      have HET := Lib.hid hT
                      clear hT
                      have HFALSE : Hid (sameT false t u = false) := Lib.hid (by rw [HTO.out, ← RL.out, HSD.out, show sameO false a b = false from (by rw [HSA.out, HQT.out]; simp), Bool.false_and])
                      clear y5 t5 y7 t7
                      have dpN := HPN.out
                      have dpM := HPM.out
                      have dqT := HQT.out
                      have dsT := HST.out
                      go_wp2_with fail
                      go_ret
                      exact ⟨show Ending.returned (.bool false) = _ by rw [HFALSE.out], B5.out⟩
                  · have HQM := Lib.hid (str_neq0 hM)
                    have HEM := Lib.hid hM
                    clear hM
                    have HFALSE : Hid (sameT false t u = false) := Lib.hid (by rw [HTO.out, ← RL.out, HSD.out, show sameO false a b = false from (by rw [HSA.out, decide_eq_false HEM.out]; simp), Bool.false_and])
                    clear y5 t5 y6 t6 y7 t7
                    have dpN := HPN.out
                    have dqM := HQM.out
                    go_wp2_with fail
                    go_ret
                    exact ⟨show Ending.returned (.bool false) = _ by rw [HFALSE.out], B5.out⟩
                · have HQN := Lib.hid (str_neq0 hN)
                  have HEN := Lib.hid hN
                  clear hN
                  have HFALSE : Hid (sameT false t u = false) := Lib.hid (by rw [HTO.out, ← RL.out, HSD.out, show sameO false a b = false from (by rw [HSA.out, decide_eq_false HEN.out]; simp), Bool.false_and])
                  clear y1 t1 y5 t5 y6 t6 y7 t7
                  have dqN := HQN.out
                  go_wp2_with fail
                  go_ret
                  exact ⟨show Ending.returned (.bool false) = _ by rw [HFALSE.out], B5.out⟩
              · obtain rfl : j = t.f2.length := by omega
                have HR : Hid (sameT false t u = true) := Lib.hid (by rw [HTO.out, ← RL.out, List.drop_eq_nil_of_le (Nat.le_refl _), List.drop_eq_nil_of_le (by rw [HEL.out]; exact Nat.le_refl _), sameOs_nil])
                clear RL
                go_wp2_with fail
                go_ret
                exact ⟨show Ending.returned (.bool true) = _ by rw [HR.out], BL.out⟩
          · have HQL : Hid (((t.f2.length : Int) == (u.f2.length : Int)) = false) := Lib.hid (by rw [beq_eq_false_iff_ne]; omega)
            have HSL : Hid (((t.f2.length : Int) != (u.f2.length : Int)) = true) := Lib.hid (by simp; omega)
            have HTL : Hid ((t.f2.length == u.f2.length) = false) := Lib.hid (by rw [beq_eq_false_iff_ne]; omega)
            have HEL := Lib.hid hL
            clear hL
            have HFALSE : Hid (sameT false t u = false) := Lib.hid (by rw [HST.out, sameOs_len false t.f2 u.f2 HEL.out]; simp)
            have dp1 := HP1.out
            have dp2 := HP2.out
            have dp3 := HP3.out
            have dr3 := HR3.out
            have dp4 := HP4.out
            have dqL := HQL.out
            have dsL := HSL.out
            have dtL := HTL.out
            go_wp2_with fail
            go_ret
            exact ⟨show Ending.returned (.bool false) = _ by rw [HFALSE.out], B0.out⟩
        · have HQ4 := Lib.hid (str_neq0 h4)
          have HE4 := Lib.hid h4
          clear h4
          have HFALSE : Hid (sameT false t u = false) := Lib.hid (by rw [HST.out, decide_eq_false HE4.out]; simp)
          clear y2 t2
          have dp1 := HP1.out
          have dp2 := HP2.out
          have dp3 := HP3.out
          have dr3 := HR3.out
          have dq4 := HQ4.out
          go_wp2_with fail
          go_ret
          exact ⟨show Ending.returned (.bool false) = _ by rw [HFALSE.out], B0.out⟩
      · have HQ3 : Hid ((t.f3 == u.f3) = false) := Lib.hid (by rw [beq_eq_false_iff_ne]; exact h3)
        have HS3 : Hid ((t.f3 != u.f3) = true) := Lib.hid (by simp [h3])
        have HE3 := Lib.hid h3
        clear h3
        have HFALSE : Hid (sameT false t u = false) := Lib.hid (by rw [HST.out, HQ3.out]; simp)
        clear y2 t2 y4 t4
        have dp1 := HP1.out
        have dp2 := HP2.out
        have dq3 := HQ3.out
        have ds3 := HS3.out
        go_wp2_with fail
        go_ret
        exact ⟨show Ending.returned (.bool false) = _ by rw [HFALSE.out], B0.out⟩
    · have HQ2 := Lib.hid (str_neq0 h2)
      have HE2 := Lib.hid h2
      clear h2
      have HFALSE : Hid (sameT false t u = false) := Lib.hid (by rw [HST.out, decide_eq_false HE2.out]; simp)
      clear y2 t2 y3 t3 y4 t4
      have dp1 := HP1.out
      have dq2 := HQ2.out
      go_wp2_with fail
      go_ret
      exact ⟨show Ending.returned (.bool false) = _ by rw [HFALSE.out], B0.out⟩
  · have HQ1 := Lib.hid (str_neq0 h1)
    have HE1 := Lib.hid h1
    clear h1
    have HFALSE : Hid (sameT false t u = false) := Lib.hid (by rw [HST.out, decide_eq_false HE1.out]; simp)
    clear y1 t1 y2 t2 y3 t3 y4 t4
    have dq1 := HQ1.out
    go_wp2_with fail
    go_ret
    exact ⟨show Ending.returned (.bool false) = _ by rw [HFALSE.out], B0.out⟩
end Go.Proofs.YtmfejjlmflgnbaaGreatDoor.Tok

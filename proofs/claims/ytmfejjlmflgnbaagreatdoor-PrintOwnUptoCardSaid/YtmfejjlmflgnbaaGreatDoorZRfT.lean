/- CONTRACT: the document's Same: are two trees the same (with their spots, or but for them). -/
import Derived.Test.YtmfejjlmflgnbaaGreatDoorZSame
import Derived.Test.YtmfejjlmflgnbaaGreatDoorZPrA
import Derived.Test.YtmfejjlmflgnbaaGreatDoorZRfS
import Derived.RegionTactic
namespace Go.Proofs.YtmfejjlmflgnbaaGreatDoor.Tok
open Go.RowKit Go.Proofs.YtmfejjlmflgnbaaGreatDoor.PA Go.Proofs.YtmfejjlmflgnbaaGreatDoorW.PrintWords Go.Proofs.YtmfejjlmflgnbaaGreatDoorW.PrintLast Go.Proofs.YtmfejjlmflgnbaaGreatDoor.Sp Go.Proofs.YtmfejjlmflgnbaaGreatDoor.Tr
set_option linter.unusedVariables false
set_option linter.unusedSimpArgs false
set_option maxRecDepth 100000

set_option maxHeartbeats 32000000 in
theorem rsame_calls (s : Bool) (t u : ST) (A A' : Option Addr) (c c' : Nat) (w : World) (hC : Kd.C k44 w A t.f2.length t.f2) (hc : t.f2.length ≤ c) (hC' : Kd.C k44 w A' u.f2.length u.f2) (hc' : u.f2.length ≤ c') (hn : ∀ (j : Nat) (o : SO), t.f2[j]? = some o → cntL o.f3 ≤ 1000000000) (hl : t.f2.length ≤ 1000000000) :
    Calls Tryz.prog 16 #[treeV t A c, treeV u A' c', .bool s] w fun e w' => e = .returned (.bool (sameT s t u)) ∧ Below w.heap.size w w' := by
  have HC := Lib.hid hC
  have HC' := Lib.hid hC'
  have HN := Lib.hid hn
  have HL9 := Lib.hid hl
  have HST := Lib.hid (sameT_eq s t u)
  clear hC hC' hn hl
  unfold treeV treeC
  go_enter Tryz.func16, Tryz.ntmps16
  go_upto_region 1 with fail
  obtain ⟨w0, hw0⟩ : ∃ w0 : World, w0 = ((w.alloc (.cells #[.string t.f0, .string t.f1, .slice A t.f2.length c, .bool t.f3, .string t.f4] 24)).alloc (.cells #[.string u.f0, .string u.f1, .slice A' u.f2.length c', .bool u.f3, .string u.f4] 24)) := ⟨_, rfl⟩
  rw [← hw0]
  obtain ⟨B0, GX0, GY0⟩ := two_box hw0
  clear hw0
  replace GX0 : Hid (w0.heap[w.heap.size]? = some (.cells (treeC t A c) 24 (0, 0))) := GX0
  replace GY0 : Hid (w0.heap[w.heap.size + 1]? = some (.cells (treeC u A' c') 24 (0, 0))) := GY0
  obtain ⟨y0, y1, y2, y3, y4⟩ := tree_read GX0.out (Below.refl _ _)
  obtain ⟨t0, t1, t2, t3, t4⟩ := tree_read GY0.out (Below.refl _ _)
  by_cases h1 : t.f0 = u.f0
  · have HP1 : Hid ((t.f0.toList == u.f0.toList) = true) := Lib.hid (by rw [toList_inj]; exact decide_eq_true h1)
    have HE1 := Lib.hid h1
    clear h1
    by_cases h2 : t.f1 = u.f1
    · have HP2 : Hid ((t.f1.toList == u.f1.toList) = true) := Lib.hid (by rw [toList_inj]; exact decide_eq_true h2)
      have HE2 := Lib.hid h2
      clear h2
      by_cases h3 : t.f3 = u.f3
      · have HP3 : Hid ((t.f3 == u.f3) = true) := Lib.hid (by simp [h3])
        have HR3 : Hid ((t.f3 != u.f3) = false) := Lib.hid (by simp [h3])
        have HE3 := Lib.hid h3
        clear h3
        by_cases h4 : t.f4 = u.f4
        · have HP4 : Hid ((t.f4.toList == u.f4.toList) = true) := Lib.hid (by rw [toList_inj]; exact decide_eq_true h4)
          have HE4 := Lib.hid h4
          clear h4
          by_cases hL : t.f2.length = u.f2.length
          · have HEL := Lib.hid hL
            clear hL
            have HTO : Hid (sameT s t u = sameOs s t.f2 u.f2) := Lib.hid (by rw [HST.out, HE1.out, HE2.out, HE3.out, HE4.out]; simp)
            rw [← HEL.out] at t2 ⊢
            have dp1 := HP1.out
            have dp2 := HP2.out
            have dp3 := HP3.out
            have dr3 := HR3.out
            have dp4 := HP4.out
            go_wp2_with fail
            clear y0 y1 y3 y4 t0 t1 t3 t4 dp1 dp2 dp3 dr3 dp4 y2 t2
            go_loopw [7] (fun v wr => ∃ j : Nat, v = .int .i64 (j : Int) ∧ j ≤ t.f2.length ∧ Hid (sameOs s (t.f2.drop j) (u.f2.drop j) = sameOs s t.f2 u.f2) ∧ Hid (Below w0.heap.size w0 wr)) (fun v _ => t.f2.length - (intOf v).toNat)
            case atStart => exact ⟨0, by go_num, by omega, Lib.hid rfl, Lib.hid (Below.refl _ _)⟩
            case round =>
              obtain ⟨j, rfl, hj, RL, BL0⟩ := hrel
              have hl9 := HL9.out
              have BR0 := BL0
              have BL := Lib.hid (B0.out.trans (BR0.out.mono B0.out.size))
              obtain ⟨_, _, y2, _, _⟩ := tree_read GX0.out BR0.out
              obtain ⟨_, _, t2, _, _⟩ := tree_read GY0.out BR0.out
              rw [← HEL.out] at t2
              by_cases hlt : j < t.f2.length
              · have hx : t.f2[j]? = some t.f2[j] := List.getElem?_eq_getElem hlt
                have hlt' : j < u.f2.length := by have := HEL.out; omega
                have hx' : u.f2[j]? = some u.f2[j] := List.getElem?_eq_getElem hlt'
                obtain ⟨ad, A5, c5, eA, x0, x1, x2, x3, x4, x5, x6, x7, l5, C5⟩ := at_T44 HC.out (j : Int) (by omega) (by omega)
                obtain ⟨bd, A6, c6, eB, z0, z1, z2, z3, z4, z5, z6, z7, l6, C6⟩ := at_T44 HC'.out (j : Int) (by omega) (by omega)
                rw [rdo_at t.f2 j _ hx] at x0 x1 x2 x3 x4 x5 x6 x7 l5 C5
                rw [rdo_at u.f2 j _ hx'] at z0 z1 z2 z3 z4 z5 z6 z7 l6 C6
                have hcn := HN.out j _ hx
                generalize t.f2[j] = a at hx x0 x1 x2 x3 x4 x5 x6 x7 l5 C5 hcn
                generalize u.f2[j] = b at hx' z0 z1 z2 z3 z4 z5 z6 z7 l6 C6
                cases eA
                cases eB
                simp only [Int.toNat_natCast] at x0 x1 x2 x3 x4 x5 x6 x7 z0 z1 z2 z3 z4 z5 z6 z7
                replace x0 := (BL.out.cell (World.block_lt_of_cell? w _ x0)).trans x0
                replace x1 := (BL.out.cell (World.block_lt_of_cell? w _ x1)).trans x1
                replace x2 := (BL.out.cell (World.block_lt_of_cell? w _ x2)).trans x2
                replace x3 := (BL.out.cell (World.block_lt_of_cell? w _ x3)).trans x3
                replace x4 := (BL.out.cell (World.block_lt_of_cell? w _ x4)).trans x4
                replace x5 := (BL.out.cell (World.block_lt_of_cell? w _ x5)).trans x5
                replace x6 := (BL.out.cell (World.block_lt_of_cell? w _ x6)).trans x6
                replace x7 := (BL.out.cell (World.block_lt_of_cell? w _ x7)).trans x7
                replace z0 := (BL.out.cell (World.block_lt_of_cell? w _ z0)).trans z0
                replace z1 := (BL.out.cell (World.block_lt_of_cell? w _ z1)).trans z1
                replace z2 := (BL.out.cell (World.block_lt_of_cell? w _ z2)).trans z2
                replace z3 := (BL.out.cell (World.block_lt_of_cell? w _ z3)).trans z3
                replace z4 := (BL.out.cell (World.block_lt_of_cell? w _ z4)).trans z4
                replace z5 := (BL.out.cell (World.block_lt_of_cell? w _ z5)).trans z5
                replace z6 := (BL.out.cell (World.block_lt_of_cell? w _ z6)).trans z6
                replace z7 := (BL.out.cell (World.block_lt_of_cell? w _ z7)).trans z7
                have HC5 := Lib.hid C5
                have HC6 := Lib.hid C6
                have HCN := Lib.hid hcn
                have HSA := Lib.hid (sameO_eq s a b)
                have HSD := Lib.hid (sameOs_drop (s := s) hx hx')
                clear hx hx' hcn C5 C6
                have HPK := Lib.hid (And.intro x0 (And.intro x1 (And.intro x2 (And.intro x3 (And.intro x4 (And.intro x5 (And.intro x6 (And.intro x7 (And.intro z0 (And.intro z1 (And.intro z2 (And.intro z3 (And.intro z4 (And.intro z5 (And.intro z6 (And.intro z7 (And.intro y2 t2)))))))))))))))))
                clear x0 x1 x2 x3 x4 x5 x6 x7 z0 z1 z2 z3 z4 z5 z6 z7
                go_wp2_with fail
                clear y2 t2
                apply once
                case h1 =>
                  intro key
                  obtain ⟨x0, x1, x2, x3, x4, x5, x6, x7, z0, z1, z2, z3, z4, z5, z6, z7, y2, t2⟩ := HPK.out
                  have xa0 := fun (X : Obj) => cell_alloc1 x0 X
                  have xb0 := fun (X Y : Obj) => cell_alloc1 (cell_alloc1 x0 X) Y
                  have xa1 := fun (X : Obj) => cell_alloc1 x1 X
                  have xb1 := fun (X Y : Obj) => cell_alloc1 (cell_alloc1 x1 X) Y
                  have xa2 := fun (X : Obj) => cell_alloc1 x2 X
                  have xb2 := fun (X Y : Obj) => cell_alloc1 (cell_alloc1 x2 X) Y
                  have xa3 := fun (X : Obj) => cell_alloc1 x3 X
                  have xb3 := fun (X Y : Obj) => cell_alloc1 (cell_alloc1 x3 X) Y
                  have xa4 := fun (X : Obj) => cell_alloc1 x4 X
                  have xb4 := fun (X Y : Obj) => cell_alloc1 (cell_alloc1 x4 X) Y
                  have xa5 := fun (X : Obj) => cell_alloc1 x5 X
                  have xb5 := fun (X Y : Obj) => cell_alloc1 (cell_alloc1 x5 X) Y
                  have xa6 := fun (X : Obj) => cell_alloc1 x6 X
                  have xb6 := fun (X Y : Obj) => cell_alloc1 (cell_alloc1 x6 X) Y
                  have xa7 := fun (X : Obj) => cell_alloc1 x7 X
                  have xb7 := fun (X Y : Obj) => cell_alloc1 (cell_alloc1 x7 X) Y
                  have za0 := fun (X : Obj) => cell_alloc1 z0 X
                  have zb0 := fun (X Y : Obj) => cell_alloc1 (cell_alloc1 z0 X) Y
                  have za1 := fun (X : Obj) => cell_alloc1 z1 X
                  have zb1 := fun (X Y : Obj) => cell_alloc1 (cell_alloc1 z1 X) Y
                  have za2 := fun (X : Obj) => cell_alloc1 z2 X
                  have zb2 := fun (X Y : Obj) => cell_alloc1 (cell_alloc1 z2 X) Y
                  have za3 := fun (X : Obj) => cell_alloc1 z3 X
                  have zb3 := fun (X Y : Obj) => cell_alloc1 (cell_alloc1 z3 X) Y
                  have za4 := fun (X : Obj) => cell_alloc1 z4 X
                  have zb4 := fun (X Y : Obj) => cell_alloc1 (cell_alloc1 z4 X) Y
                  have za5 := fun (X : Obj) => cell_alloc1 z5 X
                  have zb5 := fun (X Y : Obj) => cell_alloc1 (cell_alloc1 z5 X) Y
                  have za6 := fun (X : Obj) => cell_alloc1 z6 X
                  have zb6 := fun (X Y : Obj) => cell_alloc1 (cell_alloc1 z6 X) Y
                  have za7 := fun (X : Obj) => cell_alloc1 z7 X
                  have zb7 := fun (X Y : Obj) => cell_alloc1 (cell_alloc1 z7 X) Y
                  have y2_a := fun (X : Obj) => cell_alloc1 y2 X
                  have y2_b := fun (X Y : Obj) => cell_alloc1 (cell_alloc1 y2 X) Y
                  have t2_a := fun (X : Obj) => cell_alloc1 t2 X
                  have t2_b := fun (X Y : Obj) => cell_alloc1 (cell_alloc1 t2 X) Y
                  go_region
                  all_goals
                    clear y2_a y2_b t2_a t2_b y2 t2 x0 xa0 xb0 x1 xa1 xb1 x2 xa2 xb2 x3 xa3 xb3 x4 xa4 xb4 x5 xa5 xb5 x6 xa6 xb6 x7 xa7 xb7 z0 za0 zb0 z1 za1 zb1 z2 za2 zb2 z3 za3 zb3 z4 za4 zb4 z5 za5 zb5 z6 za6 zb6 z7 za7 zb7
                    first
                      | (obtain ⟨w4, hw4⟩ : ∃ w4 : World, w4 = ((wr.alloc (.cells #[.string a.f0, .string a.f1, .int .i64 a.f2.f0, .int .i64 a.f2.f1, .int .i64 a.f2.f2, .slice A5 a.f3.length c5, .bool a.f4, .string a.f5] 44)).alloc (.cells #[.string b.f0, .string b.f1, .int .i64 b.f2.f0, .int .i64 b.f2.f1, .int .i64 b.f2.f2, .slice A6 b.f3.length c6, .bool b.f4, .string b.f5] 44)).drew := ⟨_, rfl⟩
                         rw [← hw4]
                         obtain ⟨B4, GX, GY⟩ := two_new hw4
                         clear hw4
                         obtain ⟨q, hq⟩ : ∃ q, q = wr.heap.size + 1 := ⟨_, rfl⟩
                         rw [← hq] at GY ⊢
                         obtain ⟨p, hp⟩ : ∃ p, p = wr.heap.size := ⟨_, rfl⟩
                         rw [← hp] at GX ⊢
                         clear hp hq)
                      | (obtain ⟨w4, hw4⟩ : ∃ w4 : World, w4 = ((wr.alloc (.cells #[.string b.f0, .string b.f1, .int .i64 b.f2.f0, .int .i64 b.f2.f1, .int .i64 b.f2.f2, .slice A6 b.f3.length c6, .bool b.f4, .string b.f5] 44)).alloc (.cells #[.string a.f0, .string a.f1, .int .i64 a.f2.f0, .int .i64 a.f2.f1, .int .i64 a.f2.f2, .slice A5 a.f3.length c5, .bool a.f4, .string a.f5] 44)).drew := ⟨_, rfl⟩
                         rw [← hw4]
                         obtain ⟨B4, GY, GX⟩ := two_new hw4
                         clear hw4
                         obtain ⟨p, hp⟩ : ∃ p, p = wr.heap.size + 1 := ⟨_, rfl⟩
                         rw [← hp] at GX ⊢
                         obtain ⟨q, hq⟩ : ∃ q, q = wr.heap.size := ⟨_, rfl⟩
                         rw [← hq] at GY ⊢
                         clear hp hq)
                    replace GX : Hid (w4.heap[p]? = some (.cells (objC a A5 c5) 44 (0, 0))) := GX
                    replace GY : Hid (w4.heap[q]? = some (.cells (objC b A6 c6) 44 (0, 0))) := GY
                    generalize Value.agg #[.string a.f0, .string a.f1, .int .i64 a.f2.f0, .int .i64 a.f2.f1, .int .i64 a.f2.f2, .slice A5 a.f3.length c5, .bool a.f4, .string a.f5] = v2
                    generalize Value.agg #[.string b.f0, .string b.f1, .int .i64 b.f2.f0, .int .i64 b.f2.f1, .int .i64 b.f2.f2, .slice A6 b.f3.length c6, .bool b.f4, .string b.f5] = v3
                    revert GY
                    revert GX
                    revert B4
                    revert v3
                    revert v2
                    revert q
                    revert p
                    revert w4
                    exact key.out
                case h2 =>
                  intro w4 p q v2 v3 B4 GX GY
                  replace GX : Hid (w4.heap[p]? = some (.cells (objC a A5 c5) 44 (0, 0))) := GX
                  replace GY : Hid (w4.heap[q]? = some (.cells (objC b A6 c6) 44 (0, 0))) := GY
                  have B5 : Hid (Below w.heap.size w w4) := Lib.hid (BL.out.trans (B4.out.mono BL.out.size))
                  have B04 : Hid (Below w0.heap.size w0 w4) := Lib.hid (BR0.out.trans (B4.out.mono BR0.out.size))
                  obtain ⟨y0, y1, y2, y3, y4, y5, y6, y7⟩ := obj_cells GX.out
                  obtain ⟨t0, t1, t2, t3, t4, t5, t6, t7⟩ := obj_cells GY.out
                  by_cases hN : a.f0 = b.f0
                  · have HPN : Hid ((a.f0.toList == b.f0.toList) = true) := Lib.hid (by rw [toList_inj]; exact decide_eq_true hN)
                    have HEN := Lib.hid hN
                    clear hN
                    by_cases hM : a.f1 = b.f1
                    · have HPM : Hid ((a.f1.toList == b.f1.toList) = true) := Lib.hid (by rw [toList_inj]; exact decide_eq_true hM)
                      have HEM := Lib.hid hM
                      clear hM
                      by_cases hT : a.f4 = b.f4
                      · have HPT : Hid ((a.f4 == b.f4) = true) := Lib.hid (by simp [hT])
                        have HRT : Hid ((a.f4 != b.f4) = false) := Lib.hid (by simp [hT])
                        have HET := Lib.hid hT
                        clear hT
                        by_cases hO : a.f5 = b.f5
                        · have HPO : Hid ((a.f5.toList == b.f5.toList) = true) := Lib.hid (by rw [toList_inj]; exact decide_eq_true hO)
                          have HEO := Lib.hid hO
                          clear hO
                          cases s with
                          | false =>
                            clear y2 y3 y4 t2 t3 t4
                            have HR0 : Hid (sameO false a b = sameL false a.f3 b.f3) := Lib.hid (by rw [HSA.out, HEN.out, HEM.out, HET.out, HEO.out]; simp)
                            have dpN := HPN.out
                            have dpM := HPM.out
                            have dpT := HPT.out
                            have drT := HRT.out
                            have dpO := HPO.out
                            go_wp2_with fail
                            refine (rattrs_calls (cntL a.f3) false a.f3 b.f3 A5 A6 c5 c6 w4 (Nat.le_refl _) (Kd.C_below HC5.out B5.out) l5 (Kd.C_below HC6.out B5.out) l6 HCN.out).mono ?_
                            rintro e w6 ⟨he6, hB6⟩
                            have B6 := Lib.hid (B5.out.trans (hB6.mono B5.out.size))
                            have B06 := Lib.hid (B04.out.trans (hB6.mono B04.out.size))
                            clear hB6 y0 t0 y1 t1 y5 t5 y6 t6 y7 t7 dpN dpM dpT drT dpO
                            obtain ⟨r6, hr6⟩ : ∃ r6, sameL false a.f3 b.f3 = r6 := ⟨_, rfl⟩
                            rw [hr6] at he6
                            subst he6
                            have HR6 := Lib.hid hr6
                            clear hr6
                            cases r6 with
                            | false =>
                              have HFALSE : Hid (sameT false t u = false) := Lib.hid (by rw [HTO.out, ← RL.out, HSD.out, HR0.out, HR6.out, Bool.false_and])
                              go_wp2_with fail
                              go_ret
                              exact ⟨show Ending.returned (.bool false) = _ by rw [HFALSE.out], B6.out⟩
                            | true =>
                              have HN : Hid (sameOs false (t.f2.drop (j + 1)) (u.f2.drop (j + 1)) = sameOs false t.f2 u.f2) := Lib.hid (by rw [← RL.out, HSD.out, HR0.out, HR6.out, Bool.true_and])
                              go_wp2_with fail
                              exact ⟨⟨j + 1, by go_num, by omega, HN, B06⟩, by simp [intOf]; omega⟩
                          | true =>
                            by_cases hP : sameP a.f2 b.f2 = true
                            · have HPP := Lib.hid (fun W => spot_neq2 a.f2.f0 a.f2.f1 a.f2.f2 b.f2.f0 b.f2.f1 b.f2.f2 W false (by rw [spot_same]; exact hP))
                              have HEP := Lib.hid hP
                              clear hP
                              have HR0 : Hid (sameO true a b = sameL true a.f3 b.f3) := Lib.hid (by rw [HSA.out, HEN.out, HEM.out, HET.out, HEO.out, HEP.out]; simp)
                              have dpN := HPN.out
                              have dpM := HPM.out
                              have dpT := HPT.out
                              have drT := HRT.out
                              have dpO := HPO.out
                              have dpP := HPP.out
                              go_wp2_with fail
                              refine (rattrs_calls (cntL a.f3) true a.f3 b.f3 A5 A6 c5 c6 w4 (Nat.le_refl _) (Kd.C_below HC5.out B5.out) l5 (Kd.C_below HC6.out B5.out) l6 HCN.out).mono ?_
                              rintro e w6 ⟨he6, hB6⟩
                              have B6 := Lib.hid (B5.out.trans (hB6.mono B5.out.size))
                              have B06 := Lib.hid (B04.out.trans (hB6.mono B04.out.size))
                              clear hB6 y0 t0 y1 t1 y2 t2 y3 t3 y4 t4 y5 t5 y6 t6 y7 t7 dpN dpM dpT drT dpO dpP
                              obtain ⟨r6, hr6⟩ : ∃ r6, sameL true a.f3 b.f3 = r6 := ⟨_, rfl⟩
                              rw [hr6] at he6
                              subst he6
                              have HR6 := Lib.hid hr6
                              clear hr6
                              cases r6 with
                              | false =>
                                have HFALSE : Hid (sameT true t u = false) := Lib.hid (by rw [HTO.out, ← RL.out, HSD.out, HR0.out, HR6.out, Bool.false_and])
                                go_wp2_with fail
                                go_ret
                                exact ⟨show Ending.returned (.bool false) = _ by rw [HFALSE.out], B6.out⟩
                              | true =>
                                have HN : Hid (sameOs true (t.f2.drop (j + 1)) (u.f2.drop (j + 1)) = sameOs true t.f2 u.f2) := Lib.hid (by rw [← RL.out, HSD.out, HR0.out, HR6.out, Bool.true_and])
                                go_wp2_with fail
                                exact ⟨⟨j + 1, by go_num, by omega, HN, B06⟩, by simp [intOf]; omega⟩
                            · have HQP := Lib.hid (fun W => spot_neq2 a.f2.f0 a.f2.f1 a.f2.f2 b.f2.f0 b.f2.f1 b.f2.f2 W true (by rw [spot_same]; simpa using hP))
                              have HEP := Lib.hid hP
                              clear hP
                              have HFALSE : Hid (sameT true t u = false) := Lib.hid (by rw [HTO.out, ← RL.out, HSD.out, show sameO true a b = false from (by rw [HSA.out, show sameP a.f2 b.f2 = false from (by simpa using HEP.out)]; simp), Bool.false_and])
                              clear y5 t5
                              have dpN := HPN.out
                              have dpM := HPM.out
                              have dpT := HPT.out
                              have drT := HRT.out
                              have dpO := HPO.out
                              have dqP := HQP.out
                              go_wp2_with fail
                              go_ret
                              exact ⟨show Ending.returned (.bool false) = _ by rw [HFALSE.out], B5.out⟩
                        · have HQO := Lib.hid (str_neq hO)
                          have HEO := Lib.hid hO
                          clear hO
                          have HFALSE : Hid (sameT s t u = false) := Lib.hid (by rw [HTO.out, ← RL.out, HSD.out, show sameO s a b = false from (by rw [HSA.out, decide_eq_false HEO.out]; simp), Bool.false_and])
                          clear y2 t2 y3 t3 y4 t4 y5 t5
                          have dpN := HPN.out
                          have dpM := HPM.out
                          have dpT := HPT.out
                          have drT := HRT.out
                          have dqO := HQO.out
                          go_wp2_with fail
                          go_ret
                          exact ⟨show Ending.returned (.bool false) = _ by rw [HFALSE.out], B5.out⟩
                      · have HQT : Hid ((a.f4 == b.f4) = false) := Lib.hid (by rw [beq_eq_false_iff_ne]; exact hT)
                        have HST : Hid ((a.f4 != b.f4) = true) := Lib.hid (by simp [hT])
                        have HET := Lib.hid hT
                        clear hT
                        have HFALSE : Hid (sameT s t u = false) := Lib.hid (by rw [HTO.out, ← RL.out, HSD.out, show sameO s a b = false from (by rw [HSA.out, HQT.out]; simp), Bool.false_and])
                        clear y2 t2 y3 t3 y4 t4 y5 t5 y7 t7
                        have dpN := HPN.out
                        have dpM := HPM.out
                        have dqT := HQT.out
                        have dsT := HST.out
                        go_wp2_with fail
                        go_ret
                        exact ⟨show Ending.returned (.bool false) = _ by rw [HFALSE.out], B5.out⟩
                    · have HQM := Lib.hid (str_neq hM)
                      have HEM := Lib.hid hM
                      clear hM
                      have HFALSE : Hid (sameT s t u = false) := Lib.hid (by rw [HTO.out, ← RL.out, HSD.out, show sameO s a b = false from (by rw [HSA.out, decide_eq_false HEM.out]; simp), Bool.false_and])
                      clear y2 t2 y3 t3 y4 t4 y5 t5 y6 t6 y7 t7
                      have dpN := HPN.out
                      have dqM := HQM.out
                      go_wp2_with fail
                      go_ret
                      exact ⟨show Ending.returned (.bool false) = _ by rw [HFALSE.out], B5.out⟩
                  · have HQN := Lib.hid (str_neq hN)
                    have HEN := Lib.hid hN
                    clear hN
                    have HFALSE : Hid (sameT s t u = false) := Lib.hid (by rw [HTO.out, ← RL.out, HSD.out, show sameO s a b = false from (by rw [HSA.out, decide_eq_false HEN.out]; simp), Bool.false_and])
                    clear y1 t1 y2 t2 y3 t3 y4 t4 y5 t5 y6 t6 y7 t7
                    have dqN := HQN.out
                    go_wp2_with fail
                    go_ret
                    exact ⟨show Ending.returned (.bool false) = _ by rw [HFALSE.out], B5.out⟩
              · obtain rfl : j = t.f2.length := by omega
                have HR : Hid (sameT s t u = true) := Lib.hid (by rw [HTO.out, ← RL.out, List.drop_eq_nil_of_le (Nat.le_refl _), List.drop_eq_nil_of_le (by rw [HEL.out]; exact Nat.le_refl _), sameOs_nil])
                clear RL
                go_wp2_with fail
                go_ret
                exact ⟨show Ending.returned (.bool true) = _ by rw [HR.out], BL.out⟩
          · have HQL : Hid (((t.f2.length : Int) == (u.f2.length : Int)) = false) := Lib.hid (by rw [beq_eq_false_iff_ne]; omega)
            have HSL : Hid (((t.f2.length : Int) != (u.f2.length : Int)) = true) := Lib.hid (by simp; omega)
            have HTL : Hid ((t.f2.length == u.f2.length) = false) := Lib.hid (by rw [beq_eq_false_iff_ne]; omega)
            have HEL := Lib.hid hL
            clear hL
            have HFALSE : Hid (sameT s t u = false) := Lib.hid (by rw [HST.out, sameOs_len s t.f2 u.f2 HEL.out]; simp)
            have dp1 := HP1.out
            have dp2 := HP2.out
            have dp3 := HP3.out
            have dr3 := HR3.out
            have dp4 := HP4.out
            have dqL := HQL.out
            have dsL := HSL.out
            have dtL := HTL.out
            go_wp2_with fail
            go_ret
            exact ⟨show Ending.returned (.bool false) = _ by rw [HFALSE.out], B0.out⟩
        · have HQ4 := Lib.hid (str_neq h4)
          have HE4 := Lib.hid h4
          clear h4
          have HFALSE : Hid (sameT s t u = false) := Lib.hid (by rw [HST.out, decide_eq_false HE4.out]; simp)
          clear y2 t2
          have dp1 := HP1.out
          have dp2 := HP2.out
          have dp3 := HP3.out
          have dr3 := HR3.out
          have dq4 := HQ4.out
          go_wp2_with fail
          go_ret
          exact ⟨show Ending.returned (.bool false) = _ by rw [HFALSE.out], B0.out⟩
      · have HQ3 : Hid ((t.f3 == u.f3) = false) := Lib.hid (by rw [beq_eq_false_iff_ne]; exact h3)
        have HS3 : Hid ((t.f3 != u.f3) = true) := Lib.hid (by simp [h3])
        have HE3 := Lib.hid h3
        clear h3
        have HFALSE : Hid (sameT s t u = false) := Lib.hid (by rw [HST.out, HQ3.out]; simp)
        clear y2 t2 y4 t4
        have dp1 := HP1.out
        have dp2 := HP2.out
        have dq3 := HQ3.out
        have ds3 := HS3.out
        go_wp2_with fail
        go_ret
        exact ⟨show Ending.returned (.bool false) = _ by rw [HFALSE.out], B0.out⟩
    · have HQ2 := Lib.hid (str_neq h2)
      have HE2 := Lib.hid h2
      clear h2
      have HFALSE : Hid (sameT s t u = false) := Lib.hid (by rw [HST.out, decide_eq_false HE2.out]; simp)
      clear y2 t2 y3 t3 y4 t4
      have dp1 := HP1.out
      have dq2 := HQ2.out
      go_wp2_with fail
      go_ret
      exact ⟨show Ending.returned (.bool false) = _ by rw [HFALSE.out], B0.out⟩
  · have HQ1 := Lib.hid (str_neq h1)
    have HE1 := Lib.hid h1
    clear h1
    have HFALSE : Hid (sameT s t u = false) := Lib.hid (by rw [HST.out, decide_eq_false HE1.out]; simp)
    clear y1 t1 y2 t2 y3 t3 y4 t4
    have dq1 := HQ1.out
    go_wp2_with fail
    go_ret
    exact ⟨show Ending.returned (.bool false) = _ by rw [HFALSE.out], B0.out⟩
end Go.Proofs.YtmfejjlmflgnbaaGreatDoor.Tok

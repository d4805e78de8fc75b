/- CONTRACT: the document's attrs: are two lists of attributes the same (with their spots, or but for them), by induction on how many they are. -/
import Derived.Test.YtmfejjlmflgnbaaGreatDoorZSame
import Derived.Test.YtmfejjlmflgnbaaGreatDoorZPrA
import Derived.RegionTactic
namespace Go.Proofs.YtmfejjlmflgnbaaGreatDoor.Tok
open Go.RowKit Go.Proofs.YtmfejjlmflgnbaaGreatDoor.PA Go.Proofs.YtmfejjlmflgnbaaGreatDoorW.PrintWords Go.Proofs.YtmfejjlmflgnbaaGreatDoorW.PrintLast Go.Proofs.YtmfejjlmflgnbaaGreatDoor.Sp Go.Proofs.YtmfejjlmflgnbaaGreatDoor.Tr
set_option linter.unusedVariables false
set_option linter.unusedSimpArgs false
set_option maxRecDepth 100000

theorem spot_eqIn (a b c a' b' c' : Int) (w : World) : (Op.equalIn 10000 41 (.agg #[.int .i64 a, .int .i64 b, .int .i64 c]) (.agg #[.int .i64 a', .int .i64 b', .int .i64 c'])).run Tryz.prog w = .ok (a == a' && (b == b' && c == c')) w := by
  have hu := Tryz.underlying41
  rw [show (10000 : Nat) = 9999 + 1 from rfl, run_equalIn_struct w 9999 41 _ _ hu (by kernel_rfl)]
  have u3 := Tryz.underlying3
  go_simp
  by_cases h1 : a = a' <;> by_cases h2 : b = b' <;> by_cases h3 : c = c' <;> simp [h1, h2, h3]
theorem spot_neq2 (a b c a' b' c' : Int) (W : World) (r : Bool) (hr : (a == a' && (b == b' && c == c')) = !r) : (binOp .neq 41 (.agg #[.int .i64 a, .int .i64 b, .int .i64 c]) (.agg #[.int .i64 a', .int .i64 b', .int .i64 c'])).run Tryz.prog W = .ok (.bool r) W := by
  simp only [go_sem, binOp, Op.equal, Sem.run_bind]
  rw [show Op.maxDepth = 10000 from rfl, spot_eqIn, hr]
  cases r <;> simp [go_sem]
theorem spot_same (x y : SP) : (x.f0 == y.f0 && (x.f1 == y.f1 && x.f2 == y.f2)) = sameP x y := by
  unfold sameP
  rw [Bool.and_assoc]
theorem str_neq {x y : ByteArray} (h : ¬ x = y) : (x.toList == y.toList) = false := by rw [toList_inj, decide_eq_false h]
theorem two_new {w w4 : World} {A B : Array Value} {T : TypeId} (h : w4 = ((w.alloc (.cells A T)).alloc (.cells B T)).drew) : Hid (Below w.heap.size w w4) ∧ Hid (w4.heap[w.heap.size]? = some (.cells A T (0, 0))) ∧ Hid (w4.heap[w.heap.size + 1]? = some (.cells B T (0, 0))) := by
  subst h
  have b1 := alloc_below w (.cells A T)
  have z1 : (w.alloc (.cells A T)).heap.size = w.heap.size + 1 := by simp
  have g0 := heap_alloc_new w (.cells A T)
  have g1 := heap_alloc_new (w.alloc (.cells A T)) (.cells B T)
  rw [z1] at g1
  generalize w.alloc (.cells A T) = w1 at *
  have b2 := alloc_below w1 (.cells B T)
  exact ⟨Lib.hid (b1.trans (b2.mono b1.size)).drew, Lib.hid (show (w1.alloc (.cells B T)).heap[w.heap.size]? = _ from (b2.block _ (Array.getElem?_eq_some_iff.1 g0).1).trans g0), Lib.hid g1⟩
set_option maxHeartbeats 32000000 in
theorem rattrs_calls (m : Nat) : ∀ (s : Bool) (l l' : List SA) (A A' : Option Addr) (c c' : Nat) (w : World), cntL l ≤ m → Kd.C k50 w A l.length l → l.length ≤ c → Kd.C k50 w A' l'.length l' → l'.length ≤ c' → cntL l ≤ 1000000000 →
    Calls Tryz.prog 42 #[.slice A l.length c, .slice A' l'.length c', .bool s] w fun e w' => e = .returned (.bool (sameL s l l')) ∧ Below w.heap.size w w' := by
  induction m with
  | zero =>
    intro s l l' A A' c c' w hm hC hc hC' hc' hb
    obtain rfl : l = [] := by
      have := cnt_len l
      exact List.length_eq_zero_iff.1 (by omega)
    by_cases he : l'.length = 0
    · obtain rfl := List.length_eq_zero_iff.1 he
      clear hm hC hC' hb he
      go_enter Tryz.func42, Tryz.ntmps42
      go_wp2_with fail
      go_loopw [7] (fun v wr => v = .int .i64 0 ∧ wr = w) (fun v _ => 0)
      case atStart => exact ⟨rfl, rfl⟩
      case round =>
        obtain ⟨rfl, rfl⟩ := hrel
        go_wp2_with fail
        go_ret
        exact ⟨show Ending.returned (.bool true) = _ by rw [sameL_nil], Below.refl _ _⟩
    · have HS := Lib.hid (sameL_len s [] l' (fun h => he (by simpa using h.symm)))
      have d1 : ((0 : Int) == (l'.length : Int)) = false := by rw [beq_eq_false_iff_ne]; omega
      have d2 : (0 == l'.length) = false := by rw [beq_eq_false_iff_ne]; omega
      have d3 : ((0 : Int) != (l'.length : Int)) = true := by simp; omega
      have d4 : (0 != l'.length) = true := by simp; omega
      clear hm hC hC' hb he
      go_enter Tryz.func42, Tryz.ntmps42
      go_wp2_with fail
      go_ret
      exact ⟨show Ending.returned (.bool false) = _ by rw [HS.out], Below.refl _ _⟩
  | succ m ih =>
    intro s l l' A A' c c' w hm hC hc hC' hc' hb
    by_cases he : l.length = l'.length
    · have HM := Lib.hid hm
      have HC := Lib.hid hC
      have HC' := Lib.hid hC'
      have HB := Lib.hid hb
      have HE := Lib.hid he
      have hlen := cnt_len l
      have HL := Lib.hid (show l.length ≤ 1000000000 by omega)
      rw [← he]
      clear hm hC hC' hb hlen he
      go_enter Tryz.func42, Tryz.ntmps42
      go_wp2_with fail
      go_loopw [7] (fun v wr => ∃ j : Nat, v = .int .i64 (j : Int) ∧ j ≤ l.length ∧ Hid (sameL s (l.drop j) (l'.drop j) = sameL s l l') ∧ Hid (Below w.heap.size w wr)) (fun v _ => l.length - (intOf v).toNat)
      case atStart => exact ⟨0, by go_num, by omega, Lib.hid rfl, Lib.hid (Below.refl _ _)⟩
      case round =>
        obtain ⟨j, rfl, hj, RL, BL⟩ := hrel
        have hl9 := HL.out
        by_cases hlt : j < l.length
        · have hx : l[j]? = some l[j] := List.getElem?_eq_getElem hlt
          have hlt' : j < l'.length := by have := HE.out; omega
          have hx' : l'[j]? = some l'[j] := List.getElem?_eq_getElem hlt'
          obtain ⟨ad, A9, c9, eA, x0, x1, x2, x3, x4, x5, x6, x7, x8, x9, x10, x11, l9, C9⟩ := at_T50 HC.out (j : Int) (by omega) (by omega)
          obtain ⟨bd, A8, c8, eB, z0, z1, z2, z3, z4, z5, z6, z7, z8, z9, z10, z11, l8, C8⟩ := at_T50 HC'.out (j : Int) (by omega) (by omega)
          rw [rd_at l j _ hx] at x0 x1 x2 x3 x4 x5 x6 x7 x8 x9 x10 x11 l9 C9
          rw [rd_at l' j _ hx'] at z0 z1 z2 z3 z4 z5 z6 z7 z8 z9 z10 z11 l8 C8
          have hcn := cnt_get l j _ hx
          rw [cnt_eq] at hcn
          generalize l[j] = a at hx x0 x1 x2 x3 x4 x5 x6 x7 x8 x9 x10 x11 l9 C9 hcn
          generalize l'[j] = b at hx' z0 z1 z2 z3 z4 z5 z6 z7 z8 z9 z10 z11 l8 C8
          cases eA
          cases eB
          simp only [Int.toNat_natCast] at x0 x1 x2 x3 x4 x5 x6 x7 x8 x9 x10 x11 z0 z1 z2 z3 z4 z5 z6 z7 z8 z9 z10 z11
          replace x0 := (BL.out.cell (World.block_lt_of_cell? w _ x0)).trans x0
          replace x1 := (BL.out.cell (World.block_lt_of_cell? w _ x1)).trans x1
          replace x2 := (BL.out.cell (World.block_lt_of_cell? w _ x2)).trans x2
          replace x3 := (BL.out.cell (World.block_lt_of_cell? w _ x3)).trans x3
          replace x4 := (BL.out.cell (World.block_lt_of_cell? w _ x4)).trans x4
          replace x5 := (BL.out.cell (World.block_lt_of_cell? w _ x5)).trans x5
          replace x6 := (BL.out.cell (World.block_lt_of_cell? w _ x6)).trans x6
          replace x7 := (BL.out.cell (World.block_lt_of_cell? w _ x7)).trans x7
          replace x8 := (BL.out.cell (World.block_lt_of_cell? w _ x8)).trans x8
          replace x9 := (BL.out.cell (World.block_lt_of_cell? w _ x9)).trans x9
          replace x10 := (BL.out.cell (World.block_lt_of_cell? w _ x10)).trans x10
          replace x11 := (BL.out.cell (World.block_lt_of_cell? w _ x11)).trans x11
          replace z0 := (BL.out.cell (World.block_lt_of_cell? w _ z0)).trans z0
          replace z1 := (BL.out.cell (World.block_lt_of_cell? w _ z1)).trans z1
          replace z2 := (BL.out.cell (World.block_lt_of_cell? w _ z2)).trans z2
          replace z3 := (BL.out.cell (World.block_lt_of_cell? w _ z3)).trans z3
          replace z4 := (BL.out.cell (World.block_lt_of_cell? w _ z4)).trans z4
          replace z5 := (BL.out.cell (World.block_lt_of_cell? w _ z5)).trans z5
          replace z6 := (BL.out.cell (World.block_lt_of_cell? w _ z6)).trans z6
          replace z7 := (BL.out.cell (World.block_lt_of_cell? w _ z7)).trans z7
          replace z8 := (BL.out.cell (World.block_lt_of_cell? w _ z8)).trans z8
          replace z9 := (BL.out.cell (World.block_lt_of_cell? w _ z9)).trans z9
          replace z10 := (BL.out.cell (World.block_lt_of_cell? w _ z10)).trans z10
          replace z11 := (BL.out.cell (World.block_lt_of_cell? w _ z11)).trans z11
          have HX := Lib.hid hx
          have HX' := Lib.hid hx'
          have HCN := Lib.hid hcn
          have HC9 := Lib.hid C9
          have HC8 := Lib.hid C8
          have HSA := Lib.hid (sameA_eq s a b)
          have HSD := Lib.hid (sameL_drop (s := s) hx hx')
          clear hx hx' hcn C9 C8
          have xa0 := fun (X : Obj) => cell_alloc1 x0 X
          have xb0 := fun (X Y : Obj) => cell_alloc1 (cell_alloc1 x0 X) Y
          have xa1 := fun (X : Obj) => cell_alloc1 x1 X
          have xb1 := fun (X Y : Obj) => cell_alloc1 (cell_alloc1 x1 X) Y
          have xa2 := fun (X : Obj) => cell_alloc1 x2 X
          have xb2 := fun (X Y : Obj) => cell_alloc1 (cell_alloc1 x2 X) Y
          have xa3 := fun (X : Obj) => cell_alloc1 x3 X
          have xb3 := fun (X Y : Obj) => cell_alloc1 (cell_alloc1 x3 X) Y
          have xa4 := fun (X : Obj) => cell_alloc1 x4 X
          have xb4 := fun (X Y : Obj) => cell_alloc1 (cell_alloc1 x4 X) Y
          have xa5 := fun (X : Obj) => cell_alloc1 x5 X
          have xb5 := fun (X Y : Obj) => cell_alloc1 (cell_alloc1 x5 X) Y
          have xa6 := fun (X : Obj) => cell_alloc1 x6 X
          have xb6 := fun (X Y : Obj) => cell_alloc1 (cell_alloc1 x6 X) Y
          have xa7 := fun (X : Obj) => cell_alloc1 x7 X
          have xb7 := fun (X Y : Obj) => cell_alloc1 (cell_alloc1 x7 X) Y
          have xa8 := fun (X : Obj) => cell_alloc1 x8 X
          have xb8 := fun (X Y : Obj) => cell_alloc1 (cell_alloc1 x8 X) Y
          have xa9 := fun (X : Obj) => cell_alloc1 x9 X
          have xb9 := fun (X Y : Obj) => cell_alloc1 (cell_alloc1 x9 X) Y
          have xa10 := fun (X : Obj) => cell_alloc1 x10 X
          have xb10 := fun (X Y : Obj) => cell_alloc1 (cell_alloc1 x10 X) Y
          have xa11 := fun (X : Obj) => cell_alloc1 x11 X
          have xb11 := fun (X Y : Obj) => cell_alloc1 (cell_alloc1 x11 X) Y
          have za0 := fun (X : Obj) => cell_alloc1 z0 X
          have zb0 := fun (X Y : Obj) => cell_alloc1 (cell_alloc1 z0 X) Y
          have za1 := fun (X : Obj) => cell_alloc1 z1 X
          have zb1 := fun (X Y : Obj) => cell_alloc1 (cell_alloc1 z1 X) Y
          have za2 := fun (X : Obj) => cell_alloc1 z2 X
          have zb2 := fun (X Y : Obj) => cell_alloc1 (cell_alloc1 z2 X) Y
          have za3 := fun (X : Obj) => cell_alloc1 z3 X
          have zb3 := fun (X Y : Obj) => cell_alloc1 (cell_alloc1 z3 X) Y
          have za4 := fun (X : Obj) => cell_alloc1 z4 X
          have zb4 := fun (X Y : Obj) => cell_alloc1 (cell_alloc1 z4 X) Y
          have za5 := fun (X : Obj) => cell_alloc1 z5 X
          have zb5 := fun (X Y : Obj) => cell_alloc1 (cell_alloc1 z5 X) Y
          have za6 := fun (X : Obj) => cell_alloc1 z6 X
          have zb6 := fun (X Y : Obj) => cell_alloc1 (cell_alloc1 z6 X) Y
          have za7 := fun (X : Obj) => cell_alloc1 z7 X
          have zb7 := fun (X Y : Obj) => cell_alloc1 (cell_alloc1 z7 X) Y
          have za8 := fun (X : Obj) => cell_alloc1 z8 X
          have zb8 := fun (X Y : Obj) => cell_alloc1 (cell_alloc1 z8 X) Y
          have za9 := fun (X : Obj) => cell_alloc1 z9 X
          have zb9 := fun (X Y : Obj) => cell_alloc1 (cell_alloc1 z9 X) Y
          have za10 := fun (X : Obj) => cell_alloc1 z10 X
          have zb10 := fun (X Y : Obj) => cell_alloc1 (cell_alloc1 z10 X) Y
          have za11 := fun (X : Obj) => cell_alloc1 z11 X
          have zb11 := fun (X Y : Obj) => cell_alloc1 (cell_alloc1 z11 X) Y
          go_wp2_with fail
          go_region
          all_goals
            clear x0 xa0 xb0 x1 xa1 xb1 x2 xa2 xb2 x3 xa3 xb3 x4 xa4 xb4 x5 xa5 xb5 x6 xa6 xb6 x7 xa7 xb7 x8 xa8 xb8 x9 xa9 xb9 x10 xa10 xb10 x11 xa11 xb11 z0 za0 zb0 z1 za1 zb1 z2 za2 zb2 z3 za3 zb3 z4 za4 zb4 z5 za5 zb5 z6 za6 zb6 z7 za7 zb7 z8 za8 zb8 z9 za9 zb9 z10 za10 zb10 z11 za11 zb11
            first
              | (obtain ⟨w4, hw4⟩ : ∃ w4 : World, w4 = ((wr.alloc (.cells #[.string a.f0, .int .i64 a.f1.f0, .int .i64 a.f1.f1, .int .i64 a.f1.f2, .int .i64 a.f2.f0, .string a.f2.f1, .int .u32 a.f2.f2, .bool a.f2.f3, .bool a.f3, .slice A9 a.f4.length c9, .bool a.f5, .string a.f6] 50)).alloc (.cells #[.string b.f0, .int .i64 b.f1.f0, .int .i64 b.f1.f1, .int .i64 b.f1.f2, .int .i64 b.f2.f0, .string b.f2.f1, .int .u32 b.f2.f2, .bool b.f2.f3, .bool b.f3, .slice A8 b.f4.length c8, .bool b.f5, .string b.f6] 50)).drew := ⟨_, rfl⟩
                 rw [← hw4]
                 obtain ⟨B4, GX, GY⟩ := two_new hw4
                 clear hw4
                 obtain ⟨q, hq⟩ : ∃ q, q = wr.heap.size + 1 := ⟨_, rfl⟩
                 rw [← hq] at GY ⊢
                 obtain ⟨p, hp⟩ : ∃ p, p = wr.heap.size := ⟨_, rfl⟩
                 rw [← hp] at GX ⊢
                 clear hp hq)
              | (obtain ⟨w4, hw4⟩ : ∃ w4 : World, w4 = ((wr.alloc (.cells #[.string b.f0, .int .i64 b.f1.f0, .int .i64 b.f1.f1, .int .i64 b.f1.f2, .int .i64 b.f2.f0, .string b.f2.f1, .int .u32 b.f2.f2, .bool b.f2.f3, .bool b.f3, .slice A8 b.f4.length c8, .bool b.f5, .string b.f6] 50)).alloc (.cells #[.string a.f0, .int .i64 a.f1.f0, .int .i64 a.f1.f1, .int .i64 a.f1.f2, .int .i64 a.f2.f0, .string a.f2.f1, .int .u32 a.f2.f2, .bool a.f2.f3, .bool a.f3, .slice A9 a.f4.length c9, .bool a.f5, .string a.f6] 50)).drew := ⟨_, rfl⟩
                 rw [← hw4]
                 obtain ⟨B4, GY, GX⟩ := two_new hw4
                 clear hw4
                 obtain ⟨p, hp⟩ : ∃ p, p = wr.heap.size + 1 := ⟨_, rfl⟩
                 rw [← hp] at GX ⊢
                 obtain ⟨q, hq⟩ : ∃ q, q = wr.heap.size := ⟨_, rfl⟩
                 rw [← hq] at GY ⊢
                 clear hp hq)
            replace GX : Hid (w4.heap[p]? = some (.cells (attrC a a.f2.f2 A9 c9) 50 (0, 0))) := GX
            replace GY : Hid (w4.heap[q]? = some (.cells (attrC b b.f2.f2 A8 c8) 50 (0, 0))) := GY
            have B5 : Hid (Below w.heap.size w w4) := Lib.hid (BL.out.trans (B4.out.mono BL.out.size))
            obtain ⟨y0, y1, y2, y3, y4, y5, y6, y7, y8, y9, y10, y11⟩ := attr_cells GX.out
            obtain ⟨t0, t1, t2, t3, t4, t5, t6, t7, t8, t9, t10, t11⟩ := attr_cells GY.out
            by_cases hN : a.f0 = b.f0
            · have HPN : Hid ((a.f0.toList == b.f0.toList) = true) := Lib.hid (by rw [toList_inj]; exact decide_eq_true hN)
              have HEN := Lib.hid hN
              clear hN
              by_cases hV : sameV a.f2 b.f2 = true
              · have HPV := Lib.hid (fun W => val_neq a.f2.f0 b.f2.f0 a.f2.f1 b.f2.f1 a.f2.f2 b.f2.f2 a.f2.f3 b.f2.f3 W false (by rw [val_same]; exact hV))
                have HEV := Lib.hid hV
                clear hV
                by_cases hB : a.f3 = b.f3
                · have HPB : Hid ((a.f3 == b.f3) = true) := Lib.hid (by simp [hB])
                  have HRB : Hid ((a.f3 != b.f3) = false) := Lib.hid (by simp [hB])
                  have HEB := Lib.hid hB
                  clear hB
                  by_cases hT : a.f5 = b.f5
                  · have HPT : Hid ((a.f5 == b.f5) = true) := Lib.hid (by simp [hT])
                    have HRT : Hid ((a.f5 != b.f5) = false) := Lib.hid (by simp [hT])
                    have HET := Lib.hid hT
                    clear hT
                    by_cases hO : a.f6 = b.f6
                    · have HPO : Hid ((a.f6.toList == b.f6.toList) = true) := Lib.hid (by rw [toList_inj]; exact decide_eq_true hO)
                      have HEO := Lib.hid hO
                      clear hO
                      cases s with
                      | false =>
                        clear y1 y2 y3 t1 t2 t3
                        have HR0 : Hid (sameA false a b = sameL false a.f4 b.f4) := Lib.hid (by rw [HSA.out, HEN.out, HEV.out, HEB.out, HET.out, HEO.out]; simp)
                        have dpN := HPN.out
                        have dpV := HPV.out
                        have dpB := HPB.out
                        have drB := HRB.out
                        have dpT := HPT.out
                        have drT := HRT.out
                        have dpO := HPO.out
                        go_wp2_with fail
                        refine (ih false a.f4 b.f4 A9 A8 c9 c8 w4 (by have := HCN.out; have := HM.out; omega) (Kd.C_below HC9.out B5.out) l9 (Kd.C_below HC8.out B5.out) l8 (by have := HCN.out; have := HB.out; omega)).mono ?_
                        rintro e w6 ⟨he6, hB6⟩
                        have B6 := Lib.hid (B5.out.trans (hB6.mono B5.out.size))
                        clear hB6 y0 t0 y4 t4 y5 t5 y6 t6 y7 t7 y8 t8 y9 t9 y10 t10 y11 t11 dpN dpV dpB drB dpT drT dpO
                        obtain ⟨r6, hr6⟩ : ∃ r6, sameL false a.f4 b.f4 = r6 := ⟨_, rfl⟩
                        rw [hr6] at he6
                        subst he6
                        have HR6 := Lib.hid hr6
                        clear hr6
                        cases r6 with
                        | false =>
                          have HFALSE : Hid (sameL false l l' = false) := Lib.hid (by rw [← RL.out, HSD.out, HR0.out, HR6.out, Bool.false_and])
                          go_wp2_with fail
                          go_ret
                          exact ⟨show Ending.returned (.bool false) = _ by rw [HFALSE.out], B6.out⟩
                        | true =>
                          have HN : Hid (sameL false (l.drop (j + 1)) (l'.drop (j + 1)) = sameL false l l') := Lib.hid (by rw [← RL.out, HSD.out, HR0.out, HR6.out, Bool.true_and])
                          go_wp2_with fail
                          exact ⟨⟨j + 1, by go_num, by omega, HN, B6⟩, by simp [intOf]; omega⟩
                      | true =>
                        by_cases hP : sameP a.f1 b.f1 = true
                        · have HPP := Lib.hid (fun W => spot_neq2 a.f1.f0 a.f1.f1 a.f1.f2 b.f1.f0 b.f1.f1 b.f1.f2 W false (by rw [spot_same]; exact hP))
                          have HEP := Lib.hid hP
                          clear hP
                          have HR0 : Hid (sameA true a b = sameL true a.f4 b.f4) := Lib.hid (by rw [HSA.out, HEN.out, HEV.out, HEB.out, HET.out, HEO.out, HEP.out]; simp)
                          have dpN := HPN.out
                          have dpV := HPV.out
                          have dpB := HPB.out
                          have drB := HRB.out
                          have dpT := HPT.out
                          have drT := HRT.out
                          have dpO := HPO.out
                          have dpP := HPP.out
                          go_wp2_with fail
                          refine (ih true a.f4 b.f4 A9 A8 c9 c8 w4 (by have := HCN.out; have := HM.out; omega) (Kd.C_below HC9.out B5.out) l9 (Kd.C_below HC8.out B5.out) l8 (by have := HCN.out; have := HB.out; omega)).mono ?_
                          rintro e w6 ⟨he6, hB6⟩
                          have B6 := Lib.hid (B5.out.trans (hB6.mono B5.out.size))
                          clear hB6 y0 t0 y1 t1 y2 t2 y3 t3 y4 t4 y5 t5 y6 t6 y7 t7 y8 t8 y9 t9 y10 t10 y11 t11 dpN dpV dpB drB dpT drT dpO dpP
                          obtain ⟨r6, hr6⟩ : ∃ r6, sameL true a.f4 b.f4 = r6 := ⟨_, rfl⟩
                          rw [hr6] at he6
                          subst he6
                          have HR6 := Lib.hid hr6
                          clear hr6
                          cases r6 with
                          | false =>
                            have HFALSE : Hid (sameL true l l' = false) := Lib.hid (by rw [← RL.out, HSD.out, HR0.out, HR6.out, Bool.false_and])
                            go_wp2_with fail
                            go_ret
                            exact ⟨show Ending.returned (.bool false) = _ by rw [HFALSE.out], B6.out⟩
                          | true =>
                            have HN : Hid (sameL true (l.drop (j + 1)) (l'.drop (j + 1)) = sameL true l l') := Lib.hid (by rw [← RL.out, HSD.out, HR0.out, HR6.out, Bool.true_and])
                            go_wp2_with fail
                            exact ⟨⟨j + 1, by go_num, by omega, HN, B6⟩, by simp [intOf]; omega⟩
                        · have HQP := Lib.hid (fun W => spot_neq2 a.f1.f0 a.f1.f1 a.f1.f2 b.f1.f0 b.f1.f1 b.f1.f2 W true (by rw [spot_same]; simpa using hP))
                          have HEP := Lib.hid hP
                          clear hP
                          have HFALSE : Hid (sameL true l l' = false) := Lib.hid (by rw [← RL.out, HSD.out, show sameA true a b = false from (by rw [HSA.out, show sameP a.f1 b.f1 = false from (by simpa using HEP.out)]; simp), Bool.false_and])
                          clear y9 t9
                          have dpN := HPN.out
                          have dpV := HPV.out
                          have dpB := HPB.out
                          have drB := HRB.out
                          have dpT := HPT.out
                          have drT := HRT.out
                          have dpO := HPO.out
                          have dqP := HQP.out
                          go_wp2_with fail
                          go_ret
                          exact ⟨show Ending.returned (.bool false) = _ by rw [HFALSE.out], B5.out⟩
                    · have HQO := Lib.hid (str_neq hO)
                      have HEO := Lib.hid hO
                      clear hO
                      have HFALSE : Hid (sameL s l l' = false) := Lib.hid (by rw [← RL.out, HSD.out, show sameA s a b = false from (by rw [HSA.out, decide_eq_false HEO.out]; simp), Bool.false_and])
                      clear y1 t1 y2 t2 y3 t3 y9 t9
                      have dpN := HPN.out
                      have dpV := HPV.out
                      have dpB := HPB.out
                      have drB := HRB.out
                      have dpT := HPT.out
                      have drT := HRT.out
                      have dqO := HQO.out
                      go_wp2_with fail
                      go_ret
                      exact ⟨show Ending.returned (.bool false) = _ by rw [HFALSE.out], B5.out⟩
                  · have HQT : Hid ((a.f5 == b.f5) = false) := Lib.hid (by rw [beq_eq_false_iff_ne]; exact hT)
                    have HST : Hid ((a.f5 != b.f5) = true) := Lib.hid (by simp [hT])
                    have HET := Lib.hid hT
                    clear hT
                    have HFALSE : Hid (sameL s l l' = false) := Lib.hid (by rw [← RL.out, HSD.out, show sameA s a b = false from (by rw [HSA.out, HQT.out]; simp), Bool.false_and])
                    clear y1 t1 y2 t2 y3 t3 y9 t9 y11 t11
                    have dpN := HPN.out
                    have dpV := HPV.out
                    have dpB := HPB.out
                    have drB := HRB.out
                    have dqT := HQT.out
                    have dsT := HST.out
                    go_wp2_with fail
                    go_ret
                    exact ⟨show Ending.returned (.bool false) = _ by rw [HFALSE.out], B5.out⟩
                · have HQB : Hid ((a.f3 == b.f3) = false) := Lib.hid (by rw [beq_eq_false_iff_ne]; exact hB)
                  have HSB : Hid ((a.f3 != b.f3) = true) := Lib.hid (by simp [hB])
                  have HEB := Lib.hid hB
                  clear hB
                  have HFALSE : Hid (sameL s l l' = false) := Lib.hid (by rw [← RL.out, HSD.out, show sameA s a b = false from (by rw [HSA.out, HQB.out]; simp), Bool.false_and])
                  clear y1 t1 y2 t2 y3 t3 y9 t9 y10 t10 y11 t11
                  have dpN := HPN.out
                  have dpV := HPV.out
                  have dqB := HQB.out
                  have dsB := HSB.out
                  go_wp2_with fail
                  go_ret
                  exact ⟨show Ending.returned (.bool false) = _ by rw [HFALSE.out], B5.out⟩
              · have HQV := Lib.hid (fun W => val_neq a.f2.f0 b.f2.f0 a.f2.f1 b.f2.f1 a.f2.f2 b.f2.f2 a.f2.f3 b.f2.f3 W true (by rw [val_same]; simpa using hV))
                have HEV := Lib.hid hV
                clear hV
                have HFALSE : Hid (sameL s l l' = false) := Lib.hid (by rw [← RL.out, HSD.out, show sameA s a b = false from (by rw [HSA.out, show sameV a.f2 b.f2 = false from (by simpa using HEV.out)]; simp), Bool.false_and])
                clear y1 t1 y2 t2 y3 t3 y8 t8 y9 t9 y10 t10 y11 t11
                have dpN := HPN.out
                have dqV := HQV.out
                go_wp2_with fail
                go_ret
                exact ⟨show Ending.returned (.bool false) = _ by rw [HFALSE.out], B5.out⟩
            · have HQN := Lib.hid (str_neq hN)
              have HEN := Lib.hid hN
              clear hN
              have HFALSE : Hid (sameL s l l' = false) := Lib.hid (by rw [← RL.out, HSD.out, show sameA s a b = false from (by rw [HSA.out, decide_eq_false HEN.out]; simp), Bool.false_and])
              clear y1 t1 y2 t2 y3 t3 y4 t4 y5 t5 y6 t6 y7 t7 y8 t8 y9 t9 y10 t10 y11 t11
              have dqN := HQN.out
              go_wp2_with fail
              go_ret
              exact ⟨show Ending.returned (.bool false) = _ by rw [HFALSE.out], B5.out⟩
        · obtain rfl : j = l.length := by omega
          have HR : Hid (sameL s l l' = true) := Lib.hid (by rw [← RL.out, List.drop_eq_nil_of_le (Nat.le_refl _), List.drop_eq_nil_of_le (by rw [HE.out]; exact Nat.le_refl _), sameL_nil])
          clear RL
          go_wp2_with fail
          go_ret
          exact ⟨show Ending.returned (.bool true) = _ by rw [HR.out], BL.out⟩
    · have HS := Lib.hid (sameL_len s l l' he)
      have d1 : ((l.length : Int) == (l'.length : Int)) = false := by rw [beq_eq_false_iff_ne]; omega
      have d2 : (l.length == l'.length) = false := by rw [beq_eq_false_iff_ne]; omega
      have d3 : ((l.length : Int) != (l'.length : Int)) = true := by simp; omega
      have d4 : (l.length != l'.length) = true := by simp; omega
      clear hm hC hC' hb he
      go_enter Tryz.func42, Tryz.ntmps42
      go_wp2_with fail
      go_ret
      exact ⟨show Ending.returned (.bool false) = _ by rw [HS.out], Below.refl _ _⟩
end Go.Proofs.YtmfejjlmflgnbaaGreatDoor.Tok

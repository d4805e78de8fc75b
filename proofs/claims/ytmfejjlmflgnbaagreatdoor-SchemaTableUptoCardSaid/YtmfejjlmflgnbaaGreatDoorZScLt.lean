/- THE LAW SchemaTable, its walk. -/
import Derived.Test.YtmfejjlmflgnbaaGreatDoorZHeads
import Derived.Test.YtmfejjlmflgnbaaGreatDoorZRows1
import Derived.Test.YtmfejjlmflgnbaaGreatDoorZScRr
namespace Go.Proofs.YtmfejjlmflgnbaaGreatDoor.Sc
open Go.RowKit Go.Proofs.YtmfejjlmflgnbaaGreatDoor.PA Go.Proofs.YtmfejjlmflgnbaaGreatDoorW.PrintWords Go.Proofs.YtmfejjlmflgnbaaGreatDoorW.PrintLast Go.Proofs.YtmfejjlmflgnbaaGreatDoorW.PrintMore Go.Proofs.YtmfejjlmflgnbaaGreatDoor.Sp Go.Proofs.YtmfejjlmflgnbaaGreatDoor.Tr Go.Proofs.YtmfejjlmflgnbaaGreatDoor.Tok
set_option linter.unusedVariables false
set_option linter.unusedSimpArgs false
set_option maxRecDepth 100000

set_option maxHeartbeats 32000000 in
theorem table_calls (eb : Int → Addr) (sp : Int) (w : World) (hG : EGlob eb w) (hGl : Glob w) (hT : w.cell? ⟨4, 0, none⟩ = some (.iface 226 (.agg #[.pointer (some ⟨15, 84, none⟩)]))) :
    Calls Tryz.prog 7 #[.int .i64 sp] w fun e w' => e = .returned (.bool true) ∧ Below w.heap.size w w' := by
  have HG := Lib.hid hG
  have HGL := Lib.hid hGl
  have HT := Lib.hid hT
  clear hG hGl hT
  go_enter Tryz.func7, Tryz.ntmps7
  go_wp2_with fail
  go_loopw [3] (fun v wr => ∃ m : Nat, v = .int .i64 (m : Int) ∧ m ≤ 2 ∧ Hid (Below w.heap.size w wr)) (fun v _ => 2 - (intOf v).toNat)
  case atStart => exact ⟨0, by go_num, by omega, Lib.hid (Below.refl _ _)⟩
  case round =>
    obtain ⟨m, rfl, hm, BL⟩ := hrel
    by_cases hlt : m < 2
    · go_upto_region 8 with (first
        | (go_at_call 23; refine (kinds_calls _).mono ?_; rintro e w1 ⟨rfl, hR1, hB1⟩; have R1 := Lib.hid hR1; have B1 := Lib.hid hB1; clear hR1 hB1)
        | (go_at_call 24; refine (rkinds_calls _).mono ?_; rintro e w2 ⟨rfl, hR2, hB2⟩; have R2 := Lib.hid hR2; have B2 := Lib.hid hB2; clear hR2 hB2)
        | (go_at_call 25; refine (rows_calls _).mono ?_; rintro e w3 ⟨⟨v3, rfl, hR3⟩, hB3⟩; obtain ⟨g3, c3, hv3, _⟩ := Kd.S_form hR3 (by decide); subst hv3; have R3 := Lib.hid hR3; have B3 := Lib.hid hB3; clear hR3 hB3)
        | (go_at_call 26; refine (rrows_calls _).mono ?_; rintro e w4 ⟨⟨v4, rfl, hR4⟩, hB4⟩; obtain ⟨g4, c4, hv4, _⟩ := Kd.R_form hR4 (by decide); subst hv4; have R4 := Lib.hid hR4; have B4 := Lib.hid hB4; clear hR4 hB4))
      obtain ⟨wo, hwo⟩ : ∃ wo, wo = wr := ⟨_, rfl⟩
      subst hwo
      have HZ : Hid (w.heap.size ≤ wo.heap.size ∧ wo.heap.size ≤ w1.heap.size ∧ w1.heap.size ≤ w2.heap.size ∧ w2.heap.size ≤ w3.heap.size ∧ w3.heap.size ≤ w4.heap.size) := Lib.hid ⟨BL.out.size, B1.out.size, B2.out.size, B3.out.size, B4.out.size⟩
      have HW1 : Hid (wo.heap.size < w1.heap.size) := Lib.hid (by
        obtain ⟨g, c, hv, _, hl, _⟩ := Kd.R_form R1.out (by decide)
        injection hv with hv _ _
        injection hv with hv
        injection hv with hv _ _
        omega)
      have B24 : Hid (Below w2.heap.size w2 w4) := Lib.hid (B3.out.trans (B4.out.mono B3.out.size))
      have B14 : Hid (Below w1.heap.size w1 w4) := Lib.hid (B2.out.trans (B24.out.mono B2.out.size))
      have K0 : Hid (Kd.R Kd.string 9 w4 wo.heap.size (fun k => k < w1.heap.size) (.slice (some ⟨wo.heap.size, 0, none⟩) 9 9) (spK spT kindsT 0)) := Lib.hid (R_old R1.out B14.out)
      have L0 : Hid (Kd.R Kd.string 9 w4 w1.heap.size (fun k => k < w2.heap.size) (.slice (some ⟨w1.heap.size, 0, none⟩) 9 9) kindsT) := Lib.hid (R_old R2.out B24.out)
      have S0 : Hid (Kd.S kRx 60 w4 w2.heap.size (fun k => k < w3.heap.size) (.slice (some ⟨g3, 0, none⟩) tab.length c3) (mixR tab 0)) := Lib.hid (by
        rw [mixR_zero]
        exact SR_some (Kd.S_mono (Kd.S_old R3.out B4.out) (fun k hk => hk.2)))
      have Q0 : Hid (Kd.R kRow 60 w4 w3.heap.size (fun k => k < w4.heap.size) (.slice (some ⟨g4, 0, none⟩) tab.length c4) tab) := Lib.hid (R_old R4.out (Below.refl _ _))
      have HG3 : Hid (w2.heap.size ≤ g3 ∧ g3 < w3.heap.size) := Lib.hid (by
        obtain ⟨g, c, hv, hl1, hl, _⟩ := Kd.S_form R3.out (by decide)
        injection hv with hv _ _
        injection hv with hv
        injection hv with hv _ _
        subst hv
        exact ⟨hl1, hl⟩)
      obtain ⟨N, hN⟩ : ∃ N, tab.length = N := ⟨_, rfl⟩
      rw [hN] at S0 Q0 ⊢
      have HN := Lib.hid hN
      have hN2 : N ≤ 1000 := by rw [← hN, tab_len]; decide
      clear hN R1 R2 R3 R4
      go_wp2_with fail
      go_loopw [8] (fun v wq => ∃ i : Nat, v = .int .i64 (i : Int) ∧ i ≤ 9 ∧ Hid (Kd.R Kd.string 9 wq wo.heap.size (fun k => k < w1.heap.size) (.slice (some ⟨wo.heap.size, 0, none⟩) 9 9) (spK spT kindsT i)) ∧ Hid (Below wo.heap.size w4 wq) ∧ Hid (∀ k, w1.heap.size ≤ k → k < w4.heap.size → wq.heap[k]? = w4.heap[k]?)) (fun v _ => 9 - (intOf v).toNat)
      case atStart => exact ⟨0, by go_num, by omega, K0, Lib.hid (Below.refl _ _), Lib.hid (fun _ _ _ => rfl)⟩
      case round =>
        obtain ⟨i, rfl, hi, RK, BK, KK⟩ := hrel
        by_cases hi9 : i < 9
        · have LK : Hid (Kd.R Kd.string 9 wr w1.heap.size (fun k => k < w2.heap.size) (.slice (some ⟨w1.heap.size, 0, none⟩) 9 9) kindsT) := Lib.hid (R_same L0.out (fun k h1 h2 h3 => KK.out k h1 (by have := HZ.out; omega)))
          obtain ⟨s, hs, ks, kt⟩ := word_at RK.out i hi9
          obtain ⟨s', hs', ls, _⟩ := word_at LK.out i hi9
          obtain rfl : s = s' := by
            rw [spK_at spT kindsT i hi9] at hs
            rw [List.getElem?_eq_getElem (show i < kindsT.length from hi9)] at hs'
            exact (Option.some.inj hs).symm.trans (Option.some.inj hs')
          have KT := Lib.hid kt
          clear hs hs' kt
          go_upto_region 13 with fail
          go_region
          go_wp2_with (first
            | ((with_reducible refine gate_store (t := 9) (p := 48) rfl ?_); refine cell_event rfl 9 _ _ rfl wo.heap.size i (.string spT) (by first | rfl | (simp [Addr.add, Act.eval]; done) | (go_simp; done)) rfl rfl (by first | exact KT.out | exact KT.out.drew) (by kernel_rfl) wo.heap.size (Nat.le_refl _) ?_; intro w5 hw5 hB5 hs5; have Q5 := word_put (by first | exact RK.out | exact Kd.R_drew RK.out) i spT hw5; have R5 : Hid (Kd.R Kd.string 9 w5 wo.heap.size (fun k => k < w1.heap.size) (.slice (some ⟨wo.heap.size, 0, none⟩) 9 9) (spK spT kindsT (i + 1))) := Lib.hid (by rw [← spK_set spT kindsT i hi9]; exact Q5.1); have B5 : Hid (Below wo.heap.size w4 w5) := Lib.hid (by first | exact BK.out.trans hB5 | exact BK.out.drew.trans hB5); have K5 : Hid (∀ k, w1.heap.size ≤ k → k < w4.heap.size → w5.heap[k]? = w4.heap[k]?) := Lib.hid (fun k h1 h2 => (Q5.2.block k (by have := BK.out.size; first | exact Nat.lt_of_lt_of_le h2 this) (fun e => by injection e with e; have := HW1.out; omega)).trans (KK.out k h1 h2)); clear Q5 hw5 hB5 hs5 ks ls))
          exact ⟨⟨i + 1, by go_num, by omega, R5, B5, K5⟩, by simp [intOf]; omega⟩
        · obtain rfl : i = 9 := by omega
          rw [show ((9 : Nat) : Int) = 9 from rfl]
          go_wp2_with fail
          obtain ⟨wk, hwk⟩ : ∃ wk, wk = wr := ⟨_, rfl⟩
          subst hwk
          have WS : Hid (w4.heap.size ≤ wk.heap.size) := Lib.hid BK.out.size
          have SK : Hid (Kd.S kRx 60 wk w2.heap.size (fun k => k < w3.heap.size) (.slice (some ⟨g3, 0, none⟩) N c3) (mixR tab 0)) := Lib.hid (S_same S0.out (fun k h1 h2 h3 => KK.out k (by have := HZ.out; omega) h2))
          have QK : Hid (Kd.R kRow 60 wk w3.heap.size (fun k => k < w4.heap.size) (.slice (some ⟨g4, 0, none⟩) N c4) tab) := Lib.hid (R_same Q0.out (fun k h1 h2 h3 => KK.out k (by have := HZ.out; omega) h2))
          clear RK KK K0 L0 S0 Q0
          go_loopw [9] (fun v wq => ∃ i : Nat, v = .int .i64 (i : Int) ∧ i ≤ N ∧ Hid (Kd.S kRx 60 wq w2.heap.size (fun k => k < w3.heap.size) (.slice (some ⟨g3, 0, none⟩) N c3) (mixR tab i)) ∧ Hid (Below w2.heap.size wk wq) ∧ Hid (∀ k, k < wk.heap.size → ¬ k < w3.heap.size → wq.heap[k]? = wk.heap[k]?)) (fun v _ => N - (intOf v).toNat)
          case atStart => exact ⟨0, by go_num, by omega, SK, Lib.hid (Below.refl _ _), Lib.hid (fun _ _ _ => rfl)⟩
          case round =>
            obtain ⟨i, rfl, hi2, SR, BR, KR⟩ := hrel
            by_cases hiN : i < N
            · have hlo : i < tab.length := by rw [HN.out]; exact hiN
              have hx : tab[i]? = some tab[i] := List.getElem?_eq_getElem hlo
              have hwl := tab_words _ (List.getElem_mem hlo)
              obtain ⟨oki, cs, hcl, hM, _, hoki, hH⟩ := Kd.S_lend SR.out none (i : Int) (by omega) (by omega)
              rw [mixR_at tab i _ hlo] at hM
              have hQ : Kd.C kRow wr (some ⟨g4, 0, none⟩) N tab := by
                have h := (Kd.R_reads' (R_same QK.out (fun k h1 h2 h3 => KR.out k h2 (by omega)))).2.2
                rw [HN.out] at h
                exact h
              obtain ⟨ad, A6, c6, eA, y0, y1, y2, y3, y4, y5, y6, y7, y8, y9, y10, l6, C6⟩ := at_Row hQ (i : Int) (by omega) (by omega)
              rw [rdRow_at tab i _ hx] at y0 y1 y2 y3 y4 y5 y6 y7 y8 y9 y10 l6 C6
              generalize tab[i] = x at hx hwl hM y0 y1 y2 y3 y4 y5 y6 y7 y8 y9 y10 l6 C6
              obtain ⟨v5, hcs, hR5⟩ := kRow_openM (show kRow.M wr w2.heap.size oki x cs from hM)
              subst hcs
              obtain ⟨A5, c5, e5, l5, C5⟩ := Kd.R_reads hR5
              subst e5
              cases eA
              simp only [Int.toNat_natCast, add_plain] at y0 y1 y2 y3 y4 y5 y6 y7 y8 y9 y10
              have P0 : Hid (HQ wk wr w2.heap.size (fun k => k < w3.heap.size) oki g3 N c3 tab i [.string x.obj, .string x.un, .string x.uw, .string x.name, .int .i64 x.want, .slice A5 x.words.length c5, .int .u32 x.lo, .int .u32 x.hi, .bool x.auto, .int .i64 x.times, .string x.dflt]) := Lib.hid ⟨hH, BR.out, KR.out⟩
              have W0 : Hid (Kd.R Kd.string 9 wr w2.heap.size oki (.slice A5 x.words.length c5) x.words) := Lib.hid hR5
              have HSR : Hid (∀ W, Below wr.heap.size wr W → Calls Tryz.prog 27 #[rowV x A5 c5, rowV x A6 c6] W fun e w' => e = .returned (.bool true) ∧ Below wr.heap.size wr w') := Lib.hid (fun W hB => (samerow_calls x A5 c5 A6 c6 W hwl (Kd.C_below C5 hB) (Kd.C_below C6 hB)).mono (fun e w' h => ⟨h.1, hB.trans (h.2.mono hB.size)⟩))
              have HWL := Lib.hid hwl
              have HLO := Lib.hid hlo
              have WR : Hid (w4.heap.size ≤ wr.heap.size) := Lib.hid (by have := BR.out.size; have := WS.out; omega)
              obtain ⟨n5, hn5⟩ : ∃ n5, x.words.length = n5 := ⟨_, rfl⟩
              unfold rowV rowC at HSR
              rw [hn5] at y5 P0 W0 HSR HWL l5
              have HN5 := Lib.hid hn5
              have x0 := P0.out.cell0 hiN _ rfl
              have x1 := P0.out.cell hiN 1 _ rfl
              have x2 := P0.out.cell hiN 2 _ rfl
              have x3 := P0.out.cell hiN 3 _ rfl
              have x4 := P0.out.cell hiN 4 _ rfl
              have x5 := P0.out.cell hiN 5 _ rfl
              have x6 := P0.out.cell hiN 6 _ rfl
              have x7 := P0.out.cell hiN 7 _ rfl
              have x8 := P0.out.cell hiN 8 _ rfl
              have x9 := P0.out.cell hiN 9 _ rfl
              have x10 := P0.out.cell hiN 10 _ rfl
              clear hx hwl hlo hcl hM hoki hH hR5 C5 C6 l5 l6 hQ hn5
              go_upto_region 19 with fail
              have HPK := Lib.hid (And.intro x0 (And.intro x1 (And.intro x2 (And.intro x3 (And.intro x4 (And.intro x5 (And.intro x6 (And.intro x7 (And.intro x8 (And.intro x9 (And.intro x10 (And.intro y0 (And.intro y1 (And.intro y2 (And.intro y3 (And.intro y4 (And.intro y5 (And.intro y6 (And.intro y7 (And.intro y8 (And.intro y9 (y10))))))))))))))))))))))
              clear x0 x1 x2 x3 x4 x5 x6 x7 x8 x9 x10 y0 y1 y2 y3 y4 y5 y6 y7 y8 y9 y10
              apply once
              case h1 =>
                intro key
                obtain ⟨x0, x1, x2, x3, x4, x5, x6, x7, x8, x9, x10, y0, y1, y2, y3, y4, y5, y6, y7, y8, y9, y10⟩ := HPK.out
                go_region_with (first
                    | (go_at_call 27; refine (HSR.out _ (by first | exact (Below.refl _ _) | exact (Below.refl _ _).drew | exact (Below.refl _ _).drew.drew | exact pw_below_drewN (Below.refl _ _) _)).mono ?_; rintro e w5 ⟨rfl, hB5⟩; have B5 := Lib.hid hB5; clear hB5))
                all_goals
                  clear x0 x1 x2 x3 x4 x5 x6 x7 x8 x9 x10 y0 y1 y2 y3 y4 y5 y6 y7 y8 y9 y10
                  revert B5
                  revert w5
                  exact key.out
              case h2 =>
                intro w5 B5
                have P5 : Hid (HQ wk w5 w2.heap.size (fun k => k < w3.heap.size) oki g3 N c3 tab i [.string x.obj, .string x.un, .string x.uw, .string x.name, .int .i64 x.want, .slice A5 n5 c5, .int .u32 x.lo, .int .u32 x.hi, .bool x.auto, .int .i64 x.times, .string x.dflt]) := Lib.hid (P0.out.below B5.out (by have := HZ.out; have := WS.out; omega))
                have W5 : Hid (Kd.R Kd.string 9 w5 w2.heap.size oki (.slice A5 n5 c5) x.words) := Lib.hid (Kd.R_below W0.out B5.out)
                have S5 : Hid (w4.heap.size ≤ w5.heap.size) := Lib.hid (by have := B5.out.size; have := WR.out; omega)
                go_wp2_with fail
                go_loopw [10] (fun v wq => ∃ (j : Nat) (ws : List ByteArray), v = .int .i64 (j : Int) ∧ j ≤ n5 ∧ Hid (ws.length = n5) ∧ Hid (Kd.R Kd.string 9 wq w2.heap.size oki (.slice A5 n5 c5) ws) ∧ Hid (HQ wk wq w2.heap.size (fun k => k < w3.heap.size) oki g3 N c3 tab i [.string x.obj, .string x.un, .string x.uw, .string x.name, .int .i64 x.want, .slice A5 n5 c5, .int .u32 x.lo, .int .u32 x.hi, .bool x.auto, .int .i64 x.times, .string x.dflt])) (fun v _ => n5 - (intOf v).toNat)
                case atStart => exact ⟨0, x.words, by go_num, by omega, HN5, W5, P5⟩
                case round =>
                  obtain ⟨j, ws, rfl, hj, HWN, RW, PQ⟩ := hrel
                  have hb9 := HWL.out
                  have x5 := PQ.out.cell hiN 5 _ rfl
                  by_cases hjn : j < n5
                  · obtain ⟨g5, cap5, hv5, hg5, _, _⟩ := Kd.R_form RW.out (by rw [HWN.out]; omega)
                    injection hv5 with hA5 hnn hc5
                    clear hnn hc5
                    subst hA5
                    have HG5 := Lib.hid hg5
                    have HO5 : Hid (oki g5) := Lib.hid (RW.out.1 g5 (by simp [Value.ownBlock]))
                    obtain ⟨s, _, es, et⟩ := word_at RW.out j hjn
                    have ET := Lib.hid et
                    clear et hg5 es
                    go_wp2_with (first
                      | ((with_reducible refine gate_store (t := 9) (p := 81) rfl ?_); refine cell_event rfl 9 _ _ rfl g5 j (.string spT) (by first | rfl | (simp [Addr.add, Act.eval]; done) | (go_simp; done)) rfl rfl (by first | exact ET.out | exact ET.out.drew) (by kernel_rfl) w2.heap.size HG5.out ?_; intro w6 hw6 hB6 hs6; have Q6 := word_put RW.out j spT hw6; have R6 : Hid (Kd.R Kd.string 9 w6 w2.heap.size oki (.slice (some ⟨g5, 0, none⟩) n5 c5) (ws.set j spT)) := Lib.hid Q6.1; have P6 : Hid (HQ wk w6 w2.heap.size (fun k => k < w3.heap.size) oki g3 N c3 tab i [.string x.obj, .string x.un, .string x.uw, .string x.name, .int .i64 x.want, .slice (some ⟨g5, 0, none⟩) n5 c5, .int .u32 x.lo, .int .u32 x.hi, .bool x.auto, .int .i64 x.times, .string x.dflt]) := Lib.hid (PQ.out.grown Q6.2 (fun k hk => by injection hk with hk; rw [← hk]; exact HO5.out) hB6); clear Q6 hw6 hB6 hs6 x5))
                    exact ⟨⟨j + 1, ws.set j spT, by go_num, by omega, Lib.hid (by rw [set_len]; exact HWN.out), R6, P6⟩, by simp [intOf]; omega⟩
                  · obtain rfl : j = n5 := by omega
                    have tk7 : True := trivial
                    go_wp2_with (first
                      | ((with_reducible refine gate_store (t := 46) (p := 87) rfl ?_); have _t := tk7; refine cell_event rfl 46 _ _ rfl g3 (i * 11 + 6) _ (by first | rfl | (simp [Addr.add, Act.eval]; done) | (go_simp; done)) rfl rfl (PQ.out.there hiN 6 _ rfl) (by kernel_rfl) w2.heap.size HG3.out.1 ?_; intro w7 hw7 hB7 hs7; have Q7a : ∃ u7 : Value, u7.oneCell' = true ∧ HQ wk w7 w2.heap.size (fun k => k < w3.heap.size) oki g3 N c3 tab i [.string x.obj, .string x.un, .string x.uw, .string x.name, .int .i64 x.want, .slice A5 j c5, u7, .int .u32 x.hi, .bool x.auto, .int .i64 x.times, .string x.dflt] := ⟨_, by rfl, (PQ.out.put hiN (by have := HZ.out; have := WS.out; omega) HG3.out.1 HG3.out.2 6 _ (by omega) rfl hw7).1⟩; obtain ⟨u7, hu7, Q7⟩ := Q7a; clear hw7 hB7 hs7 x5 tk7 _t)
                      | ((with_reducible refine gate_store (t := 9) (p := 91) rfl ?_); refine cell_event rfl 9 _ _ rfl g3 (i * 11 + 3) (.string spT) (by first | rfl | (simp [Addr.add, Act.eval]; done) | (go_simp; done)) rfl rfl (Q7.there hiN 3 _ rfl) (by kernel_rfl) w2.heap.size HG3.out.1 ?_; intro w8 hw8 hB8 hs8; have P8 : Hid (HQ wk w8 w2.heap.size (fun k => k < w3.heap.size) oki g3 N c3 tab i [.string x.obj, .string x.un, .string x.uw, .string spT, .int .i64 x.want, .slice A5 j c5, u7, .int .u32 x.hi, .bool x.auto, .int .i64 x.times, .string x.dflt]) := Lib.hid ((Q7.put hiN (by have := HZ.out; have := WS.out; omega) HG3.out.1 HG3.out.2 3 (.string spT) (by omega) rfl hw8).1); clear hw8 hB8 hs8 Q7))
                    exact ⟨⟨i + 1, by go_num, by omega, Lib.hid (P8.out.back HLO.out rfl (List.forall_mem_cons.2 ⟨rfl, List.forall_mem_cons.2 ⟨rfl, List.forall_mem_cons.2 ⟨rfl, List.forall_mem_cons.2 ⟨rfl, List.forall_mem_cons.2 ⟨rfl, List.forall_mem_cons.2 ⟨rfl, List.forall_mem_cons.2 ⟨hu7, List.forall_mem_cons.2 ⟨rfl, List.forall_mem_cons.2 ⟨rfl, List.forall_mem_cons.2 ⟨rfl, List.forall_mem_cons.2 ⟨rfl, fun _ h => absurd h List.not_mem_nil⟩⟩⟩⟩⟩⟩⟩⟩⟩⟩⟩)), Lib.hid P8.out.bel, Lib.hid P8.out.keep⟩, by simp [intOf]; omega⟩
            · obtain rfl : i = N := by omega
              go_wp2_with fail
              have BF : Hid (Below w.heap.size w wr) := Lib.hid (BL.out.trans ((B1.out.trans ((B14.out.mono B1.out.size).trans (BK.out.trans (BR.out.mono (by have := HZ.out; omega))))).mono BL.out.size))
              exact ⟨⟨m + 1, by go_num, by omega, BF⟩, by simp [intOf]; omega⟩
    · have HHD := Lib.hid (heads_calls eb wr (HG.out.below BL.out) (HGL.out.below BL.out) ((BL.out.cell (World.block_lt_of_cell? w _ HT.out)).trans HT.out))
      obtain rfl : m = 2 := by omega
      go_wp2_with (first
        | (go_at_call 28; refine HHD.out.mono ?_; rintro e w5 ⟨rfl, hB5⟩; have B5 : Hid (Below w.heap.size w w5) := Lib.hid (BL.out.trans (hB5.mono BL.out.size)); clear hB5))
      go_ret
      exact ⟨rfl, B5.out⟩
end Go.Proofs.YtmfejjlmflgnbaaGreatDoor.Sc

/- THE LAW SchemaHolds, its walk. -/
import Derived.Test.YtmfejjlmflgnbaaGreatDoorZScHx
import Derived.Test.YtmfejjlmflgnbaaGreatDoorZRows1
import Derived.BigQuiet
namespace Go.Proofs.YtmfejjlmflgnbaaGreatDoor.Sc
open Go.RowKit Go.Proofs.YtmfejjlmflgnbaaGreatDoor.PA Go.Proofs.YtmfejjlmflgnbaaGreatDoorW.PrintWords Go.Proofs.YtmfejjlmflgnbaaGreatDoorW.PrintLast Go.Proofs.YtmfejjlmflgnbaaGreatDoorW.PrintMore Go.Proofs.YtmfejjlmflgnbaaGreatDoor.Sp Go.Proofs.YtmfejjlmflgnbaaGreatDoor.Tr Go.Proofs.YtmfejjlmflgnbaaGreatDoor.Tok
set_option linter.unusedVariables false
set_option linter.unusedSimpArgs false
set_option maxRecDepth 100000

set_option maxHeartbeats 64000000 in
theorem holds_calls (eb : Int → Addr) (t : ST) (A : Option Addr) (c : Nat) (w : World) (hs : ∀ o ∈ t.f2, szL o.f3 ≤ 1048576) (hn : t.f2.length ≤ 1048576) (hC : Kd.C k44 w A t.f2.length t.f2) (hG : EGlob eb w) (hGl : Glob w) (hT : w.cell? ⟨4, 0, none⟩ = some (.iface 226 (.agg #[.pointer (some ⟨15, 84, none⟩)]))) :
    Calls Tryz.prog 10 #[.agg (treC t A c)] w fun e w' => e = .returned (.bool true) ∧ Below w.heap.size w w' := by
  have HRD : Hid (∀ W, Below w.heap.size w W → Calls Tryz.prog 29 #[.agg (treC t A c)] W (ReadPost t W)) := Lib.hid (fun W hB => read_calls eb t A c W (fun o ho => Nat.le_trans (hs o ho) (by decide)) (Nat.le_trans hn (by decide)) (Kd.C_below hC hB) (hG.below hB) ((hB.cell (World.block_lt_of_cell? w _ hT)).trans hT))
  have HHD : Hid (∀ W, Below w.heap.size w W → Calls Tryz.prog 28 #[] W fun e w' => e = .returned (.bool true) ∧ Below w.heap.size w w') := Lib.hid (fun W hB => (heads_calls eb W (hG.below hB) (hGl.below hB) ((hB.cell (World.block_lt_of_cell? w _ hT)).trans hT)).mono (fun e w' hp => ⟨hp.1, hB.trans (hp.2.mono hB.size)⟩))
  have HC := Lib.hid hC
  have HG := Lib.hid hG
  have HGL := Lib.hid hGl
  have HT := Lib.hid hT
  have HS := Lib.hid hs
  clear hC hG hGl hT hs
  have tkA : True := trivial
  have tkB : True := trivial
  cases hr : readT t with
  | error f =>
    have hk := readT_code hr
    have HRE : Hid (∀ W, Below w.heap.size w W → Calls Tryz.prog 29 #[.agg (treC t A c)] W fun e w' => Below W.heap.size W w' ∧ e = .returned (.tuple #[.agg sh0, .agg (faC f.code f.spot f.name)])) := Lib.hid (fun W hB => read_fail (eb := eb) hr (HRD.out W hB))
    clear HRD HS HC HG HGL HT hn hr
    obtain ⟨k, sp, nm⟩ := f
    have hk0 : ¬ k = 0 := by have h : 50 ≤ k := hk.1; omega
    have hk1 : (k == 0) = false := by simp [hk0]
    have hk2 : (k != 0) = true := by simp [hk0]
    clear hk
    unfold treC at HRE ⊢
    dsimp only at HRE
    go_enter Tryz.func10, Tryz.ntmps10
    go_upto_region 2 with (first
      | (refine run_event rfl (.box 24 _) rfl (.pointer (some ⟨w.heap.size, 0, none⟩)) (w.alloc (.cells #[.string t.f0, .string t.f1, .slice A t.f2.length c, .bool t.f3, .string t.f4] 24)) (by kernel_rfl) ?_; intro w1 hw1; have B1 : Hid (Below w.heap.size w w1) := Lib.hid (by rw [hw1]; exact alloc_below _ _); have E1 : Hid (w1.heap[w.heap.size]? = some (.cells #[.string t.f0, .string t.f1, .slice A t.f2.length c, .bool t.f3, .string t.f4] 24 (0, 0))) := Lib.hid (by rw [hw1]; exact heap_alloc_new _ _); clear hw1; obtain ⟨c0, c1, c2, c3, c4⟩ := tre_cells E1.out)
      | (go_at_call 29; refine (HRE.out w1 B1.out).mono ?_; rintro e u1 ⟨hB1, rfl⟩; have C1 := Lib.hid hB1; clear hB1 c0 c1 c2 c3 c4)
      | (have _t := tkA; refine run_event rfl (.alloc 64) rfl (.pointer (some ⟨u1.heap.size, 0, none⟩)) (u1.alloc (.cells sh0 64)) (by kernel_rfl) ?_; intro u2 hu2; have Bu2 : Hid (Below u1.heap.size u1 u2) := Lib.hid (by rw [hu2]; exact alloc_below _ _); have Eu2 : Hid (u2.heap[u1.heap.size]? = some (.cells sh0 64 (0, 0))) := Lib.hid (by rw [hu2]; exact heap_alloc_new _ _); clear hu2 tkA _t)
      | (have _t := tkB; refine run_event rfl (.alloc 66) rfl (.pointer (some ⟨u2.heap.size, 0, none⟩)) (u2.alloc (.cells fa0 66)) (by kernel_rfl) ?_; intro u3 hu3; have Bu3 : Hid (Below u2.heap.size u2 u3) := Lib.hid (by rw [hu3]; exact alloc_below _ _); have Eu3 : Hid (u3.heap[u2.heap.size]? = some (.cells fa0 66 (0, 0))) := Lib.hid (by rw [hu3]; exact heap_alloc_new _ _); have E23u := Lib.hid (blk_b Eu2.out Bu3.out); clear hu3 tkB _t)
      | ((with_reducible refine gate_store (t := 64) (p := 3) rfl ?_); refine put_event rfl 64 _ _ rfl u1.heap.size sh0 rfl rfl 64 sh0 E23u.out (by kernel_rfl) rfl (by simp [Value.oneCell']) u1.heap.size (Nat.le_refl _) ?_; intro u4 hb4 hB4 hs4 ho4; have E4u := Lib.hid hb4; have B4u := Lib.hid hB4; have E34u := Lib.hid ((ho4 u2.heap.size (blk_ne Eu3.out E23u.out (by decide))).trans Eu3.out); clear hb4 hB4 hs4 ho4)
      | ((with_reducible refine gate_store (t := 66) (p := 4) rfl ?_); refine put_event rfl 66 _ _ rfl u2.heap.size (faC k sp nm) rfl rfl 66 fa0 E34u.out (by kernel_rfl) rfl (by simp [Value.oneCell']) u2.heap.size (Nat.le_refl _) ?_; intro u5 hb5 hB5 hs5 ho5; have F5u : Hid (u5.heap[u2.heap.size]? = some (.cells (faC k sp nm) 66 (0, 0))) := Lib.hid hb5; have S5u : Hid (u5.heap[u1.heap.size]? = some (.cells sh0 64 (0, 0))) := Lib.hid ((ho5 u1.heap.size (blk_ne E4u.out E34u.out (by decide))).trans E4u.out); have BUu : Hid (Below u1.heap.size u1 u5) := Lib.hid (((Bu2.out.trans (Bu3.out.mono Bu2.out.size)).trans B4u.out).trans (hB5.mono Bu2.out.size)); clear hb5 hB5 hs5 ho5 Bu2 Eu2 Bu3 Eu3 E23u E4u B4u E34u))
    have l0 : u5.cell? ⟨u2.heap.size, 0, none⟩ = some (.int .i64 k) := (cell_row F5u.out 0).trans rfl
    have BW : Hid (Below w.heap.size w u5) := Lib.hid (B1.out.trans ((C1.out.trans (BUu.out.mono C1.out.size)).mono B1.out.size))
    go_wp2_with (first
      | (go_at_call 28; refine (HHD.out u5 BW.out).mono ?_; rintro e x1 ⟨rfl, hB⟩; have BX := Lib.hid hB; clear hB l0))
    go_ret
    exact ⟨rfl, BX.out⟩
  | ok s =>
    have hget := readT_get hr
    have HSZ := Lib.hid (readT_sz hr HS.out)
    have HRO := Lib.hid (fun W hB => read_ok (eb := eb) hr (HRD.out W hB))
    clear HRD HS hr
    obtain ⟨cp, its⟩ := s
    obtain ⟨hcp, hlen, hget⟩ := hget
    dsimp only at hcp hlen hget HRO
    subst hcp
    have HGET := Lib.hid hget
    clear hget
    unfold treC at HRO ⊢
    obtain ⟨N, hN⟩ : ∃ N, t.f2.length = N := ⟨_, rfl⟩
    rw [hN] at hlen hn HC HRO ⊢
    rw [hlen] at HRO
    have HN := Lib.hid hN
    have HNI := Lib.hid hlen
    clear hN hlen
    go_enter Tryz.func10, Tryz.ntmps10
    go_upto_region 2 with (first
      | (refine run_event rfl (.box 24 _) rfl (.pointer (some ⟨w.heap.size, 0, none⟩)) (w.alloc (.cells #[.string t.f0, .string t.f1, .slice A N c, .bool t.f3, .string t.f4] 24)) (by kernel_rfl) ?_; intro w1 hw1; have B1 : Hid (Below w.heap.size w w1) := Lib.hid (by rw [hw1]; exact alloc_below _ _); have E1 : Hid (w1.heap[w.heap.size]? = some (.cells #[.string t.f0, .string t.f1, .slice A N c, .bool t.f3, .string t.f4] 24 (0, 0))) := Lib.hid (by rw [hw1]; exact heap_alloc_new _ _); clear hw1; obtain ⟨c0, c1, c2, c3, c4⟩ := tre_cells E1.out)
      | (go_at_call 29; refine (HRO.out w1 B1.out).mono ?_; rintro e u1 ⟨hB1, Ai, ci, rfl, hR1⟩; have C1 := Lib.hid hB1; have R1 := Lib.hid hR1; clear hB1 hR1 c0 c1 c2 c3 c4)
      | (have _t := tkA; refine run_event rfl (.alloc 64) rfl (.pointer (some ⟨u1.heap.size, 0, none⟩)) (u1.alloc (.cells sh0 64)) (by kernel_rfl) ?_; intro u2 hu2; have Bu2 : Hid (Below u1.heap.size u1 u2) := Lib.hid (by rw [hu2]; exact alloc_below _ _); have Eu2 : Hid (u2.heap[u1.heap.size]? = some (.cells sh0 64 (0, 0))) := Lib.hid (by rw [hu2]; exact heap_alloc_new _ _); clear hu2 tkA _t)
      | (have _t := tkB; refine run_event rfl (.alloc 66) rfl (.pointer (some ⟨u2.heap.size, 0, none⟩)) (u2.alloc (.cells fa0 66)) (by kernel_rfl) ?_; intro u3 hu3; have Bu3 : Hid (Below u2.heap.size u2 u3) := Lib.hid (by rw [hu3]; exact alloc_below _ _); have Eu3 : Hid (u3.heap[u2.heap.size]? = some (.cells fa0 66 (0, 0))) := Lib.hid (by rw [hu3]; exact heap_alloc_new _ _); have E23u := Lib.hid (blk_b Eu2.out Bu3.out); clear hu3 tkB _t)
      | ((with_reducible refine gate_store (t := 64) (p := 3) rfl ?_); refine put_event rfl 64 _ _ rfl u1.heap.size #[.string t.f1, .slice Ai N ci] rfl rfl 64 sh0 E23u.out (by kernel_rfl) rfl (by simp [Value.oneCell']) u1.heap.size (Nat.le_refl _) ?_; intro u4 hb4 hB4 hs4 ho4; have E4u := Lib.hid hb4; have B4u := Lib.hid hB4; have E34u := Lib.hid ((ho4 u2.heap.size (blk_ne Eu3.out E23u.out (by decide))).trans Eu3.out); clear hb4 hB4 hs4 ho4)
      | ((with_reducible refine gate_store (t := 66) (p := 4) rfl ?_); refine put_event rfl 66 _ _ rfl u2.heap.size fa0 rfl rfl 66 fa0 E34u.out (by kernel_rfl) rfl (by simp [Value.oneCell']) u2.heap.size (Nat.le_refl _) ?_; intro u5 hb5 hB5 hs5 ho5; have F5u : Hid (u5.heap[u2.heap.size]? = some (.cells fa0 66 (0, 0))) := Lib.hid hb5; have S5u : Hid (u5.heap[u1.heap.size]? = some (.cells #[.string t.f1, .slice Ai N ci] 64 (0, 0))) := Lib.hid ((ho5 u1.heap.size (blk_ne E4u.out E34u.out (by decide))).trans E4u.out); have BUu : Hid (Below u1.heap.size u1 u5) := Lib.hid (((Bu2.out.trans (Bu3.out.mono Bu2.out.size)).trans B4u.out).trans (hB5.mono Bu2.out.size)); clear hb5 hB5 hs5 ho5 Bu2 Eu2 Bu3 Eu3 E23u E4u B4u E34u))
    have BW : Hid (Below w1.heap.size w1 u5) := Lib.hid (C1.out.trans (BUu.out.mono C1.out.size))
    have T5 := Lib.hid (blk_b E1.out BW.out)
    have BW5 : Hid (Below w.heap.size w u5) := Lib.hid (B1.out.trans (BW.out.mono B1.out.size))
    have I5 : Hid (Kd.C kItem u5 Ai N its) := Lib.hid (by
      have h := (Kd.R_reads' (Kd.R_below R1.out BUu.out)).2.2
      rw [HNI.out] at h
      exact h)
    have O5 : Hid (Kd.C k44 u5 A N t.f2) := Lib.hid (Kd.C_below HC.out BW5.out)
    obtain ⟨c0, c1, c2, c3, c4⟩ := tre_cells T5.out
    obtain ⟨s0, s1⟩ := she_cells S5u.out
    have l0 : u5.cell? ⟨u2.heap.size, 0, none⟩ = some (.int .i64 0) := (cell_row F5u.out 0).trans rfl
    go_upto_region 6 with fail
    clear c0 c1 c2 c3 c4 s0 s1 l0 R1 B1 E1 C1 BUu F5u BW
    go_upto_region 7 with (first
      | (go_at_call 25; refine (rows_calls u5).mono ?_; rintro e u6 ⟨⟨v6, rfl, hR6⟩, hB6⟩; obtain ⟨g6, c6, hv6, _⟩ := Kd.S_form hR6 (by decide); subst hv6; have Q6 := Lib.hid hR6; have B6 := Lib.hid hB6; clear hR6 hB6))
    have R6 : Hid (Kd.C kRow u6 (some ⟨g6, 0, none⟩) 49 tab) := Lib.hid (by
      have h := (Kd.R_reads' (Kd.S_R Q6.out)).2.2
      rw [tab_len] at h
      exact h)
    have T6 := Lib.hid (blk_b T5.out B6.out)
    have S6 := Lib.hid (blk_b S5u.out B6.out)
    have I6 := Lib.hid (Kd.C_below I5.out B6.out)
    have O6 := Lib.hid (Kd.C_below O5.out B6.out)
    have BW6 : Hid (Below w.heap.size w u6) := Lib.hid (BW5.out.trans (B6.out.mono BW5.out.size))
    clear Q6 T5 S5u I5 O5 B6
    rw [tab_len]
    go_wp2_with fail
    go_loopw [6] (fun v wq => ∃ i : Nat, v = .int .i64 (i : Int) ∧ i ≤ N ∧ Hid (Below u6.heap.size u6 wq)) (fun v _ => N - (intOf v).toNat)
    case atStart => exact ⟨0, by go_num, by omega, Lib.hid (Below.refl _ _)⟩
    case round =>
      obtain ⟨i, rfl, hi, BR⟩ := hrel
      have SR := Lib.hid (blk_b S6.out BR.out)
      obtain ⟨s0, s1⟩ := she_cells SR.out
      by_cases hiN : i < N
      · have hl9 : N ≤ 1048576 := hn
        clear s0
        have hjI : i < its.length := by rw [HNI.out]; exact hiN
        have hjO : i < t.f2.length := by rw [HN.out]; exact hiN
        have hx : its[i]? = some its[i] := List.getElem?_eq_getElem hjI
        have ho : t.f2[i]? = some t.f2[i] := List.getElem?_eq_getElem hjO
        obtain ⟨ad, A5, c5, eA, x0, x1, x2, x3, x4, x5, l5, C5⟩ := at_Item (Kd.C_below I6.out BR.out) (i : Int) (by omega) (by omega)
        obtain ⟨bd, A7, c7, eB, z0, z1, z2, z3, z4, z5, z6, z7, l7, C7⟩ := at_T44 (Kd.C_below O6.out BR.out) (i : Int) (by omega) (by omega)
        clear z2 z3 z4 z5 z6 z7 l7 C7
        rw [item_at' its i _ hx] at x0 x1 x2 x3 x4 x5 l5 C5
        rw [obj_at t.f2 i _ ho] at z0 z1
        obtain ⟨it, hit, hro⟩ := HGET.out i _ ho
        rw [hx] at hit
        replace hit := Option.some.inj hit
        obtain ⟨e0, e1, e2, g, hH⟩ := hold_start hro
        clear e2
        have hz := HSZ.out its[i] (List.getElem_mem hjI)
        rw [← hit] at e0 e1 hH
        generalize its[i] = x at hx x0 x1 x2 x3 x4 x5 l5 C5 e0 e1 hH hz hit
        generalize t.f2[i] = o at ho z0 z1 e0 e1 hH hro
        rw [← e0] at z0 hH
        rw [← e1] at z1
        obtain ⟨kd, nm, sp, es⟩ := x
        dsimp only at x0 x1 x2 x3 x4 x5 l5 C5 e0 e1 hH hz z0 z1
        have HH := Lib.hid hH
        have HZ := Lib.hid hz
        have HC5 := Lib.hid C5
        clear hx ho hit hro hH hz C5 e0 e1 hjI hjO l5
        cases eA
        cases eB
        simp only [Int.toNat_natCast] at x0 x1 x2 x3 x4 x5 z0 z1
        obtain ⟨n5, hn5⟩ : ∃ n5, es.length = n5 := ⟨_, rfl⟩
        rw [hn5] at x5 HC5
        have HN5 := Lib.hid hn5
        have hb5 : n5 ≤ 1073741824 := by rw [← hn5]; exact Nat.le_trans (szEs_len es) HZ.out
        clear hn5
        have TR := Lib.hid (blk_b T6.out BR.out)
        have tkC : True := trivial
        go_upto_region 11 with (first
          | (have _t := tkC; refine run_event rfl (.alloc 78) rfl (.pointer (some ⟨wr.heap.size, 0, none⟩)) (wr.alloc (.cells item0 78)) (by kernel_rfl) ?_; intro v1 hv1; have Bv1 : Hid (Below wr.heap.size wr v1) := Lib.hid (by rw [hv1]; exact alloc_below _ _); have Ev1 : Hid (v1.heap[wr.heap.size]? = some (.cells item0 78 (0, 0))) := Lib.hid (by rw [hv1]; exact heap_alloc_new _ _); clear hv1 tkC _t)
          | ((with_reducible refine gate_store (t := 78) (p := 7) rfl ?_); refine put_event rfl 78 _ _ rfl wr.heap.size #[.string kd, .string nm, .int .i64 sp.f0, .int .i64 sp.f1, .int .i64 sp.f2, .slice A5 n5 c5] rfl rfl 78 item0 Ev1.out (by kernel_rfl) rfl (by simp [Value.oneCell']) wr.heap.size (Nat.le_refl _) ?_; intro v2 hbv2 hBv2 hsv2 hov2; have Gv2 : Hid (v2.heap[wr.heap.size]? = some (.cells #[.string kd, .string nm, .int .i64 sp.f0, .int .i64 sp.f1, .int .i64 sp.f2, .slice A5 n5 c5] 78 (0, 0))) := Lib.hid hbv2; have Dv2 : Hid (Below wr.heap.size wr v2) := Lib.hid (Bv1.out.trans hBv2); clear hbv2 hBv2 hsv2 hov2; clear x0 x1 x2 x3 x4 x5 Bv1 Ev1))
        have z0' := (Dv2.out.cell (World.block_lt_of_cell? wr _ z0)).trans z0
        have z1' := (Dv2.out.cell (World.block_lt_of_cell? wr _ z1)).trans z1
        obtain ⟨t0, t1, t2, t3, t4⟩ := tre_cells (blk_b TR.out Dv2.out)
        obtain ⟨i0, i1, i2, i3, i4, i5⟩ := item_cells Gv2.out
        clear i2 i3 i4
        clear z0 z1 s1 t0 t1 t3 t4
        have HC2 := Lib.hid (Kd.C_below HC5.out Dv2.out)
        go_quiet (fail)
        go_wp2_with fail
        clear z0' z1' t2 i0 i1 i5
        go_loopw [8, 9] (fun v8 v9 wq => ∃ (j k : Nat) (l : List SE), v8 = .int .i64 (k : Int) ∧ v9 = .int .i64 (j : Int) ∧ j ≤ 49 ∧ k ≤ n5 ∧ Hid (HoldJ kd o.f2 g l j) ∧ Hid (es.drop k = l) ∧ Hid (Below v2.heap.size v2 wq)) (fun _ v9 _ => 49 - (intOf v9).toNat)
        case atStart => exact ⟨0, 0, es, by go_num, by go_num, by omega, by omega, HH, Lib.hid rfl, Lib.hid (pw_below_drewN (Below.refl _ _) _)⟩
        case round =>
          obtain ⟨j, k, l, rfl, rfl, hj, hk, HJ, HK, BJ⟩ := hrel
          have GJ := Lib.hid (blk_b Gv2.out BJ.out)
          obtain ⟨i0, i1, i2, i3, i4, i5⟩ := item_cells GJ.out
          clear i1 i2 i3 i4
          have B6J : Hid (Below u6.heap.size u6 wr) := Lib.hid (BR.out.trans ((Dv2.out.trans (BJ.out.mono Dv2.out.size)).mono BR.out.size))
          by_cases hj9 : j < 49
          · have hk9 : k ≤ 1073741824 := by omega
            have hjt : j < tab.length := by rw [tab_len]; exact hj9
            have hx : tab[j]? = some tab[j] := List.getElem?_eq_getElem hjt
            obtain ⟨ad2, A8, c8, eR, y0, y1, y2, y3, y4, y5, y6, y7, y8, y9, y10, l8, C8⟩ := at_Row (Kd.C_below R6.out B6J.out) (j : Int) (by omega) (by omega)
            rw [row_at tab j _ hx] at y0 y1 y2 y3 y4 y5 y6 y7 y8 y9 y10 l8 C8
            have HT3 : Hid (tab[j].times ≠ 3 ∨ tab[j].times = 3) := Lib.hid (by omega)
            generalize tab[j] = r at hx y0 y1 y2 y3 y4 y5 y6 y7 y8 y9 y10 l8 C8 HT3
            cases eR
            simp only [Int.toNat_natCast, add_plain] at y0 y1 y2 y3 y4 y5 y6 y7 y8 y9 y10
            have HX := Lib.hid hx
            clear hx hjt l8 C8
            have tkD : True := trivial
            obtain ⟨n8, hn8⟩ : ∃ n8, r.words.length = n8 := ⟨_, rfl⟩
            rw [hn8] at y5
            clear hn8
            obtain ⟨wj, hwj⟩ : ∃ wj, wj = wr := ⟨_, rfl⟩
            subst hwj
            go_upto_region 18 with (first
              | (have _t := tkD; refine run_event rfl (.alloc 60) rfl (.pointer (some ⟨wj.heap.size, 0, none⟩)) (wj.alloc (.cells row0 60)) (by kernel_rfl) ?_; intro q1 hq1; have Bq1 : Hid (Below wj.heap.size wj q1) := Lib.hid (by rw [hq1]; exact alloc_below _ _); have Eq1 : Hid (q1.heap[wj.heap.size]? = some (.cells row0 60 (0, 0))) := Lib.hid (by rw [hq1]; exact heap_alloc_new _ _); clear hq1 tkD _t)
              | ((with_reducible refine gate_store (t := 60) (p := 10) rfl ?_); refine put_event rfl 60 _ _ rfl wj.heap.size #[.string r.obj, .string r.un, .string r.uw, .string r.name, .int .i64 r.want, .slice A8 n8 c8, .int .u32 r.lo, .int .u32 r.hi, .bool r.auto, .int .i64 r.times, .string r.dflt] rfl rfl 60 row0 Eq1.out (by kernel_rfl) rfl (by simp [Value.oneCell']) wj.heap.size (Nat.le_refl _) ?_; intro q2 hbq2 hBq2 hsq2 hoq2; have Gq2 : Hid (q2.heap[wj.heap.size]? = some (.cells #[.string r.obj, .string r.un, .string r.uw, .string r.name, .int .i64 r.want, .slice A8 n8 c8, .int .u32 r.lo, .int .u32 r.hi, .bool r.auto, .int .i64 r.times, .string r.dflt] 60 (0, 0))) := Lib.hid hbq2; have Dq2 : Hid (Below wj.heap.size wj q2) := Lib.hid (Bq1.out.trans hBq2); clear hbq2 hBq2 hsq2 hoq2; clear y0 y1 y2 y3 y4 y5 y6 y7 y8 y9 y10 i0 i5 Bq1 Eq1))
            obtain ⟨r0, r1, r2, r3, r4, r5, r6, r7, r8, r9, r10⟩ := row_cells Gq2.out
            have GQ := Lib.hid (blk_b GJ.out Dq2.out)
            obtain ⟨i0, i1, i2, i3, i4, i5⟩ := item_cells GQ.out
            have BQ : Hid (Below v2.heap.size v2 q2) := Lib.hid (BJ.out.trans (Dq2.out.mono BJ.out.size))
            clear i1 i2 i3 i4
            by_cases hob : r.obj = kd
            · have hob1 : (r.obj.toList == kd.toList) = true := by rw [beq_str]; simp [hob]
              by_cases hun : r.un = ⟨#[]⟩
              · have HRR := Lib.hid (And.intro hob hun)
                rw [hun] at r1
                clear hun hob
                clear r3 r4 r5 r6 r7 r8 r9 r10 i5
                go_wp2_with fail
                clear hob1 r0 r1 r2 i0
                obtain ⟨cs, l2, hl2, hH2, hce, hc1, hl2n⟩ := hold_turn HJ.out HX.out HRR.out
                have hlen : n5 = k + cs.length + l2.length := by
                  have h := congrArg List.length (HK.out.trans hl2)
                  rw [List.length_drop, HN5.out, List.length_append] at h
                  omega
                have HJ2 := Lib.hid hH2
                have HK2 : Hid (es.drop (k + cs.length) = l2) := Lib.hid (by
                  rw [← List.drop_drop, HK.out, hl2, List.drop_left])
                have HAT : Hid (∀ m, m < cs.length → ∃ e, es[k + m]? = some e ∧ e.name = r.name ∧ (r.want = 1 → e.auto = false → r.lo ≤ e.num ∧ e.num ≤ r.hi)) := Lib.hid (fun m hm => by
                  have h1 : es[k + m]? = some cs[m] := by
                    rw [← List.getElem?_drop, HK.out, hl2, List.getElem?_append_left hm, List.getElem?_eq_getElem hm]
                  have h2 := hce _ (List.getElem_mem hm)
                  exact ⟨_, h1, h2.1, h2.2⟩)
                have HAE : Hid (k + cs.length < n5 → ∃ e, es[k + cs.length]? = some e ∧ ¬ e.name = r.name) := Lib.hid (fun h => by
                  have h0 : 0 < l2.length := by omega
                  have h1 : es[k + cs.length]? = some l2[0] := by
                    have h3 : (es.drop (k + cs.length))[0]? = some l2[0] := by rw [HK2.out, List.getElem?_eq_getElem h0]
                    rw [List.getElem?_drop, Nat.add_zero] at h3
                    exact h3
                  exact ⟨_, h1, hl2n _ (List.getElem_mem h0)⟩)
                have hkc : k + cs.length ≤ n5 := by omega
                have HC1 := Lib.hid hc1
                clear hl2 hH2 hce hc1 hl2n hlen
                obtain ⟨nC, hnC⟩ : ∃ nC, cs.length = nC := ⟨_, rfl⟩
                rw [hnC] at HK2 HAT HAE hkc HC1
                clear hnC
                go_loopw [8, 11] (fun v8 v11 wq => ∃ m p : Nat, v8 = .int .i64 (p : Int) ∧ v11 = .int .i64 (m : Int) ∧ m ≤ nC ∧ p ≤ n5 ∧ Hid (p = k + m) ∧ Hid (Below q2.heap.size q2 wq)) (fun _ v11 _ => nC - (intOf v11).toNat)
                case atStart => exact ⟨0, k, by go_num, by go_num, by omega, hk, Lib.hid rfl, Lib.hid (by first | exact Below.refl _ _ | exact (Below.refl _ _).drew | exact pw_below_drewN (Below.refl _ _) _)⟩
                case round =>
                  obtain ⟨m, p, rfl, rfl, hm, hp, HPM, BM⟩ := hrel
                  have GI := Lib.hid (blk_b GQ.out BM.out)
                  have GR := Lib.hid (blk_b Gq2.out BM.out)
                  obtain ⟨i0, i1, i2, i3, i4, i5⟩ := item_cells GI.out
                  obtain ⟨r0, r1, r2, r3, r4, r5, r6, r7, r8, r9, r10⟩ := row_cells GR.out
                  clear i0 i1 i2 i3 i4 r0 r1 r2 r5 r8 r10
                  have BV : Hid (Below v2.heap.size v2 wr) := Lib.hid (BQ.out.trans (BM.out.mono BQ.out.size))
                  by_cases hmc : m < nC
                  · obtain ⟨e, he, hen, hev⟩ := HAT.out m hmc
                    have hpn : p < n5 := by have := HPM.out; omega
                    rw [← HPM.out] at he
                    obtain ⟨ad3, A9, c9, eE, x0, x1, x2, x3, x4, x5, x6, x7, l9, C9⟩ := at_Ent (Kd.C_below HC2.out BV.out) (p : Int) (by omega) (by omega)
                    rw [ent_at' es p e he] at x0 x1 x2 x3 x4 x5 x6 x7 l9 C9
                    rw [hen] at x0
                    have HEV := Lib.hid hev
                    clear he hen hev l9 C9
                    subst eE
                    simp only [Int.toNat_natCast] at x0 x1 x2 x3 x4 x5 x6 x7
                    obtain ⟨n9, hn9⟩ : ∃ n9, e.params.length = n9 := ⟨_, rfl⟩
                    rw [hn9] at x7
                    clear hn9
                    have hki : (p : Int) < (n5 : Int) := by omega
                    have hkd : decide ((p : Int) < (n5 : Int)) = true := decide_eq_true hki
                    go_upto_region 20 with fail
                    go_quiet (fail)
                    obtain ⟨wd, hwd⟩ : ∃ wd, wd = wr.drewN nq := ⟨_, rfl⟩
                    rw [← hwd]
                    have BD : Hid (Below wr.heap.size wr wd) := Lib.hid (by rw [hwd]; exact pw_below_drewN (Below.refl _ _) _)
                    clear hwd i5 r3 r4 r6 r7 r9 hkd
                    replace x0 := (BD.out.cell (World.block_lt_of_cell? wr _ x0)).trans x0
                    replace x1 := (BD.out.cell (World.block_lt_of_cell? wr _ x1)).trans x1
                    replace x2 := (BD.out.cell (World.block_lt_of_cell? wr _ x2)).trans x2
                    replace x3 := (BD.out.cell (World.block_lt_of_cell? wr _ x3)).trans x3
                    replace x4 := (BD.out.cell (World.block_lt_of_cell? wr _ x4)).trans x4
                    replace x5 := (BD.out.cell (World.block_lt_of_cell? wr _ x5)).trans x5
                    replace x6 := (BD.out.cell (World.block_lt_of_cell? wr _ x6)).trans x6
                    replace x7 := (BD.out.cell (World.block_lt_of_cell? wr _ x7)).trans x7
                    have GID := Lib.hid (blk_b GI.out BD.out)
                    obtain ⟨i0, i1, i2, i3, i4, i5⟩ := item_cells GID.out
                    clear i0 i1 i2 i3 i4
                    have tkE : True := trivial
                    go_upto_region 22 with (first
                      | (have _t := tkE; refine run_event rfl (.alloc 80) rfl (.pointer (some ⟨wd.heap.size, 0, none⟩)) (wd.alloc (.cells ent0 80)) (by kernel_rfl) ?_; intro h1 hh1; have Bh1 : Hid (Below wd.heap.size wd h1) := Lib.hid (by rw [hh1]; exact alloc_below _ _); have Eh1 : Hid (h1.heap[wd.heap.size]? = some (.cells ent0 80 (0, 0))) := Lib.hid (by rw [hh1]; exact heap_alloc_new _ _); clear hh1 tkE _t)
                      | ((with_reducible refine gate_store (t := 80) (p := 12) rfl ?_); refine put_event rfl 80 _ _ rfl wd.heap.size #[.string r.name, .int .i64 e.spot.f0, .int .i64 e.spot.f1, .int .i64 e.spot.f2, .int .u32 e.num, .bool e.auto, .string e.word, .slice A9 n9 c9] rfl rfl 80 ent0 Eh1.out (by kernel_rfl) rfl (by simp [Value.oneCell']) wd.heap.size (Nat.le_refl _) ?_; intro h2 hbh2 hBh2 hsh2 hoh2; have Gh2 : Hid (h2.heap[wd.heap.size]? = some (.cells #[.string r.name, .int .i64 e.spot.f0, .int .i64 e.spot.f1, .int .i64 e.spot.f2, .int .u32 e.num, .bool e.auto, .string e.word, .slice A9 n9 c9] 80 (0, 0))) := Lib.hid hbh2; have Dh2 : Hid (Below wd.heap.size wd h2) := Lib.hid (Bh1.out.trans hBh2); clear hbh2 hBh2 hsh2 hoh2; clear x0 x1 x2 x3 x4 x5 x6 x7 i5 Bh1 Eh1))
                    have GRD := Lib.hid (blk_b (blk_b GR.out BD.out) Dh2.out)
                    obtain ⟨r0, r1, r2, r3, r4, r5, r6, r7, r8, r9, r10⟩ := row_cells GRD.out
                    obtain ⟨o0, o1, o2, o3, o4, o5, o6, o7⟩ := ent_cells Gh2.out
                    clear r0 r1 r2 r3 r5 r8 r9 r10 o0 o1 o2 o3 o6 o7
                    have BH : Hid (Below q2.heap.size q2 h2) := Lib.hid (BM.out.trans ((BD.out.trans (Dh2.out.mono BD.out.size)).mono BM.out.size))
                    have HPN : Hid (p + 1 = k + (m + 1)) := Lib.hid (by have := HPM.out; omega)
                    by_cases hw : r.want = 1
                    · have hw1 : (r.want == 1) = true := by simp [hw]
                      have hev := HEV.out hw
                      cases hau : e.auto with
                      | true =>
                        rw [hau] at o5
                        clear hw hev hau o4 r6 r7
                        go_wp2_with fail
                        exact ⟨⟨m + 1, p + 1, by go_num, by go_num, by omega, by omega, HPN, BH⟩, by simp [intOf]; omega⟩
                      | false =>
                        rw [hau] at o5
                        obtain ⟨hv1, hv2⟩ := hev hau
                        have hv3 : ¬ e.num < r.lo := by omega
                        have hv4 : ¬ e.num > r.hi := by omega
                        have hv5 : decide (e.num < r.lo) = false := decide_eq_false hv3
                        have hv6 : decide (r.hi < e.num) = false := decide_eq_false hv4
                        clear hw hev hau
                        go_wp2_with fail
                        exact ⟨⟨m + 1, p + 1, by go_num, by go_num, by omega, by omega, HPN, BH⟩, by simp [intOf]; omega⟩
                    · have hw1 : (r.want == 1) = false := by simp [hw]
                      clear hw o4 o5 r6 r7
                      go_wp2_with fail
                      exact ⟨⟨m + 1, p + 1, by go_num, by go_num, by omega, by omega, HPN, BH⟩, by simp [intOf]; omega⟩
                  · obtain rfl : m = nC := by omega
                    by_cases hpn : p < n5
                    · obtain ⟨e, he, hen⟩ := HAE.out (by have := HPM.out; omega)
                      rw [← HPM.out] at he
                      have hki : (p : Int) < (n5 : Int) := by omega
                      have hkd : decide ((p : Int) < (n5 : Int)) = true := decide_eq_true hki
                      obtain ⟨ad3, A9, c9, eE, x0, x1, x2, x3, x4, x5, x6, x7, l9, C9⟩ := at_Ent (Kd.C_below HC2.out BV.out) (p : Int) (by omega) (by omega)
                      rw [ent_at' es p e he] at x0
                      clear x1 x2 x3 x4 x5 x6 x7 l9 C9 he
                      have hen1 : (e.name.toList == r.name.toList) = false := by rw [beq_str]; simp [hen]
                      clear hen
                      subst eE
                      simp only [Int.toNat_natCast] at x0
                      go_upto_region 20 with fail
                      go_quiet (fail)
                      obtain ⟨wd, hwd⟩ : ∃ wd, wd = wr.drewN nq := ⟨_, rfl⟩
                      rw [← hwd]
                      have BD : Hid (Below wr.heap.size wr wd) := Lib.hid (by rw [hwd]; exact pw_below_drewN (Below.refl _ _) _)
                      clear x0 hkd hki hen1
                      clear hwd i5 r3 r4 r6 r7 r9
                      obtain ⟨r0, r1, r2, r3, r4, r5, r6, r7, r8, r9, r10⟩ := row_cells (blk_b GR.out BD.out)
                      clear r0 r1 r2 r3 r4 r5 r6 r7 r8 r10
                      have BE : Hid (Below v2.heap.size v2 wd) := Lib.hid (BV.out.trans (BD.out.mono BV.out.size))
                      have HKP : Hid (es.drop p = l2) := Lib.hid (by rw [HPM.out]; exact HK2.out)
                      by_cases hm1 : m = 1
                      · have hm2 : ((m : Int) == 1) = true := by simp [hm1]
                        have hm3 : ((m : Int) != 1) = false := by simp [hm1]
                        clear hm1 r9
                        go_wp2_with fail
                        exact ⟨⟨j + 1, p, l2, by go_num, by go_num, by omega, by omega, HJ2, HKP, BE⟩, by simp [intOf]; omega⟩
                      · have hm4 : ¬ (m : Int) = 1 := by omega
                        have hm2 : ((m : Int) == 1) = false := by simp [hm4]
                        have hm3 : ((m : Int) != 1) = true := by simp [hm4]
                        have ht3 : r.times = 3 := HT3.out.resolve_left (fun h => hm1 (HC1.out h))
                        rw [ht3] at r9
                        clear hm1 hm4 ht3
                        go_wp2_with fail
                        exact ⟨⟨j + 1, p, l2, by go_num, by go_num, by omega, by omega, HJ2, HKP, BE⟩, by simp [intOf]; omega⟩
                    · have hki : ¬ (p : Int) < (n5 : Int) := by omega
                      have hkd : decide ((p : Int) < (n5 : Int)) = false := decide_eq_false hki
                      go_upto_region 20 with fail
                      go_quiet (fail)
                      obtain ⟨wd, hwd⟩ : ∃ wd, wd = wr.drewN nq := ⟨_, rfl⟩
                      rw [← hwd]
                      have BD : Hid (Below wr.heap.size wr wd) := Lib.hid (by rw [hwd]; exact pw_below_drewN (Below.refl _ _) _)
                      clear hkd hki
                      clear hwd i5 r3 r4 r6 r7 r9
                      obtain ⟨r0, r1, r2, r3, r4, r5, r6, r7, r8, r9, r10⟩ := row_cells (blk_b GR.out BD.out)
                      clear r0 r1 r2 r3 r4 r5 r6 r7 r8 r10
                      have BE : Hid (Below v2.heap.size v2 wd) := Lib.hid (BV.out.trans (BD.out.mono BV.out.size))
                      have HKP : Hid (es.drop p = l2) := Lib.hid (by rw [HPM.out]; exact HK2.out)
                      by_cases hm1 : m = 1
                      · have hm2 : ((m : Int) == 1) = true := by simp [hm1]
                        have hm3 : ((m : Int) != 1) = false := by simp [hm1]
                        clear hm1 r9
                        go_wp2_with fail
                        exact ⟨⟨j + 1, p, l2, by go_num, by go_num, by omega, by omega, HJ2, HKP, BE⟩, by simp [intOf]; omega⟩
                      · have hm4 : ¬ (m : Int) = 1 := by omega
                        have hm2 : ((m : Int) == 1) = false := by simp [hm4]
                        have hm3 : ((m : Int) != 1) = true := by simp [hm4]
                        have ht3 : r.times = 3 := HT3.out.resolve_left (fun h => hm1 (HC1.out h))
                        rw [ht3] at r9
                        clear hm1 hm4 ht3
                        go_wp2_with fail
                        exact ⟨⟨j + 1, p, l2, by go_num, by go_num, by omega, by omega, HJ2, HKP, BE⟩, by simp [intOf]; omega⟩
              · have hun1 := (str_some hun).1
                have hun2 := (str_some hun).2
                have HNX := Lib.hid (hold_skip HJ.out HX.out (fun h => hun h.2))
                clear hun hob r2 r3 r4 r5 r6 r7 r8 r9 r10 i5
                go_wp2_with fail
                exact ⟨⟨j + 1, k, l, by go_num, by go_num, by omega, by omega, HNX, HK, BQ⟩, by simp [intOf]; omega⟩
            · have hob1 : (r.obj.toList == kd.toList) = false := by rw [beq_str]; simp [hob]
              have HNX := Lib.hid (hold_skip HJ.out HX.out (fun h => hob h.1))
              clear hob r1 r2 r3 r4 r5 r6 r7 r8 r9 r10 i5
              go_wp2_with fail
              exact ⟨⟨j + 1, k, l, by go_num, by go_num, by omega, by omega, HNX, HK, BQ⟩, by simp [intOf]; omega⟩
          · obtain rfl : j = 49 := by omega
            have hkn : k = n5 := by
              have h1 := hold_end HJ.out
              rw [← HK.out] at h1
              have h2 := congrArg List.length h1
              rw [List.length_drop, HN5.out] at h2
              simp at h2
              omega
            subst hkn
            go_wp2_with fail
            exact ⟨⟨i + 1, by go_num, by omega, B6J⟩, by simp [intOf]; omega⟩
      · obtain rfl : N = i := by omega
        have BWR : Hid (Below w.heap.size w wr) := Lib.hid (BW6.out.trans (BR.out.mono BW6.out.size))
        have hsc := ((BWR.out.cell (World.block_lt_of_cell? w _ HT.out)).trans HT.out)
        have HWP : Hid (Calls Tryz.prog 32 #[.agg #[.string t.f1, .slice Ai N ci]] wr (WritePost ⟨t.f1, its⟩ wr)) := Lib.hid (by
          have h := write_calls eb (⟨t.f1, its⟩ : SS) Ai ci wr HSZ.out (by show its.length ≤ _; rw [HNI.out]; omega) (by show Kd.C kItem wr Ai its.length its; rw [HNI.out]; exact Kd.C_below I6.out BR.out) (HG.out.below BWR.out) (HGL.out.below BWR.out) hsc
          unfold shC at h
          dsimp only at h
          rw [HNI.out] at h
          exact h)
        clear hsc
        have IR : Hid (Kd.C kItem wr Ai N its) := Lib.hid (Kd.C_below I6.out BR.out)
        have tkF : True := trivial
        cases hwr : writeS ⟨t.f1, its⟩ with
        | none =>
          have HW0 := Lib.hid (write_none hwr HWP.out)
          clear HWP hwr
          go_wp2_with (first
            | (go_at_call 32; refine HW0.out.mono ?_; rintro e x1 ⟨hB1, rfl⟩; have Cx1 := Lib.hid hB1; clear hB1 s0 s1)
            | (have _t := tkF; refine run_event rfl (.alloc 24) rfl (.pointer (some ⟨x1.heap.size, 0, none⟩)) (x1.alloc (.cells tr0 24)) (by kernel_rfl) ?_; intro x2 hx2; have Bx2 : Hid (Below x1.heap.size x1 x2) := Lib.hid (by rw [hx2]; exact alloc_below _ _); have Ex2 : Hid (x2.heap[x1.heap.size]? = some (.cells tr0 24 (0, 0))) := Lib.hid (by rw [hx2]; exact heap_alloc_new _ _); clear hx2 tkF _t)
            | ((with_reducible refine gate_store (t := 24) (p := 13) rfl ?_); refine put_event rfl 24 _ _ rfl x1.heap.size tr0 rfl rfl 24 tr0 Ex2.out (by kernel_rfl) rfl (by simp [Value.oneCell']) x1.heap.size (Nat.le_refl _) ?_; intro x3 hbx3 hBx3 hsx3 hox3; have Gx3 : Hid (x3.heap[x1.heap.size]? = some (.cells tr0 24 (0, 0))) := Lib.hid hbx3; have Dx3 : Hid (Below x1.heap.size x1 x3) := Lib.hid (Bx2.out.trans hBx3); clear hbx3 hBx3 hsx3 hox3; clear Bx2 Ex2)
            | (go_at_call 28; refine (HHD.out x3 (BWR.out.trans ((Cx1.out.trans (Dx3.out.mono Cx1.out.size)).mono BWR.out.size))).mono ?_; rintro e x4 ⟨rfl, hB⟩; have BX := Lib.hid hB; clear hB))
          go_ret
          exact ⟨rfl, BX.out⟩
        | some u =>
          have HW0 := Lib.hid (write_some hwr HWP.out)
          obtain ⟨rfl, b, hb, hsb⟩ := write_back hwr
          have hbz := back_sz hsb HSZ.out
          obtain ⟨bcp, bits⟩ := b
          obtain ⟨hb1, hb2, hb3⟩ := hbz
          dsimp only at hb1 hb2 hb3 HW0
          subst hb1
          have HLN : Hid ((layT ⟨t.f1, its⟩).f2.length = N) := Lib.hid (by rw [lay_len]; exact HNI.out)
          rw [HLN.out] at HW0
          rw [HNI.out] at hb2
          have HNB := Lib.hid hb2
          have HBZ := Lib.hid hb3
          have HSB := Lib.hid hsb
          have HB := Lib.hid hb
          clear HWP hwr hb2 hb3 hsb hb
          go_upto_region 33 with (first
            | (go_at_call 32; refine HW0.out.mono ?_; rintro e x1 ⟨hB1, Ao, co, rfl, hR1⟩; have Cx1 := Lib.hid hB1; have Rx1 := Lib.hid hR1; clear hB1 hR1)
            | (have _t := tkF; refine run_event rfl (.alloc 24) rfl (.pointer (some ⟨x1.heap.size, 0, none⟩)) (x1.alloc (.cells tr0 24)) (by kernel_rfl) ?_; intro x2 hx2; have Bx2 : Hid (Below x1.heap.size x1 x2) := Lib.hid (by rw [hx2]; exact alloc_below _ _); have Ex2 : Hid (x2.heap[x1.heap.size]? = some (.cells tr0 24 (0, 0))) := Lib.hid (by rw [hx2]; exact heap_alloc_new _ _); clear hx2 tkF _t)
            | ((with_reducible refine gate_store (t := 24) (p := 13) rfl ?_); refine put_event rfl 24 _ _ rfl x1.heap.size (trV t.f1 (.slice Ao N co)) rfl rfl 24 tr0 Ex2.out (by kernel_rfl) rfl (by simp [Value.oneCell']) x1.heap.size (Nat.le_refl _) ?_; intro x3 hbx3 hBx3 hsx3 hox3; have Gx3 : Hid (x3.heap[x1.heap.size]? = some (.cells (trV t.f1 (.slice Ao N co)) 24 (0, 0))) := Lib.hid hbx3; have Dx3 : Hid (Below x1.heap.size x1 x3) := Lib.hid (Bx2.out.trans hBx3); clear hbx3 hBx3 hsx3 hox3; clear Bx2 Ex2))
          have BX3 : Hid (Below w.heap.size w x3) := Lib.hid (BWR.out.trans ((Cx1.out.trans (Dx3.out.mono Cx1.out.size)).mono BWR.out.size))
          have HRW : Hid (Calls Tryz.prog 29 #[.agg (trV t.f1 (.slice Ao N co))] x3 fun e w' => Below x3.heap.size x3 w' ∧ ∃ (Ab : Option Addr) (cb : Nat), e = .returned (.tuple #[.agg #[.string t.f1, .slice Ab N cb], .agg fa0]) ∧ Kd.R kItem 78 w' x3.heap.size (fun _ => True) (.slice Ab N cb) bits) := Lib.hid (by
            have hC := (Kd.R_reads' (Kd.R_below Rx1.out Dx3.out)).2.2
            have h := read_ok (eb := eb) HB.out (read_calls eb (layT ⟨t.f1, its⟩) Ao co x3 (lay_sz HSZ.out) (by rw [HLN.out]; omega) hC (HG.out.below BX3.out) ((BX3.out.cell (World.block_lt_of_cell? w _ HT.out)).trans HT.out))
            unfold treC at h
            rw [HLN.out] at h
            dsimp only at h
            rw [HNB.out] at h
            exact h)
          have SR3 := Lib.hid (blk_b SR.out (Cx1.out.trans (Dx3.out.mono Cx1.out.size)))
          have IR3 : Hid (Kd.C kItem x3 Ai N its) := Lib.hid (Kd.C_below IR.out (Cx1.out.trans (Dx3.out.mono Cx1.out.size)))
          obtain ⟨c0, c1, c2, c3, c4⟩ := tre_cells Gx3.out
          clear s0 s1
          have tkG : True := trivial
          have tkH : True := trivial
          go_upto_region 34 with (first
            | (go_at_call 29; refine HRW.out.mono ?_; rintro e z1 ⟨hB1, Ab, cb, rfl, hR1⟩; have Cz1 := Lib.hid hB1; have Rz1 := Lib.hid hR1; clear hB1 hR1 c0 c1 c2 c3 c4)
            | (have _t := tkG; refine run_event rfl (.alloc 64) rfl (.pointer (some ⟨z1.heap.size, 0, none⟩)) (z1.alloc (.cells sh0 64)) (by kernel_rfl) ?_; intro z2 hz2; have Bz2 : Hid (Below z1.heap.size z1 z2) := Lib.hid (by rw [hz2]; exact alloc_below _ _); have Ez2 : Hid (z2.heap[z1.heap.size]? = some (.cells sh0 64 (0, 0))) := Lib.hid (by rw [hz2]; exact heap_alloc_new _ _); clear hz2 tkG _t)
            | (have _t := tkH; refine run_event rfl (.alloc 66) rfl (.pointer (some ⟨z2.heap.size, 0, none⟩)) (z2.alloc (.cells fa0 66)) (by kernel_rfl) ?_; intro z3 hz3; have Bz3 : Hid (Below z2.heap.size z2 z3) := Lib.hid (by rw [hz3]; exact alloc_below _ _); have Ez3 : Hid (z3.heap[z2.heap.size]? = some (.cells fa0 66 (0, 0))) := Lib.hid (by rw [hz3]; exact heap_alloc_new _ _); have E23z := Lib.hid (blk_b Ez2.out Bz3.out); clear hz3 tkH _t)
            | ((with_reducible refine gate_store (t := 64) (p := 15) rfl ?_); refine put_event rfl 64 _ _ rfl z1.heap.size #[.string t.f1, .slice Ab N cb] rfl rfl 64 sh0 E23z.out (by kernel_rfl) rfl (by simp [Value.oneCell']) z1.heap.size (Nat.le_refl _) ?_; intro z4 hb4 hB4 hs4 ho4; have E4z := Lib.hid hb4; have B4z := Lib.hid hB4; have E34z := Lib.hid ((ho4 z2.heap.size (blk_ne Ez3.out E23z.out (by decide))).trans Ez3.out); clear hb4 hB4 hs4 ho4)
            | ((with_reducible refine gate_store (t := 66) (p := 16) rfl ?_); refine put_event rfl 66 _ _ rfl z2.heap.size fa0 rfl rfl 66 fa0 E34z.out (by kernel_rfl) rfl (by simp [Value.oneCell']) z2.heap.size (Nat.le_refl _) ?_; intro z5 hb5 hB5 hs5 ho5; have F5z : Hid (z5.heap[z2.heap.size]? = some (.cells fa0 66 (0, 0))) := Lib.hid hb5; have S5z : Hid (z5.heap[z1.heap.size]? = some (.cells #[.string t.f1, .slice Ab N cb] 64 (0, 0))) := Lib.hid ((ho5 z1.heap.size (blk_ne E4z.out E34z.out (by decide))).trans E4z.out); have BUz : Hid (Below z1.heap.size z1 z5) := Lib.hid (((Bz2.out.trans (Bz3.out.mono Bz2.out.size)).trans B4z.out).trans (hB5.mono Bz2.out.size)); clear hb5 hB5 hs5 ho5 Bz2 Ez2 Bz3 Ez3 E23z E4z B4z E34z))
          have BZ : Hid (Below x3.heap.size x3 z5) := Lib.hid (Cz1.out.trans (BUz.out.mono Cz1.out.size))
          have BZW : Hid (Below w.heap.size w z5) := Lib.hid (BX3.out.trans (BZ.out.mono BX3.out.size))
          have IB : Hid (Kd.C kItem z5 Ab N bits) := Lib.hid (by
            have h := (Kd.R_reads' (Kd.R_below Rz1.out BUz.out)).2.2
            rw [HNB.out] at h
            exact h)
          have HSM : Hid (Calls Tryz.prog 31 #[.agg #[.string t.f1, .slice Ab N cb], .agg #[.string t.f1, .slice Ai N ci], .bool false] z5 fun e w' => e = .returned (.bool true) ∧ Below z5.heap.size z5 w') := Lib.hid (by
            have h := rsameS_calls false (⟨t.f1, bits⟩ : SS) (⟨t.f1, its⟩ : SS) Ab Ai cb ci z5 (by show Kd.C kItem z5 Ab bits.length bits; rw [HNB.out]; exact IB.out) (by show Kd.C kItem z5 Ai its.length its; rw [HNI.out]; exact Kd.C_below IR3.out BZ.out) HSB.out (by show bits.length ≤ _; rw [HNB.out]; omega) HBZ.out
            dsimp only at h
            rw [HNB.out, HNI.out] at h
            exact h)
          obtain ⟨p0, p1⟩ := she_cells S5z.out
          obtain ⟨s0, s1⟩ := she_cells (blk_b SR3.out BZ.out)
          have l0 : z5.cell? ⟨z2.heap.size, 0, none⟩ = some (.int .i64 0) := (cell_row F5z.out 0).trans rfl
          go_wp2_with (first
            | (go_at_call 31; refine HSM.out.mono ?_; rintro e q1 ⟨rfl, hB⟩; have BQ1 := Lib.hid hB; have BQW : Hid (Below w.heap.size w q1) := Lib.hid (BZW.out.trans (hB.mono BZW.out.size)); clear p0 p1 s0 s1; replace l0 := (hB.cell (World.block_lt_of_cell? z5 _ l0)).trans l0; clear hB)
            | (go_at_call 28; refine (HHD.out q1 BQW.out).mono ?_; rintro e q2 ⟨rfl, hB⟩; have BX := Lib.hid hB; clear hB l0))
          go_ret
          exact ⟨rfl, BX.out⟩
end Go.Proofs.YtmfejjlmflgnbaaGreatDoor.Sc

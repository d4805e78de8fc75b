/- A part of the set. -/
import Derived.Test.YtmfejjlmflgnbaaGreatDoorZRp1
namespace Go.Proofs.YtmfejjlmflgnbaaGreatDoor.Tok
open Go.RowKit Go.Proofs.YtmfejjlmflgnbaaGreatDoor.PA Go.Proofs.YtmfejjlmflgnbaaGreatDoorW.PrintWords Go.Proofs.YtmfejjlmflgnbaaGreatDoorW.PrintLast Go.Proofs.YtmfejjlmflgnbaaGreatDoor.Sp Go.Proofs.YtmfejjlmflgnbaaGreatDoor.Tr
set_option linter.unusedVariables false
set_option linter.unusedSimpArgs false
set_option maxRecDepth 100000

def bracesT (d : Nat) (l : List SA) : Bs := if l.isEmpty then [32, 123, 32, 125] else [32, 123, 10] ++ attrsT (d + 1) l ++ blanksT d ++ [125]
theorem attrT_braces (d : Nat) (a : SA) : attrT d a = blanksT d ++ bs a.f0 ++ [32, 61, 32] ++ valT a.f2 ++ (if a.f3 then bracesT d a.f4 else []) ++ (endB a.f5 a.f6 ++ [10]) := by
  rw [attrT_eq]
  unfold bracesT
  simp only [List.append_assoc]
theorem str_of (l : Bs) : ∃ q : ByteArray, q.data.toList = l ∧ q.size = l.length := ⟨⟨l.toArray⟩, by simp, by show l.toArray.size = _; simp⟩
theorem size_of {q : ByteArray} {l : Bs} (h : q.data.toList = l) : q.size = l.length := by
  have := bs_len q
  unfold bs at this
  rw [h] at this
  exact this.symm
theorem str_ext {x q : ByteArray} {l : Bs} (h : x.data.toList = l) (h2 : q.data.toList = l) : x = q := by
  apply ByteArray.ext
  apply Array.toList_inj.1
  rw [h, h2]
theorem app_list (x y : ByteArray) {a b : Bs} (hx : x.data.toList = a) (hy : y.data.toList = b) : (x ++ y).data.toList = a ++ b := by
  rw [← hx, ← hy]
  simp
theorem at_S5 {w' : World} {g : Nat} {a : SA} {n : Int} {A9 : Option Addr} {c9 : Nat} (h2 : w'.heap[g]? = some (.cells (attrC a n A9 c9) 50 (0, 0))) :
    w'.cell? ⟨g, 0, none⟩ = some (.string a.f0) ∧ w'.cell? ⟨g, 4, none⟩ = some (.int .i64 a.f2.f0) ∧ w'.cell? ⟨g, 5, none⟩ = some (.string a.f2.f1) ∧ w'.cell? ⟨g, 6, none⟩ = some (.int .u32 n) ∧ w'.cell? ⟨g, 7, none⟩ = some (.bool a.f2.f3) :=
  ⟨(cell_row h2 0).trans rfl, (cell_row h2 4).trans rfl, (cell_row h2 5).trans rfl, (cell_row h2 6).trans rfl, (cell_row h2 7).trans rfl⟩
theorem blk_be {w w' : World} {k : Nat} {o : Obj} (h : w.heap[k]? = some o) (hB : Below w.heap.size w w') : w'.heap[k]? = some o := (hB.block _ (Array.getElem?_eq_some_iff.1 h).1).trans h
theorem brace_lens {d : Nat} {l : List SA} (h : ([32, 123, 10] ++ attrsT (d + 1) l ++ blanksT d ++ [125]).length ≤ 140737488355328) : (∀ j a, l[j]? = some a → ([32, 123, 10] ++ attrsT (d + 1) (l.take j) ++ attrT (d + 1) a).length ≤ 140737488355328) := fun j a hj => by
  have h1 : attrsT (d + 1) l = attrsT (d + 1) (l.take (j + 1)) ++ attrsT (d + 1) (l.drop (j + 1)) := by rw [← attrsT_app, List.take_append_drop]
  rw [h1, attrsT_take l j a hj] at h
  simp only [List.length_append] at h ⊢
  omega
set_option maxHeartbeats 16000000 in
theorem rbraces_calls (m : Nat) : ∀ (l : List SA) (d : Nat) (A : Option Addr) (c : Nat) (w : World), cntL l ≤ m → Kd.C k50 w A l.length l → l.length ≤ c → wfL l → (∀ (j : Nat) (a : SA), l[j]? = some a → FitsA a) → d + cntL l ≤ 2000000 → (bracesT d l).length ≤ 140737488355328 → ∀ q : ByteArray, q.data.toList = bracesT d l →
    Calls Tryz.prog 52 #[.slice A l.length c, .int .i64 (d : Int)] w fun e w' => e = .returned (.string q) ∧ Below w.heap.size w w' := by
  induction m with
  | zero =>
    intro l d A c w hm hC hc hwf hfit hd hlen q hq
    obtain rfl : l = [] := by
      have := cnt_len l
      exact List.length_eq_zero_iff.1 (by omega)
    have HE : Hid (q = ⟨#[32, 123, 32, 125]⟩) := Lib.hid (str_ext hq rfl)
    clear hm hC hwf hfit hd hlen hq
    go_enter Tryz.func52, Tryz.ntmps52
    go_wp2_with fail
    go_ret
    exact ⟨by show Ending.returned (Value.string (⟨#[32, 123, 32, 125]⟩ : ByteArray)) = _; rw [HE.out], Below.refl _ _⟩
  | succ m ih =>
    intro l d A c w hm hC hc hwf hfit hd hlen q hq
    by_cases hne : l = []
    · subst hne
      have HE : Hid (q = ⟨#[32, 123, 32, 125]⟩) := Lib.hid (str_ext hq rfl)
      clear hm hC hwf hfit hd hlen hq ih
      go_enter Tryz.func52, Tryz.ntmps52
      go_wp2_with fail
      go_ret
      exact ⟨by show Ending.returned (Value.string (⟨#[32, 123, 32, 125]⟩ : ByteArray)) = _; rw [HE.out], Below.refl _ _⟩
    · have hem : l.isEmpty = false := by cases l <;> simp_all
      unfold bracesT at hlen hq
      rw [hem] at hlen hq
      simp only [Bool.false_eq_true, if_false] at hlen hq
      have HLJ := Lib.hid (brace_lens hlen)
      have HLEN := Lib.hid hlen
      have HQ := Lib.hid hq
      have HM := Lib.hid hm
      have HC := Lib.hid hC
      have HWF := Lib.hid hwf
      have HFIT := Lib.hid hfit
      have HD := Lib.hid hd
      have hl0 := cnt_len l
      have HL := Lib.hid (show l.length ≤ 2000000 by omega)
      have hd3 : d ≤ 2000000 := by omega
      have hpl : ¬ (l.length : Int) = 0 := fun e => hne (List.length_eq_zero_iff.1 (by omega))
      have hpl2 : ((l.length : Int) == 0) = false := by rw [beq_eq_false_iff_ne]; exact hpl
      have hpl3 : ¬ l.length = 0 := by omega
      have hdw : IntKind.i64.wrap ((d : Int) + 1) = (d : Int) + 1 := by unfold IntKind.wrap; simp [IntKind.bits]; omega
      have hx3 : (⟨#[32, 61, 32]⟩ : ByteArray).size = 3 := rfl
      have hx1 : (⟨#[125]⟩ : ByteArray).size = 1 := rfl
      obtain ⟨zb0, hzb0, hzs0⟩ := str_of (blanksT d)
      rw [blanks_len] at hzs0
      have HZ0 := Lib.hid hzb0
      have HB0 := Lib.hid (fun W => rblanks_calls d W (by omega) zb0 hzb0)
      obtain ⟨zb1, hzb1, hzs1⟩ := str_of (blanksT (d + 1))
      rw [blanks_len] at hzs1
      have HZ1 := Lib.hid hzb1
      have HZS1 := Lib.hid hzs1
      have HZS0 := Lib.hid hzs0
      have HB1 : Hid (∀ W, Calls Tryz.prog 99 #[.int .i64 ((d : Int) + 1)] W fun e w' => e = .returned (.string zb1) ∧ Below W.heap.size W w') := Lib.hid (fun W => rblanks_calls (d + 1) W (by omega) zb1 hzb1)
      clear hm hC hwf hfit hd hlen hq hne hem hl0 hzb0 hzb1 hzs0 hzs1
      go_enter Tryz.func52, Tryz.ntmps52
      go_wp2_with fail
      go_loopw [5, 6] (fun sv v wr => ∃ (j : Nat) (x : ByteArray), sv = .string x ∧ v = .int .i64 (j : Int) ∧ j ≤ l.length ∧ Hid (x.data.toList = [32, 123, 10] ++ attrsT (d + 1) (l.take j)) ∧ Hid (Below w.heap.size w wr)) (fun _ v _ => l.length - (intOf v).toNat)
      case atStart => exact ⟨0, _, rfl, by go_num, by omega, Lib.hid (by rw [List.take_zero, attrsT_nil, List.append_nil]), Lib.hid (Below.refl _ _)⟩
      case round =>
        obtain ⟨j, x, rfl, rfl, hj, X, BL⟩ := hrel
        have hl9 := HL.out
        by_cases hlt : j < l.length
        · have hx : l[j]? = some l[j] := List.getElem?_eq_getElem hlt
          obtain ⟨ad, A9, c9, eA, x0, x1, x2, x3, x4, x5, x6, x7, x8, x9, x10, x11, l9, C9⟩ := at_T50 HC.out (j : Int) (by omega) (by omega)
          rw [rd_at l j _ hx] at x0 x1 x2 x3 x4 x5 x6 x7 x8 x9 x10 x11 l9 C9
          have hcn := cnt_get l j _ hx
          rw [cnt_eq] at hcn
          have hwa := wf_get l j _ HWF.out hx
          have hfa := HFIT.out j _ hx
          have hlj := HLJ.out j _ hx
          have hnx := attrsT_take (d := d + 1) l j _ hx
          generalize l[j] = a at hx x0 x1 x2 x3 x4 x5 x6 x7 x8 x9 x10 x11 l9 C9 hcn hwa hfa hlj hnx
          cases eA
          obtain ⟨⟨⟨hn1, hn2⟩, hs1, hs2⟩, hwp⟩ := (wf_eq _).1 hwa
          obtain ⟨n, hn⟩ : ∃ n : Nat, a.f2.f2 = (n : Int) := ⟨a.f2.f2.toNat, by omega⟩
          obtain ⟨hfn, hfv, hfo, hfb, hfp⟩ := fits_parts hfa
          obtain ⟨zv, _, hzv, hzvs⟩ := val_text a.f2 n hn hfv hs1
          obtain ⟨ze, hze, hzes⟩ := str_of (endB a.f5 a.f6 ++ [10])
          have hel := end_len a.f5 a.f6
          simp only [List.length_append, List.length_cons, List.length_nil] at hzes
          rw [attrT_braces] at hlj hnx
          simp only [List.length_append, bs_len] at hlj
          have hxs := size_of X.out
          rw [List.length_append] at hxs
          simp only [List.length_cons, List.length_nil] at hxs hlj
          have hzvl := size_of hzv
          have HVC : Hid (∀ W, Calls Tryz.prog 100 #[.agg #[.int .i64 a.f2.f0, .string a.f2.f1, .int .u32 (n : Int), .bool a.f2.f3]] W fun e w' => e = .returned (.string zv) ∧ Below W.heap.size W w') :=
            Lib.hid (fun W => rvalue_calls a.f2.f0 a.f2.f1 n a.f2.f3 W (by omega) (by rw [← hn]; exact hfv) zv (by rw [← hn]; exact hzv))
          have HEC : Hid (∀ W, Calls Tryz.prog 53 #[.bool a.f5, .string a.f6] W fun e w' => e = .returned (.string ze) ∧ Below W.heap.size W w') :=
            Lib.hid (fun W => rend_calls a.f5 a.f6 W hfo ze hze)
          rw [hn] at x6
          simp only [Int.toNat_natCast] at x0 x1 x2 x3 x4 x5 x6 x7 x8 x9 x10 x11
          replace x0 := mvc BL.out x0
          replace x1 := mvc BL.out x1
          replace x2 := mvc BL.out x2
          replace x3 := mvc BL.out x3
          replace x4 := mvc BL.out x4
          replace x5 := mvc BL.out x5
          replace x6 := mvc BL.out x6
          replace x7 := mvc BL.out x7
          replace x8 := mvc BL.out x8
          replace x9 := mvc BL.out x9
          replace x10 := mvc BL.out x10
          replace x11 := mvc BL.out x11
          have HNE := Lib.hid hn
          have HZV := Lib.hid hzv
          have HZE := Lib.hid hze
          have HC9 := Lib.hid C9
          have HCN := Lib.hid hcn
          have HWP := Lib.hid hwp
          have HFB := Lib.hid hfb
          have HFP := Lib.hid hfp
          have HNX := Lib.hid hnx
          have HLJ2 := Lib.hid hlj
          have hq1 : x.size ≤ 140737488355328 := by omega
          have hq2 : zb1.size ≤ 140737488355328 := by have := HZS1.out; omega
          have hq3 : a.f0.size ≤ 140737488355328 := by omega
          have hq4 : zv.size ≤ 140737488355328 := by omega
          have hq5 : ze.size ≤ 140737488355328 := by omega
          have hbl := blanks_len (d + 1)
          have htot : x.size + zb1.size + a.f0.size + 3 + zv.size + ze.size ≤ 140737488355328 := by have := HZS1.out; omega
          have HTOT := Lib.hid htot
          have t1 : ¬ 9223372036854775807 < x.size + zb1.size := by omega
          have t2 : ¬ 9223372036854775807 < x.size + zb1.size + a.f0.size := by omega
          have t3 : ¬ 9223372036854775807 < x.size + zb1.size + a.f0.size + 3 := by omega
          have t4 : ¬ 9223372036854775807 < x.size + zb1.size + a.f0.size + 3 + zv.size := by omega
          clear hx hcn hwa hfa hlj hnx hn hn1 hn2 hs1 hs2 hwp hfn hfv hfo hfb hfp hzv hze C9 hxs hzvl hel hbl htot hzes hzvs
          have tk1 : True := trivial
          go_wp2_with (first
            | (have _t := tk1; refine run_event rfl (.alloc 50) rfl (.pointer (some ⟨wr.heap.size, 0, none⟩)) (wr.alloc (.cells attr0 50)) (by kernel_rfl) ?_; intro w1 hw1; have B1 : Hid (Below wr.heap.size wr w1) := Lib.hid (by rw [hw1]; exact alloc_below _ _); have G1 : Hid (w1.heap[wr.heap.size]? = some (.cells attr0 50 (0, 0))) := Lib.hid (by rw [hw1]; exact heap_alloc_new _ _); clear hw1 tk1 _t)
            | ((with_reducible refine gate_store (t := 50) (p := 7) rfl ?_); refine put_event rfl 50 _ _ rfl wr.heap.size (attrC a (n : Int) A9 c9) rfl rfl 50 attr0 G1.out (by kernel_rfl) rfl (attr_all _ _ _ _) wr.heap.size (Nat.le_refl _) ?_; intro w2 hb2 hB2 hs2 ho2; have G2 := Lib.hid hb2; have B2 : Hid (Below w.heap.size w w2) := Lib.hid (BL.out.trans ((B1.out.trans hB2).mono BL.out.size)); clear hb2 hB2 hs2 ho2 x0 x1 x2 x3 x4 x5 x6 x7 x8 x9 x10 x11))
          have D : Hid (Below w2.heap.size w2 w2) := Lib.hid (Below.refl _ _)
          go_region_held3 (fun W => W.cell? ⟨wr.heap.size, 0, none⟩ = some (.string a.f0) ∧ W.cell? ⟨wr.heap.size, 4, none⟩ = some (.int .i64 a.f2.f0) ∧ W.cell? ⟨wr.heap.size, 5, none⟩ = some (.string a.f2.f1) ∧ W.cell? ⟨wr.heap.size, 6, none⟩ = some (.int .u32 (n : Int)) ∧ W.cell? ⟨wr.heap.size, 7, none⟩ = some (.bool a.f2.f3)) (first | exact at_S5 (blk_be G2.out D.out) | exact at_S5 (blk_be G2.out D.out.drew) | assumption) (first
            | (go_at_call 99; refine (HB1.out _).mono ?_; rintro e wz ⟨rfl, hBz⟩; have D : Hid (Below w2.heap.size w2 wz) := Lib.hid (by first | exact dz D.out hBz | exact dzd D.out hBz); clear hBz)
            | (go_at_call 100; refine (HVC.out _).mono ?_; rintro e wz ⟨rfl, hBz⟩; have D : Hid (Below w2.heap.size w2 wz) := Lib.hid (by first | exact dz D.out hBz | exact dzd D.out hBz); clear hBz))
          all_goals
            obtain ⟨y, hy⟩ : ∃ y : ByteArray, y = x ++ zb1 ++ a.f0 ++ (⟨#[32, 61, 32]⟩ : ByteArray) ++ zv := ⟨_, rfl⟩
            have hys : y.size ≤ 140737488355328 := by rw [hy]; simp only [ByteArray.size_append]; have := HTOT.out; omega
            have HY : Hid (y.data.toList = [32, 123, 10] ++ attrsT (d + 1) (l.take j) ++ (blanksT (d + 1) ++ bs a.f0 ++ [32, 61, 32] ++ valT a.f2)) := Lib.hid (by
              rw [hy, app_list _ _ (app_list _ _ (app_list _ _ (app_list _ _ X.out HZ1.out) (show a.f0.data.toList = bs a.f0 from rfl)) (show (⟨#[32, 61, 32]⟩ : ByteArray).data.toList = [32, 61, 32] from rfl)) HZV.out]
              simp only [List.append_assoc])
            rw [← hy]
            have HYZ := Lib.hid hy
            clear hy t1 t2 t3 t4
            have t5 : ¬ 9223372036854775807 < y.size + ze.size := by omega
            have B3 := Lib.hid (B2.out.trans (D.out.mono B2.out.size))
            have G3 := Lib.hid (blk_be G2.out D.out)
            obtain ⟨y0, y1, y2, y3, y4, y5, y6, y7, y8, y9, y10, y11⟩ := attr_cells G3.out
            clear y0 y1 y2 y3 y4 y5 y6 y7
            obtain ⟨bf, hbf⟩ : ∃ bf, a.f3 = bf := ⟨_, rfl⟩
            have HBF := Lib.hid hbf
            rw [hbf] at y8
            clear hbf
            cases bf
            · go_wp2_with (first
                | (go_at_call 53; refine (HEC.out _).mono ?_; rintro e w5 ⟨rfl, hB5⟩; have B5 := Lib.hid (B3.out.trans (hB5.mono B3.out.size)); clear hB5 y8 y9 y10 y11))
              exact ⟨⟨j + 1, _, rfl, by go_num, by omega, Lib.hid (by rw [app_list _ _ HY.out HZE.out, HNX.out, HBF.out]; simp), B5⟩, by simp [intOf]; omega⟩
            · obtain ⟨zr, hzr, hzrs⟩ := str_of (bracesT (d + 1) a.f4)
              have hlr : (bracesT (d + 1) a.f4).length ≤ 140737488355328 := by have := HLJ2.out; rw [HBF.out] at this; simp only [if_true] at this; omega
              have hzq : zr.size ≤ 140737488355328 := by omega
              have HRC : Hid (∀ W, Below w.heap.size w W → Calls Tryz.prog 52 #[.slice A9 a.f4.length c9, .int .i64 ((d : Int) + 1)] W fun e w' => e = .returned (.string zr) ∧ Below W.heap.size W w') :=
                Lib.hid (fun W hB => ih a.f4 (d + 1) A9 c9 W (by have := HCN.out; have := HM.out; omega) (Kd.C_below HC9.out hB) l9 HWP.out HFP.out (by have := HCN.out; have := HD.out; omega) hlr zr hzr)
              have HZR := Lib.hid hzr
              have t6 : ¬ 9223372036854775807 < y.size + zr.size := by omega
              have t7 : ¬ 9223372036854775807 < y.size + zr.size + ze.size := by omega
              clear hzr hzrs hlr
              go_wp2_with (first
                | (go_at_call 52; refine (HRC.out _ B3.out).mono ?_; rintro e w4 ⟨rfl, hB4⟩; have B4 := Lib.hid (B3.out.trans (hB4.mono B3.out.size)); have G4 := Lib.hid (blk_be G3.out hB4); clear y8 y9 y10 y11; obtain ⟨_, _, _, _, _, _, _, _, _, _, y10, y11⟩ := attr_cells G4.out; clear hB4)
                | (go_at_call 53; refine (HEC.out _).mono ?_; rintro e w5 ⟨rfl, hB5⟩; have B5 := Lib.hid (B4.out.trans (hB5.mono B4.out.size)); clear hB5 y10 y11))
              exact ⟨⟨j + 1, _, rfl, by go_num, by omega, Lib.hid (by rw [app_list _ _ (app_list _ _ HY.out HZR.out) HZE.out, HNX.out, HBF.out]; simp), B5⟩, by simp [intOf]; omega⟩
        · obtain rfl : j = l.length := by omega
          have hX := X.out
          rw [List.take_of_length_le (Nat.le_refl _)] at hX
          have hxs := size_of hX
          have hll := HLEN.out
          simp only [List.length_append] at hll hxs
          have t1 : ¬ 9223372036854775807 < x.size + zb0.size := by have := HZS0.out; omega
          have t2 : ¬ 9223372036854775807 < x.size + zb0.size + 1 := by have := HZS0.out; omega
          have HE : Hid (x ++ zb0 ++ (⟨#[125]⟩ : ByteArray) = q) := Lib.hid (str_ext (app_list _ _ (app_list _ _ hX HZ0.out) (show (⟨#[125]⟩ : ByteArray).data.toList = [125] from rfl)) HQ.out)
          clear hX hxs hll X
          go_wp2_with (first
            | (go_at_call 99; refine (HB0.out _).mono ?_; rintro e w5 ⟨rfl, hB5⟩; have B5 := Lib.hid (BL.out.trans (hB5.mono BL.out.size)); clear hB5))
          go_ret
          exact ⟨by show Ending.returned (Value.string (x ++ zb0 ++ (⟨#[125]⟩ : ByteArray))) = _; rw [HE.out], B5.out⟩
end Go.Proofs.YtmfejjlmflgnbaaGreatDoor.Tok

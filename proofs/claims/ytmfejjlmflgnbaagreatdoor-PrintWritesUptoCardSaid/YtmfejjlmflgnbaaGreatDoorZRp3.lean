/- A part of the set. -/
import Derived.Test.YtmfejjlmflgnbaaGreatDoorZRp2
import Derived.Test.YtmfejjlmflgnbaaGreatDoorZPrN
import Derived.Test.YtmfejjlmflgnbaaGreatDoorZLawB
import Derived.RegionTactic
namespace Go.Proofs.YtmfejjlmflgnbaaGreatDoor.Tok
open Go.RowKit Go.Proofs.YtmfejjlmflgnbaaGreatDoor.PA Go.Proofs.YtmfejjlmflgnbaaGreatDoorW.PrintWords Go.Proofs.YtmfejjlmflgnbaaGreatDoorW.PrintLast Go.Proofs.YtmfejjlmflgnbaaGreatDoor.Sp Go.Proofs.YtmfejjlmflgnbaaGreatDoor.Tr
set_option linter.unusedVariables false
set_option linter.unusedSimpArgs false
set_option maxRecDepth 100000

theorem objT_braces (o : SO) : objT o = [32, 32] ++ bs o.f0 ++ [32] ++ bs o.f1 ++ bracesT 1 o.f3 ++ (endB o.f4 o.f5 ++ [10]) := by
  unfold objT bracesT
  cases h : o.f3.isEmpty <;> simp [blanksT]
def headT (t : ST) : Bs := versionL ++ quoteT (bs t.f0) ++ ([59, 10] ++ cpuL) ++ bs t.f1 ++ [32, 123, 10]
theorem treeT_head (t : ST) : treeT t = headT t ++ objsT t.f2 ++ [125] ++ (endB t.f3 t.f4 ++ [10]) := by
  unfold treeT headT
  simp only [List.append_assoc]
theorem tree_lens2 {t : ST} (h : (treeT t).length ≤ 140737488355328) : ∀ j o, t.f2[j]? = some o → (headT t ++ objsT (t.f2.take j) ++ objT o).length ≤ 140737488355328 := fun j o hj => by
  have h1 : objsT t.f2 = objsT (t.f2.take (j + 1)) ++ objsT (t.f2.drop (j + 1)) := by rw [← objsT_app, List.take_append_drop]
  rw [treeT_head, h1, objsT_take t.f2 j o hj] at h
  simp only [List.length_append] at h ⊢
  omega
theorem put2 {w4 : World} {g : Nat} {x y : Value} {t : TypeId} (h : w4.heap[g]? = some (.cells #[x, y] t (0, 0))) (c v : Value) {w5 : World} (hw : w5 = (w4.setCell ⟨g, 0, none⟩ c).setCell ⟨g, 1, none⟩ v) :
    w5.heap[g]? = some (.cells #[c, v] t (0, 0)) ∧ (∀ k, k ≠ g → w5.heap[k]? = w4.heap[k]?) ∧ ∀ B, B ≤ g → Below B w4 w5 := by
  subst hw
  refine ⟨setCell_row (setCell_row h c) v, fun k hk => ?_, fun B hB => ?_⟩
  · rw [Below.heap_setCell _ _ _ _ hk, Below.heap_setCell _ _ _ _ hk]
  · exact ((Below.refl B w4).setCell (p := ⟨g, 0, none⟩) hB c).setCell (p := ⟨g, 1, none⟩) hB v
theorem at_T2 {w' : World} {g : Nat} {t : ST} {A : Option Addr} {c : Nat} (h2 : w'.heap[g]? = some (.cells (treeC t A c) 24 (0, 0))) : w'.cell? ⟨g, 0, none⟩ = some (.string t.f0) ∧ w'.cell? ⟨g, 1, none⟩ = some (.string t.f1) := ⟨(cell_row h2 0).trans rfl, (cell_row h2 1).trans rfl⟩
theorem at_O5 {w' : World} {g : Nat} {a : SO} {A5 : Option Addr} {c5 : Nat} (h2 : w'.heap[g]? = some (.cells (objC a A5 c5) 44 (0, 0))) :
    w'.cell? ⟨g, 0, none⟩ = some (.string a.f0) ∧ w'.cell? ⟨g, 1, none⟩ = some (.string a.f1) ∧ w'.cell? ⟨g, 5, none⟩ = some (.slice A5 a.f3.length c5) ∧ w'.cell? ⟨g, 6, none⟩ = some (.bool a.f4) ∧ w'.cell? ⟨g, 7, none⟩ = some (.string a.f5) :=
  ⟨(cell_row h2 0).trans rfl, (cell_row h2 1).trans rfl, (cell_row h2 5).trans rfl, (cell_row h2 6).trans rfl, (cell_row h2 7).trans rfl⟩
theorem note_small {n : Bool} {s : ByteArray} (h : noteB n s = true) : (endB n s).length ≤ 600 := by
  unfold noteB at h
  unfold endB
  cases n with
  | true =>
    rw [if_pos rfl] at h ⊢
    unfold stringB at h
    simp only [Bool.and_eq_true, decide_eq_true_eq] at h
    have := quote_len (bs s)
    simp
    omega
  | false => simp
set_option maxHeartbeats 32000000 in
theorem rprint_calls (t : ST) (A : Option Addr) (c : Nat) (w : World) (hC : Kd.C k44 w A t.f2.length t.f2) (hc : t.f2.length ≤ c) (hT : TreeSm t) :
    Calls Tryz.prog 19 #[treeV t A c] w (PrintRes t w) := by
  have HC := Lib.hid hC
  have HT := Lib.hid hT
  obtain ⟨r, hr⟩ : ∃ r, badT t = r := ⟨_, rfl⟩
  have HFR : Hid (∀ W, Below w.heap.size w W → Calls Tryz.prog 14 #[.agg #[.string t.f0, .string t.f1, .slice A t.f2.length c, .bool t.f3, .string t.f4]] W fun e w' => (∃ A c, e = .returned (.agg #[.int .i64 (cdOf r), .slice A (qOf r).length c]) ∧ AtQ w' W.heap.size A c (qOf r)) ∧ Below W.heap.size W w') :=
    Lib.hid (fun W hB => (rfits_calls t A c W (Kd.C_below hC hB) hc hT.ok).mono fun e w' hp => by rw [hr] at hp; exact ref_val hp)
  have HE : Hid (∀ e w', Below w.heap.size w w' → (match r with
    | some q => ∃ A c, e = .returned (.tuple #[.string ⟨#[]⟩, .agg #[.int .i64 40, .slice A q.length c]]) ∧ AtQ0 w' A c q
    | none => if (treeT t).length > 262144 then e = .returned (.tuple #[.string ⟨#[]⟩, .agg #[.int .i64 24, .slice none 0 0]])
      else e = .returned (.tuple #[.string ⟨(treeT t).toArray⟩, .agg #[.int .i64 0, .slice none 0 0]])) → PrintRes t w e w') := Lib.hid (fun e w' h1 h2 => ⟨h1, by rw [hr]; exact h2⟩)
  have HRR := Lib.hid hr
  have hcd : r = none ∨ ∃ q, r = some q := by cases r <;> simp
  clear hC hT hr
  have tk1 : True := trivial
  unfold treeV treeC
  go_enter Tryz.func19, Tryz.ntmps19
  go_wp2_with fail
  obtain ⟨w0, hw0⟩ : ∃ w0 : World, w0 = ((w.alloc (.cells #[.string t.f0, .string t.f1, .slice A t.f2.length c, .bool t.f3, .string t.f4] 24)).alloc (.cells #[.int .i64 0, .slice none 0 0] 29)) := ⟨_, rfl⟩
  rw [← hw0]
  obtain ⟨B0, GF0, Z0⟩ := two_worlds hw0
  have GT0 : Hid (w0.heap[w.heap.size]? = some (.cells (treeC t A c) 24 (0, 0))) := Lib.hid (by
    rw [hw0]
    have g := heap_alloc_new w (.cells #[.string t.f0, .string t.f1, .slice A t.f2.length c, .bool t.f3, .string t.f4] 24)
    exact ((alloc_below _ _).block _ (by simp)).trans g)
  clear hw0
  refine (HFR.out w0 B0.out).mono ?_
  rintro e w1 ⟨⟨A7, c7, rfl, hQ⟩, hB1⟩
  have Q1 := Lib.hid hQ
  have B01 := Lib.hid hB1
  clear hQ hB1
  generalize hcdv : cdOf r = cd
  have HCD := Lib.hid hcdv
  clear hcdv
  go_upto_if 12 with (first
    | (have _t := tk1; refine run_event rfl (.alloc 29) rfl (.pointer (some ⟨w1.heap.size, 0, none⟩)) (w1.alloc (.cells flawC0 29)) (by kernel_rfl) ?_; intro w2 hw2; have B12 : Hid (Below w1.heap.size w1 w2) := Lib.hid (by rw [hw2]; exact alloc_below _ _); have G2 : Hid (w2.heap[w1.heap.size]? = some (.cells flawC0 29 (0, 0))) := Lib.hid (by rw [hw2]; exact heap_alloc_new _ _); clear hw2 tk1 _t)
    | ((with_reducible refine gate_store (t := 29) (p := 4) rfl ?_); refine put_event rfl 29 _ _ rfl w1.heap.size #[.int .i64 cd, .slice A7 (qOf r).length c7] rfl rfl 29 flawC0 G2.out (by kernel_rfl) rfl (flaw_all _ _ _ _) w1.heap.size (Nat.le_refl _) ?_; intro w3 hb3 hB3 hs3 ho3; have G3 := Lib.hid hb3; have B13 : Hid (Below w1.heap.size w1 w3) := Lib.hid (B12.out.trans hB3); have B03 : Hid (Below w0.heap.size w0 w3) := Lib.hid (B01.out.trans (B13.out.mono B01.out.size)); obtain ⟨u0, u1⟩ := flawq_cells hb3; clear hb3 hB3 hs3 ho3))
  have GF3 : Hid (w3.heap[w.heap.size + 1]? = some (.cells #[.int .i64 0, .slice none 0 0] 29 (0, 0))) := Lib.hid (blk_below GF0.out B03.out)
  have GT3 : Hid (w3.heap[w.heap.size]? = some (.cells (treeC t A c) 24 (0, 0))) := Lib.hid (blk_below GT0.out B03.out)
  have B3 : Hid (Below w.heap.size w w3) := Lib.hid (B0.out.trans (B03.out.mono B0.out.size))
  have ZN : Hid (w.heap.size + 1 < w1.heap.size) := Lib.hid (by have := Z0.out; have := B01.out.size; omega)
  rcases hcd with hrn | ⟨q, hrq⟩
  · subst hrn
    have hcd0 : cd = 0 := HCD.out.symm
    rw [hcd0, show ((0 : Int) != 0) = false from rfl]
    clear u0 u1 hcd0
    obtain ⟨hfs, hfn, hfo⟩ := fits_tree HRR.out
    obtain ⟨zq, hzq, hzqs⟩ := str_of (quoteT (bs t.f0))
    have HQC := Lib.hid (fun W => rquoted_calls t.f0 W hfs zq hzq)
    obtain ⟨ze, hze, hzes⟩ := str_of (endB t.f3 t.f4 ++ [10])
    have HEN := Lib.hid (fun W => rend_calls t.f3 t.f4 W hfn ze hze)
    have hes := note_small hfn
    simp only [List.length_append, List.length_cons, List.length_nil] at hzes
    have hzq3 : zq.size ≤ 3000000000 := by
      have h1 := quote_len (bs t.f0)
      have h2 := bs_len t.f0
      have h4 := HT.out.ok.str.1
      omega
    have hze3 : ze.size ≤ 1000 := by omega
    have htl := HT.out.text
    have hhl : (headT t).length ≤ 140737488355328 := by rw [treeT_head] at htl; simp only [List.length_append] at htl; omega
    have hf1 : t.f1.size ≤ 140737488355328 := by
      have := bs_len t.f1
      unfold headT at hhl
      simp only [List.length_append] at hhl
      omega
    have HZQ := Lib.hid hzq
    have HZE := Lib.hid hze
    have HFO := Lib.hid hfo
    have HLO := Lib.hid (tree_lens2 htl)
    have HTL := Lib.hid htl
    have HLN := Lib.hid HT.out.ok.len
    have hx14 : (⟨#[79, 73, 76, 95, 86, 69, 82, 83, 73, 79, 78, 32, 61, 32]⟩ : ByteArray).size = 14 := rfl
    have hx6 : (⟨#[59, 10, 67, 80, 85, 32]⟩ : ByteArray).size = 6 := rfl
    have hx3 : (⟨#[32, 123, 10]⟩ : ByteArray).size = 3 := rfl
    have hx2 : (⟨#[32, 32]⟩ : ByteArray).size = 2 := rfl
    have hx1 : (⟨#[32]⟩ : ByteArray).size = 1 := rfl
    have hx0 : (⟨#[125]⟩ : ByteArray).size = 1 := rfl
    have t1 : ¬ 9223372036854775807 < 14 + zq.size := by omega
    have t2 : ¬ 9223372036854775807 < 14 + zq.size + 6 := by omega
    have t3 : ¬ 9223372036854775807 < 14 + zq.size + 6 + t.f1.size := by omega
    have t4 : ¬ 9223372036854775807 < 14 + zq.size + 6 + t.f1.size + 3 := by omega
    clear hfs hfn hfo hzq hze hzqs hzes hes htl hhl
    go_wp2_with fail
    have D : Hid (Below w3.heap.size w3 w3) := Lib.hid (Below.refl _ _)
    go_region_held3 (fun W => W.cell? ⟨w.heap.size, 0, none⟩ = some (.string t.f0) ∧ W.cell? ⟨w.heap.size, 1, none⟩ = some (.string t.f1)) (first | exact at_T2 (blk_be GT3.out D.out) | exact at_T2 (blk_be GT3.out D.out.drew) | assumption) (first
      | (go_at_call 51; refine (HQC.out _).mono ?_; rintro e wz ⟨rfl, hBz⟩; have D : Hid (Below w3.heap.size w3 wz) := Lib.hid (by first | exact dz D.out hBz | exact dzd D.out hBz); clear hBz))
    obtain ⟨w4, hw4⟩ : ∃ w4 : World, w4 = wz := ⟨_, rfl⟩
    rw [← hw4] at D ⊢
    clear hw4
    obtain ⟨y, hy⟩ : ∃ y : ByteArray, y = (⟨#[79, 73, 76, 95, 86, 69, 82, 83, 73, 79, 78, 32, 61, 32]⟩ : ByteArray) ++ zq ++ (⟨#[59, 10, 67, 80, 85, 32]⟩ : ByteArray) ++ t.f1 ++ (⟨#[32, 123, 10]⟩ : ByteArray) := ⟨_, rfl⟩
    have HY : Hid (y.data.toList = headT t) := Lib.hid (by
      rw [hy, app_list _ _ (app_list _ _ (app_list _ _ (app_list _ _ (show (⟨#[79, 73, 76, 95, 86, 69, 82, 83, 73, 79, 78, 32, 61, 32]⟩ : ByteArray).data.toList = versionL from rfl) HZQ.out) (show (⟨#[59, 10, 67, 80, 85, 32]⟩ : ByteArray).data.toList = [59, 10] ++ cpuL from rfl)) (show t.f1.data.toList = bs t.f1 from rfl)) (show (⟨#[32, 123, 10]⟩ : ByteArray).data.toList = [32, 123, 10] from rfl)]
      rfl)
    rw [← hy]
    clear hy t1 t2 t3 t4
    have B4 := Lib.hid (B3.out.trans (D.out.mono B3.out.size))
    have GT4 := Lib.hid (blk_be GT3.out D.out)
    have GF4 := Lib.hid (blk_be GF3.out D.out)
    go_wp2_with fail
    go_loopw [5, 6] (fun sv v wr => ∃ (j : Nat) (x : ByteArray), sv = .string x ∧ v = .int .i64 (j : Int) ∧ j ≤ t.f2.length ∧ Hid (x.data.toList = headT t ++ objsT (t.f2.take j)) ∧ Hid (Below w4.heap.size w4 wr)) (fun _ v _ => t.f2.length - (intOf v).toNat)
    case atStart => exact ⟨0, y, rfl, by go_num, by omega, Lib.hid (by rw [List.take_zero]; exact HY.out.trans (List.append_nil _).symm), Lib.hid (Below.refl _ _)⟩
    case round =>
      obtain ⟨j, x, rfl, rfl, hj, X, BL⟩ := hrel
      have hl9 := HLN.out
      have BR := Lib.hid (B4.out.trans (BL.out.mono B4.out.size))
      have GTR := Lib.hid (blk_be GT4.out BL.out)
      obtain ⟨_, _, y2, y3, y4⟩ := tree_read GTR.out (Below.refl _ _)
      by_cases hlt : j < t.f2.length
      · have hx : t.f2[j]? = some t.f2[j] := List.getElem?_eq_getElem hlt
        obtain ⟨ad, A5, c5, eA, x0, x1, x2, x3, x4, x5, x6, x7, l5, C5⟩ := at_T44 HC.out (j : Int) (by omega) (by omega)
        rw [rdo_at t.f2 j _ hx] at x0 x1 x2 x3 x4 x5 x6 x7 l5 C5
        have hnx := objsT_take t.f2 j _ hx
        have hlj := HLO.out j _ hx
        generalize t.f2[j] = a at hx x0 x1 x2 x3 x4 x5 x6 x7 l5 C5 hnx hlj
        cases eA
        simp only [Int.toNat_natCast] at x0 x1 x2 x3 x4 x5 x6 x7
        replace x0 := mvc BR.out x0
        replace x1 := mvc BR.out x1
        replace x2 := mvc BR.out x2
        replace x3 := mvc BR.out x3
        replace x4 := mvc BR.out x4
        replace x5 := mvc BR.out x5
        replace x6 := mvc BR.out x6
        replace x7 := mvc BR.out x7
        obtain ⟨hno, hfa⟩ := fits_obj (badOs_all t.f2 0 HFO.out j a hx)
        have hwa := HT.out.ok.wf j a hx
        have hcn := HT.out.sm j a hx
        rw [objT_braces] at hnx hlj
        simp only [List.length_append, bs_len, List.length_cons, List.length_nil] at hlj
        obtain ⟨zr, hzr, hzrs⟩ := str_of (bracesT 1 a.f3)
        obtain ⟨zo2, hzo, hzos⟩ := str_of (endB a.f4 a.f5 ++ [10])
        have hes := note_small hno
        simp only [List.length_append, List.length_cons, List.length_nil] at hzos
        have hxs := size_of X.out
        rw [List.length_append] at hxs
        have HRC : Hid (∀ W, Below w.heap.size w W → Calls Tryz.prog 52 #[.slice A5 a.f3.length c5, .int .i64 1] W fun e w' => e = .returned (.string zr) ∧ Below W.heap.size W w') :=
          Lib.hid (fun W hB => rbraces_calls (cntL a.f3) a.f3 1 A5 c5 W (Nat.le_refl _) (Kd.C_below C5 hB) l5 hwa hfa (by omega) (by omega) zr hzr)
        have HEC := Lib.hid (fun W => rend_calls a.f4 a.f5 W hno zo2 hzo)
        have htot : x.size + 2 + a.f0.size + 1 + a.f1.size + zr.size + zo2.size ≤ 140737488355328 := by omega
        have HTOT := Lib.hid htot
        have HZR := Lib.hid hzr
        have HZO := Lib.hid hzo
        have HNX := Lib.hid hnx
        have hq1 : x.size ≤ 140737488355328 := by omega
        have hq2 : a.f0.size ≤ 140737488355328 := by omega
        have hq3 : a.f1.size ≤ 140737488355328 := by omega
        have hq4 : zr.size ≤ 140737488355328 := by omega
        have hq5 : zo2.size ≤ 140737488355328 := by omega
        have t1 : ¬ 9223372036854775807 < x.size + 2 := by omega
        have t2 : ¬ 9223372036854775807 < x.size + 2 + a.f0.size := by omega
        have t3 : ¬ 9223372036854775807 < x.size + 2 + a.f0.size + 1 := by omega
        have t4 : ¬ 9223372036854775807 < x.size + 2 + a.f0.size + 1 + a.f1.size := by omega
        have t5 : ¬ 9223372036854775807 < x.size + 2 + a.f0.size + 1 + a.f1.size + zr.size := by omega
        have t6 : ¬ 9223372036854775807 < x.size + 2 + a.f0.size + 1 + a.f1.size + zr.size + zo2.size := by omega
        clear hx C5 hnx hlj hno hfa hwa hcn hzr hzrs hzo hzos hes hxs htot y3 y4
        have tk2 : True := trivial
        go_wp2_with (first
          | (have _t := tk2; refine run_event rfl (.alloc 44) rfl (.pointer (some ⟨wr.heap.size, 0, none⟩)) (wr.alloc (.cells obj0 44)) (by kernel_rfl) ?_; intro w5 hw5; have B5 : Hid (Below wr.heap.size wr w5) := Lib.hid (by rw [hw5]; exact alloc_below _ _); have G5 : Hid (w5.heap[wr.heap.size]? = some (.cells obj0 44 (0, 0))) := Lib.hid (by rw [hw5]; exact heap_alloc_new _ _); clear hw5 tk2 _t)
          | ((with_reducible refine gate_store (t := 44) (p := 7) rfl ?_); refine put_event rfl 44 _ _ rfl wr.heap.size (objC a A5 c5) rfl rfl 44 obj0 G5.out (by kernel_rfl) rfl (obj_all _ _ _) wr.heap.size (Nat.le_refl _) ?_; intro w6 hb6 hB6 hs6 ho6; have G6 := Lib.hid hb6; have B6 : Hid (Below w4.heap.size w4 w6) := Lib.hid (BL.out.trans ((B5.out.trans hB6).mono BL.out.size)); clear hb6 hB6 hs6 ho6 x0 x1 x2 x3 x4 x5 x6 x7 y2))
        have D : Hid (Below w6.heap.size w6 w6) := Lib.hid (Below.refl _ _)
        have B6W : Hid (Below w.heap.size w w6) := Lib.hid (B4.out.trans (B6.out.mono B4.out.size))
        go_region_held3 (fun W => W.cell? ⟨wr.heap.size, 0, none⟩ = some (.string a.f0) ∧ W.cell? ⟨wr.heap.size, 1, none⟩ = some (.string a.f1) ∧ W.cell? ⟨wr.heap.size, 5, none⟩ = some (.slice A5 a.f3.length c5) ∧ W.cell? ⟨wr.heap.size, 6, none⟩ = some (.bool a.f4) ∧ W.cell? ⟨wr.heap.size, 7, none⟩ = some (.string a.f5)) (first | exact at_O5 (blk_be G6.out D.out) | exact at_O5 (blk_be G6.out D.out.drew) | assumption) (first
          | (go_at_call 52; (first | with_reducible refine (HRC.out _ (B6W.out.trans (D.out.mono B6W.out.size))).mono ?_ | with_reducible refine (HRC.out _ (B6W.out.trans (D.out.drew.mono B6W.out.size))).mono ?_); rintro e wz ⟨rfl, hBz⟩; have D : Hid (Below w6.heap.size w6 wz) := Lib.hid (by first | exact dz D.out hBz | exact dzd D.out hBz); clear hBz)
          | (go_at_call 53; refine (HEC.out _).mono ?_; rintro e wz ⟨rfl, hBz⟩; have D : Hid (Below w6.heap.size w6 wz) := Lib.hid (by first | exact dz D.out hBz | exact dzd D.out hBz); clear hBz))
        all_goals
          go_wp2_with fail
          exact ⟨⟨j + 1, _, rfl, by go_num, by omega, Lib.hid (by
            rw [app_list _ _ (app_list _ _ (app_list _ _ (app_list _ _ (app_list _ _ (app_list _ _ X.out (show (⟨#[32, 32]⟩ : ByteArray).data.toList = [32, 32] from rfl)) (show a.f0.data.toList = bs a.f0 from rfl)) (show (⟨#[32]⟩ : ByteArray).data.toList = [32] from rfl)) (show a.f1.data.toList = bs a.f1 from rfl)) HZR.out) HZO.out, HNX.out]
            simp only [List.append_assoc]), Lib.hid (B6.out.trans (D.out.mono B6.out.size))⟩, by simp [intOf]; omega⟩
      · obtain rfl : j = t.f2.length := by omega
        have hX := X.out
        rw [List.take_of_length_le (Nat.le_refl _)] at hX
        have hxs := size_of hX
        have htl := HTL.out
        rw [treeT_head] at htl
        simp only [List.length_append, List.length_cons, List.length_nil] at htl hxs
        have hq1 : x.size ≤ 140737488355328 := by omega
        have t1 : ¬ 9223372036854775807 < x.size + 1 := by omega
        have t2 : ¬ 9223372036854775807 < x.size + 1 + ze.size := by omega
        obtain ⟨z, hz⟩ : ∃ z : ByteArray, z = x ++ (⟨#[125]⟩ : ByteArray) ++ ze := ⟨_, rfl⟩
        have HZT : Hid (z.data.toList = treeT t) := Lib.hid (by
          rw [hz, app_list _ _ (app_list _ _ hX (show (⟨#[125]⟩ : ByteArray).data.toList = [125] from rfl)) HZE.out, treeT_head])
        have hzsz := size_of HZT.out
        have HZSZ := Lib.hid hzsz
        have HZZ := Lib.hid hz
        clear hX hxs htl X hz hzsz
        go_upto_if 64 with (first
          | (go_at_call 53; refine (HEN.out _).mono ?_; rintro e w5 ⟨rfl, hB5⟩; have B5 := Lib.hid (BR.out.trans (hB5.mono BR.out.size)); have B45 := Lib.hid (BL.out.trans (hB5.mono BL.out.size)); clear hB5 y2 y3 y4))
        rw [← HZZ.out]
        have GF5 : Hid (w5.heap[w.heap.size + 1]? = some (.cells flawC0 29 (0, 0))) := Lib.hid (blk_be GF4.out B45.out)
        have hbig : (262144 < (treeT t).length) ∨ (treeT t).length ≤ 262144 := by omega
        have hzz : (z.size : Int) = ((treeT t).length : Int) := by rw [HZSZ.out]
        rcases hbig with hbig | hbig
        · have HB := Lib.hid hbig
          have hd1 : decide ((262144 : Int) < (z.size : Int)) = true := decide_eq_true (by omega)
          clear hbig hzz t1 t2
          have hxz : (x.size + 1 + ze.size : Nat) = z.size := by rw [HZZ.out]; simp only [ByteArray.size_append]; rfl
          try simp only [ByteArray.size_append]
          have hd2 : decide ((262144 : Int) < ((x.size + 1 + ze.size : Nat) : Int)) = true := by rw [hxz]; exact hd1
          have hd3 : (262144 : Int) < (z.size : Int) := of_decide_eq_true hd1
          have hd4 : (262144 : Int) < (x.size : Int) + 1 + (ze.size : Int) := by omega
          clear hd1 hd2 hxz
          go_wp2_with (first
            | ((with_reducible refine gate_store (t := 29) (p := 3) rfl ?_); refine put_event rfl 29 _ _ rfl (w.heap.size + 1) #[.int .i64 24, .slice none 0 0] rfl rfl 29 flawC0 GF5.out (by kernel_rfl) rfl (flaw_all _ _ _ _) (w.heap.size + 1) (Nat.le_refl _) ?_; intro w6 hb6 hB6 hs6 ho6; have G6 := Lib.hid hb6; have B6 : Hid (Below w.heap.size w w6) := Lib.hid (B5.out.trans (hB6.mono (by omega))); clear hb6 hB6 hs6 ho6))
          refine bodyPost_ret (results_list (rs := [.tmp 2, .cell 3 29]) rfl (by simp) (.tmp (.cell (w.heap.size + 1) 29 #[.int .i64 24, .slice none 0 0] (0, 0) _ rfl G6.out Tryz.underlying29 rfl (by kernel_rfl) .nil))) rfl ?_
          exact HE.out _ _ B6.out (by show (if (treeT t).length > 262144 then _ else _); rw [if_pos HB.out]; rfl)
        · have HB := Lib.hid hbig
          have hd3 : ¬ (262144 : Int) < (z.size : Int) := by omega
          have hd4 : ¬ (262144 : Int) < (x.size : Int) + 1 + (ze.size : Int) := by
            have : (x.size + 1 + ze.size : Nat) = z.size := by rw [HZZ.out]; simp only [ByteArray.size_append]; rfl
            omega
          have hd1 : decide ((262144 : Int) < (z.size : Int)) = false := decide_eq_false hd3
          clear hbig hzz t1 t2
          go_wp2_with (first
            | ((with_reducible refine gate_store (t := 29) (p := 3) rfl ?_); refine put_event rfl 29 _ _ rfl (w.heap.size + 1) #[.int .i64 0, .slice none 0 0] rfl rfl 29 flawC0 GF5.out (by kernel_rfl) rfl (flaw_all _ _ _ _) (w.heap.size + 1) (Nat.le_refl _) ?_; intro w6 hb6 hB6 hs6 ho6; have G6 := Lib.hid hb6; have B6 : Hid (Below w.heap.size w w6) := Lib.hid (B5.out.trans (hB6.mono (by omega))); clear hb6 hB6 hs6 ho6))
          refine bodyPost_ret (results_list (rs := [.tmp 2, .cell 3 29]) rfl (by simp) (.tmp (.cell (w.heap.size + 1) 29 #[.int .i64 0, .slice none 0 0] (0, 0) _ rfl G6.out Tryz.underlying29 rfl (by kernel_rfl) .nil))) rfl ?_
          have HZA : Hid (z = ⟨(treeT t).toArray⟩) := Lib.hid (str_ext HZT.out (by simp))
          exact HE.out _ _ B6.out (by show (if (treeT t).length > 262144 then _ else _); rw [if_neg (by have := HB.out; omega), ← HZA.out]; rfl)
  · subst hrq
    have hcd0 : cd = 40 := HCD.out.symm
    rw [hcd0, show ((40 : Int) != 0) = true from rfl]
    rw [hcd0] at u0 G3
    replace u1 : w3.cell? ⟨w1.heap.size, 1, none⟩ = some (.slice A7 q.length c7) := u1
    clear hcd0
    go_wp2_with fail
    have z0 : w3.cell? ⟨w.heap.size + 1, 0, none⟩ = some (.int .i64 0) := (cell_row GF3.out 0).trans rfl
    have z1 : w3.cell? ⟨w.heap.size + 1, 1, none⟩ = some (.slice none 0 0) := (cell_row GF3.out 1).trans rfl
    have f1 : ∀ k, w3.frozen? ⟨w.heap.size + 1, k, none⟩ = false := fun k => frozen_row GF3.out k
    go_region
    obtain ⟨w5, hw5⟩ : ∃ w5 : World, w5 = (w3.setCell ⟨w.heap.size + 1, 0, none⟩ (.int .i64 40)).setCell ⟨w.heap.size + 1, 1, none⟩ (.slice A7 q.length c7) := ⟨_, rfl⟩
    rw [← hw5]
    obtain ⟨hG5, hO5, hB5⟩ := put2 GF3.out _ _ hw5
    have G5 := Lib.hid hG5
    have O5 := Lib.hid hO5
    have B5 := Lib.hid (hB5 w.heap.size (by omega))
    clear hw5 hG5 hO5 hB5 z0 z1 f1 u0 u1
    go_wp2_with fail
    refine bodyPost_ret (results_list (rs := [.tmp 2, .cell 3 29]) rfl (by simp) (.tmp (.cell (w.heap.size + 1) 29 #[.int .i64 40, .slice A7 q.length c7] (0, 0) _ rfl G5.out Tryz.underlying29 rfl (by kernel_rfl) .nil))) rfl ?_
    have QF : Hid (AtQ0 w5 A7 c7 q) := Lib.hid (((Q1.out.below B13.out).other (g := w.heap.size + 1) (fun ad e => by have := Q1.out.lo ad e; have := Z0.out; omega) O5.out).at0)
    refine HE.out _ _ ?_ ⟨A7, c7, rfl, ?_⟩
    · first | exact (B3.out.trans B5.out).drew | exact B3.out.trans B5.out
    · first | exact QF.out.below (Below.refl _ _).drew | exact QF.out
end Go.Proofs.YtmfejjlmflgnbaaGreatDoor.Tok

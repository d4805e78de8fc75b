/- CONTRACTS: package printer's fits and Fits. -/
import Derived.Test.YtmfejjlmflgnbaaGreatDoorZPrF
import Derived.Laws.EntriesVeiled
import Derived.Outline
namespace Go.Proofs.YtmfejjlmflgnbaaGreatDoor.Tok
open Go.RowKit Go.Proofs.YtmfejjlmflgnbaaGreatDoor.PA Go.Proofs.YtmfejjlmflgnbaaGreatDoorW.PrintWords Go.Proofs.YtmfejjlmflgnbaaGreatDoorW.PrintLast Go.Proofs.YtmfejjlmflgnbaaGreatDoor.Sp Go.Proofs.YtmfejjlmflgnbaaGreatDoor.Tr
set_option linter.unusedVariables false
set_option linter.unusedSimpArgs false
set_option maxRecDepth 100000

theorem C_nil (w : World) (A : Option Addr) : Kd.C (Kd.int .i64) w A 0 [] := ⟨rfl, by simp, fun h => absurd h (by omega)⟩
theorem bad_nil (w : World) : Calls Tryz.prog 85 #[.slice none 0 0] w (BadPost [] w) := bad_calls none 0 [] w (C_nil w none) (Nat.le_refl _) (by simp)
theorem C_one (w : World) (g : Nat) (j : Int) (h : w.cell? ⟨g, 0, none⟩ = some (.int .i64 j)) : Kd.C (Kd.int .i64) w (some ⟨g, 0, none⟩) 1 [j] :=
  ⟨rfl, by simp, fun _ => ⟨_, rfl, fun i p hp => by
    cases i with
    | succ i => simp at hp
    | zero =>
      simp only [List.getElem?_cons_zero, Option.some.injEq] at hp
      subst hp
      refine ⟨[.int .i64 j], rfl, rfl, fun k u hu => ?_⟩
      cases k with
      | succ k => simp at hu
      | zero =>
        simp only [List.getElem?_cons_zero, Option.some.injEq] at hu
        subst hu
        exact h⟩⟩
theorem cell_alloc1 {w : World} {p : Addr} {v : Value} (h : w.cell? p = some v) (X : Obj) : (w.alloc X).cell? p = some v := by
  rw [World.cell?_alloc_lt _ _ p (World.block_lt_of_cell? w p h)]; exact h
theorem rdo_at (l : List SO) (j : Nat) (a : SO) (h : l[j]? = some a) : rd_T44 l (j : Int) = a := by
  simp [rd_T44, h]
def treeC (t : ST) (A : Option Addr) (c : Nat) : Array Value := #[.string t.f0, .string t.f1, .slice A t.f2.length c, .bool t.f3, .string t.f4]
def treeV (t : ST) (A : Option Addr) (c : Nat) : Value := .agg (treeC t A c)
theorem tree_read {w w' : World} {g : Nat} {t : ST} {A : Option Addr} {c : Nat} (h : w.heap[g]? = some (.cells (treeC t A c) 24 (0, 0))) (hB : Below w.heap.size w w') :
    w'.cell? ⟨g, 0, none⟩ = some (.string t.f0) ∧ w'.cell? ⟨g, 1, none⟩ = some (.string t.f1) ∧ w'.cell? ⟨g, 2, none⟩ = some (.slice A t.f2.length c) ∧ w'.cell? ⟨g, 3, none⟩ = some (.bool t.f3) ∧ w'.cell? ⟨g, 4, none⟩ = some (.string t.f4) := by
  have h2 : w'.heap[g]? = some (.cells (treeC t A c) 24 (0, 0)) := (hB.block _ (Array.getElem?_eq_some_iff.1 h).1).trans h
  exact ⟨(cell_row h2 0).trans rfl, (cell_row h2 1).trans rfl, (cell_row h2 2).trans rfl, (cell_row h2 3).trans rfl, (cell_row h2 4).trans rfl⟩
/-- The cells of an object. -/
def objC (a : SO) (A5 : Option Addr) (c5 : Nat) : Array Value := #[.string a.f0, .string a.f1, .int .i64 a.f2.f0, .int .i64 a.f2.f1, .int .i64 a.f2.f2, .slice A5 a.f3.length c5, .bool a.f4, .string a.f5]
def obj0 : Array Value := #[.string ⟨#[]⟩, .string ⟨#[]⟩, .int .i64 0, .int .i64 0, .int .i64 0, .slice none 0 0, .bool false, .string ⟨#[]⟩]
theorem obj_all (a : SO) (A5 : Option Addr) (c5 : Nat) : (objC a A5 c5).all (·.oneCell') = true := by simp [objC, Value.oneCell']
theorem obj_read {w w' : World} {g : Nat} {a : SO} {A5 : Option Addr} {c5 : Nat} (h : w.heap[g]? = some (.cells (objC a A5 c5) 44 (0, 0))) (hB : Below w.heap.size w w') :
    w'.cell? ⟨g, 0, none⟩ = some (.string a.f0) ∧ w'.cell? ⟨g, 1, none⟩ = some (.string a.f1) ∧ w'.cell? ⟨g, 5, none⟩ = some (.slice A5 a.f3.length c5) ∧ w'.cell? ⟨g, 6, none⟩ = some (.bool a.f4) ∧ w'.cell? ⟨g, 7, none⟩ = some (.string a.f5) := by
  have h2 : w'.heap[g]? = some (.cells (objC a A5 c5) 44 (0, 0)) := (hB.block _ (Array.getElem?_eq_some_iff.1 h).1).trans h
  exact ⟨(cell_row h2 0).trans rfl, (cell_row h2 1).trans rfl, (cell_row h2 5).trans rfl, (cell_row h2 6).trans rfl, (cell_row h2 7).trans rfl⟩
/-- What is asked of a tree: its numbers are of their kind, its size. -/
structure TreeOk (t : ST) : Prop where
  wf : ∀ (j : Nat) (o : SO), t.f2[j]? = some o → wfL o.f3
  cnt : ∀ (j : Nat) (o : SO), t.f2[j]? = some o → cntL o.f3 ≤ 100000000
  len : t.f2.length ≤ 100000000
  str : t.f0.size ≤ 1000000000 ∧ t.f4.size ≤ 1000000000
  note : ∀ (j : Nat) (o : SO), t.f2[j]? = some o → o.f5.size ≤ 1000000000
set_option maxHeartbeats 16000000 in
theorem fits_calls (t : ST) (A : Option Addr) (c : Nat) (w : World) (hC : Kd.C k44 w A t.f2.length t.f2) (hc : t.f2.length ≤ c) (hT : TreeOk t) (hG : Glob w) :
    Calls Tryz.prog 37 #[treeV t A c] w (FitsPost (badT t) w) := by
  have HG := Lib.hid hG
  have HC := Lib.hid hC
  have HT := Lib.hid hT
  obtain ⟨rs, hrs⟩ : ∃ rs, stringB (bs t.f0) = rs := ⟨_, rfl⟩
  have HRS := Lib.hid hrs
  obtain ⟨rn, hrn⟩ : ∃ rn, nameB (bs t.f1) = rn := ⟨_, rfl⟩
  have HRN := Lib.hid hrn
  clear hG hC hT hrs hrn
  unfold treeV treeC
  have hmf : ∀ (fn : Fn) (first cap : Array Value) (w : World), (Instr.makeFunc fn first cap).run Tryz.prog w = .ok (.func fn first cap) w := fun _ _ _ _ => rfl
  go_enter Tryz.func37, Tryz.ntmps37
  go_wp2_with fail
  obtain ⟨w0, hw0⟩ : ∃ w0 : World, w0 = w.alloc (.cells #[.string t.f0, .string t.f1, .slice A t.f2.length c, .bool t.f3, .string t.f4] 24) := ⟨_, rfl⟩
  rw [← hw0]
  have B0 : Hid (Below w.heap.size w w0) := Lib.hid (by rw [hw0]; exact alloc_below _ _)
  have G0 : Hid (w0.heap[w.heap.size]? = some (.cells (treeC t A c) 24 (0, 0))) := Lib.hid (by rw [hw0]; exact heap_alloc_new _ _)
  clear hw0
  refine (ptext_calls t.f0 w0 (HG.out.below B0.out) rs HRS.out).mono ?_
  rintro e w1 ⟨rfl, hB1⟩
  have B01 := Lib.hid hB1
  have B1 := Lib.hid (B0.out.trans (hB1.mono B0.out.size))
  clear hB1
  obtain ⟨y0, y1, y2, y3, y4⟩ := tree_read G0.out B01.out
  cases rs with
  | false =>
    clear y0 y1 y2 y3 y4
    go_wp2_with (first
      | (go_at_call 85; refine (bad_nil w1).mono ?_; rintro e wk hBad; obtain ⟨hB9, gg, rfl, hFl⟩ := hBad; have BD : Hid (BadPost [] w1 (.returned (flawV gg)) wk) := Lib.hid ⟨hB9, gg, rfl, hFl⟩; clear hB9 hFl))
    go_ret
    rw [badT_ver HRS.out]
    exact FitsPost.bad B1.out BD.out
  | true =>
    go_wp2_with fail
    refine (pname_calls t.f1 w1 (HG.out.below B1.out) rn HRN.out).mono ?_
    rintro e w2 ⟨rfl, hB2⟩
    have B02 := Lib.hid (B01.out.trans (hB2.mono B01.out.size))
    have B2 := Lib.hid (B1.out.trans (hB2.mono B1.out.size))
    clear hB2 y0 y1 y2 y3 y4
    obtain ⟨y0, y1, y2, y3, y4⟩ := tree_read G0.out B02.out
    cases rn with
    | false =>
      clear y0 y1 y2 y3 y4
      go_wp2_with (first
        | (go_at_call 85; refine (bad_nil w2).mono ?_; rintro e wk hBad; obtain ⟨hB9, gg, rfl, hFl⟩ := hBad; have BD : Hid (BadPost [] w2 (.returned (flawV gg)) wk) := Lib.hid ⟨hB9, gg, rfl, hFl⟩; clear hB9 hFl))
      go_ret
      rw [badT_cpu HRN.out]
      exact FitsPost.bad B2.out BD.out
    | true =>
      have ya2 := fun (X : Obj) => cell_alloc1 y2 X
      go_wp2_with fail
      obtain ⟨w3, hw3⟩ : ∃ w3 : World, w3 = w2.alloc (.cells #[.func (.func 86) #[] #[.pointer (some ⟨w2.heap.size, 0, none⟩)]] 158) := ⟨_, rfl⟩
      rw [← hw3]
      have B3 : Hid (Below w.heap.size w w3) := Lib.hid (by rw [hw3]; exact B2.out.trans ((alloc_below _ _).mono B2.out.size))
      have B03 : Hid (Below w0.heap.size w0 w3) := Lib.hid (by rw [hw3]; exact B02.out.trans ((alloc_below _ _).mono B02.out.size))
      have F3 : Hid (w3.cell? ⟨w2.heap.size, 0, none⟩ = some (funV w2.heap.size)) := Lib.hid (by rw [hw3]; exact (cell_row (heap_alloc_new _ _) 0).trans rfl)
      clear hw3 ya2 y0 y1 y2 y3 y4 hmf
      have HLEN := Lib.hid HT.out.len
      have HHT : Hid (∀ q, badOs t.f2 0 = some q → badT t = some q) := Lib.hid (fun q h => badT_in HRS.out HRN.out h)
      go_loopw [22] (fun v wr => ∃ j : Nat, v = .int .i64 (j : Int) ∧ j ≤ t.f2.length ∧ Hid (badOs (t.f2.drop j) j = badOs t.f2 0) ∧ Hid (Below w3.heap.size w3 wr)) (fun v _ => t.f2.length - (intOf v).toNat)
      case atStart => exact ⟨0, by go_num, by omega, Lib.hid rfl, Lib.hid (Below.refl _ _)⟩
      case round =>
        obtain ⟨j, rfl, hj, RL, B⟩ := hrel
        have hl9 := HLEN.out
        have BR := Lib.hid (B3.out.trans (B.out.mono B3.out.size))
        by_cases hlt : j < t.f2.length
        · have hx : t.f2[j]? = some t.f2[j] := List.getElem?_eq_getElem hlt
          obtain ⟨ad, A5, c5, eA, x0, x1, x2, x3, x4, x5, x6, x7, l5, C5⟩ := at_T44 HC.out (j : Int) (by omega) (by omega)
          rw [rdo_at t.f2 j _ hx] at x0 x1 x2 x3 x4 x5 x6 x7 l5 C5
          generalize t.f2[j] = a at hx x0 x1 x2 x3 x4 x5 x6 x7 l5 C5
          cases eA
          have HX := Lib.hid hx
          have HC5 := Lib.hid C5
          have HHT2 : Hid (∀ q, badO a j = some q → badOs t.f2 0 = some q) := Lib.hid (fun q h => by rw [← RL.out, badOs_hit HX.out h])
          have HHN : Hid (badO a j = none → badOs (t.f2.drop (j + 1)) (j + 1) = badOs t.f2 0) := Lib.hid (fun h => by rw [← RL.out, badOs_miss HX.out h])
          simp only [Int.toNat_natCast] at x0 x1 x2 x3 x4 x5 x6 x7
          replace x0 := (BR.out.cell (World.block_lt_of_cell? w _ x0)).trans x0
          replace x1 := (BR.out.cell (World.block_lt_of_cell? w _ x1)).trans x1
          replace x2 := (BR.out.cell (World.block_lt_of_cell? w _ x2)).trans x2
          replace x3 := (BR.out.cell (World.block_lt_of_cell? w _ x3)).trans x3
          replace x4 := (BR.out.cell (World.block_lt_of_cell? w _ x4)).trans x4
          replace x5 := (BR.out.cell (World.block_lt_of_cell? w _ x5)).trans x5
          replace x6 := (BR.out.cell (World.block_lt_of_cell? w _ x6)).trans x6
          replace x7 := (BR.out.cell (World.block_lt_of_cell? w _ x7)).trans x7
          obtain ⟨rk, hrk⟩ : ∃ rk, nameB (bs a.f0) = rk := ⟨_, rfl⟩
          have HRK := Lib.hid hrk
          obtain ⟨ro, hro⟩ : ∃ ro, nameB (bs a.f1) = ro := ⟨_, rfl⟩
          have HRO := Lib.hid hro
          clear hx C5 hrk hro
          have tk1 : True := trivial
          go_wp2_with (first
            | (have _t := tk1; refine run_event rfl (.alloc 44) rfl (.pointer (some ⟨wr.heap.size, 0, none⟩)) (wr.alloc (.cells obj0 44)) (by kernel_rfl) ?_; intro w4 hw4; have B4 : Hid (Below wr.heap.size wr w4) := Lib.hid (by rw [hw4]; exact alloc_below _ _); have G4 : Hid (w4.heap[wr.heap.size]? = some (.cells obj0 44 (0, 0))) := Lib.hid (by rw [hw4]; exact heap_alloc_new _ _); clear hw4 tk1 _t)
            | ((with_reducible refine gate_store (t := 44) (p := 5) rfl ?_); refine put_event rfl 44 _ _ rfl wr.heap.size (objC a A5 c5) rfl rfl 44 obj0 G4.out (by kernel_rfl) rfl (obj_all _ _ _) wr.heap.size (Nat.le_refl _) ?_; intro w5 hb5 hB5 hs5 ho5; have G5 := Lib.hid hb5; have BR5 : Hid (Below wr.heap.size wr w5) := Lib.hid (B4.out.trans hB5); have B5 : Hid (Below w.heap.size w w5) := Lib.hid (BR.out.trans (BR5.out.mono BR.out.size)); have B35 : Hid (Below w3.heap.size w3 w5) := Lib.hid (B.out.trans (BR5.out.mono B.out.size)); obtain ⟨z0, _, _, _, _⟩ := obj_read hb5 (Below.refl _ _); clear hb5 hB5 hs5 ho5 x0 x1 x2 x3 x4 x5 x6 x7))
          refine (pname_calls a.f0 w5 (HG.out.below B5.out) rk HRK.out).mono ?_
          rintro e w6 ⟨rfl, hB6⟩
          have B56 := Lib.hid hB6
          have B6 := Lib.hid (B5.out.trans (hB6.mono B5.out.size))
          have B36 := Lib.hid (B35.out.trans (hB6.mono B35.out.size))
          clear hB6 z0
          obtain ⟨_, z1, _, _, _⟩ := obj_read G5.out B56.out
          cases rk with
          | false =>
            clear z1
            go_wp2_with (first
              | (refine run_event rfl (.buildSlice 27 1 _) rfl (.slice (some ⟨w6.heap.size, 0, none⟩) 1 1) (w6.alloc (.cells #[.int .i64 (j : Int)] 3)) (by kernel_rfl) ?_; intro wb hwb; have BB : Hid (Below w6.heap.size w6 wb) := Lib.hid (by rw [hwb]; exact alloc_below _ _); have GB : Hid (wb.heap[w6.heap.size]? = some (.cells #[.int .i64 (j : Int)] 3 (0, 0))) := Lib.hid (by rw [hwb]; exact heap_alloc_new _ _); clear hwb)
              | (go_at_call 85; refine (bad_calls (some ⟨w6.heap.size, 0, none⟩) 1 [(j : Int)] wb (C_one _ _ _ ((cell_row GB.out 0).trans rfl)) (by simp) (by simp)).mono ?_; rintro e wk hBad; obtain ⟨hB9, gg, rfl, hFl⟩ := hBad; have BD : Hid (BadPost [(j : Int)] wb (.returned (flawV gg)) wk) := Lib.hid ⟨hB9, gg, rfl, hFl⟩; clear hB9 hFl))
            go_ret
            rw [HHT.out _ (HHT2.out _ (badO_kind HRK.out))]
            exact FitsPost.bad (B6.out.trans (BB.out.mono B6.out.size)) BD.out
          | true =>
            go_wp2_with fail
            refine (pname_calls a.f1 w6 (HG.out.below B6.out) ro HRO.out).mono ?_
            rintro e w7 ⟨rfl, hB7⟩
            have B57 := Lib.hid (B56.out.trans (hB7.mono B56.out.size))
            have B7 := Lib.hid (B6.out.trans (hB7.mono B6.out.size))
            have B37 := Lib.hid (B36.out.trans (hB7.mono B36.out.size))
            clear hB7 z1
            obtain ⟨_, _, z5, _, _⟩ := obj_read G5.out B57.out
            cases ro with
            | false =>
              clear z5
              go_wp2_with (first
                | (refine run_event rfl (.buildSlice 27 1 _) rfl (.slice (some ⟨w7.heap.size, 0, none⟩) 1 1) (w7.alloc (.cells #[.int .i64 (j : Int)] 3)) (by kernel_rfl) ?_; intro wb hwb; have BB : Hid (Below w7.heap.size w7 wb) := Lib.hid (by rw [hwb]; exact alloc_below _ _); have GB : Hid (wb.heap[w7.heap.size]? = some (.cells #[.int .i64 (j : Int)] 3 (0, 0))) := Lib.hid (by rw [hwb]; exact heap_alloc_new _ _); clear hwb)
                | (go_at_call 85; refine (bad_calls (some ⟨w7.heap.size, 0, none⟩) 1 [(j : Int)] wb (C_one _ _ _ ((cell_row GB.out 0).trans rfl)) (by simp) (by simp)).mono ?_; rintro e wk hBad; obtain ⟨hB9, gg, rfl, hFl⟩ := hBad; have BD : Hid (BadPost [(j : Int)] wb (.returned (flawV gg)) wk) := Lib.hid ⟨hB9, gg, rfl, hFl⟩; clear hB9 hFl))
              go_ret
              rw [HHT.out _ (HHT2.out _ (badO_name HRO.out))]
              exact FitsPost.bad (B7.out.trans (BB.out.mono B7.out.size)) BD.out
            | true =>
              have z8 : w7.cell? ⟨w2.heap.size, 0, none⟩ = some (.func (.func 86) #[] #[.pointer (some ⟨w2.heap.size, 0, none⟩)]) := (B37.out.cell (World.block_lt_of_cell? w3 _ F3.out)).trans F3.out
              go_wp2_with (first
                | (refine run_event rfl (.buildSlice 27 1 _) rfl (.slice (some ⟨w7.heap.size, 0, none⟩) 1 1) (w7.alloc (.cells #[.int .i64 (j : Int)] 3)) (by kernel_rfl) ?_; intro w8 hw8; have B78 : Hid (Below w7.heap.size w7 w8) := Lib.hid (by rw [hw8]; exact alloc_below _ _); have G8 : Hid (w8.heap[w7.heap.size]? = some (.cells #[.int .i64 (j : Int)] 3 (0, 0))) := Lib.hid (by rw [hw8]; exact heap_alloc_new _ _); clear hw8))
              have B8 := Lib.hid (B7.out.trans (B78.out.mono B7.out.size))
              have z9 : w8.cell? ⟨w2.heap.size, 0, none⟩ = some (funV w2.heap.size) := (B78.out.cell (World.block_lt_of_cell? w7 _ z8)).trans z8
              refine (fits1_calls (cntL a.f3) a.f3 [(j : Int)] A5 (some ⟨w7.heap.size, 0, none⟩) c5 1 w2.heap.size w8 (Nat.le_refl _) (Kd.C_below HC5.out B8.out) l5 (C_one _ _ _ ((cell_row G8.out 0).trans rfl)) (by simp) (by have := HT.out.cnt j a HX.out; simp; omega) (HT.out.wf j a HX.out) (HG.out.below B8.out) z9).mono ?_
              rintro e w9 hF9
              obtain ⟨rb, hrb⟩ : ∃ rb, badL a.f3 [(j : Int)] 0 1 = rb := ⟨_, rfl⟩
              rw [show ([(j : Int)] : List Int).length = 1 from rfl, hrb] at hF9
              have HRB := Lib.hid hrb
              clear hrb z5 z8 z9
              cases rb with
              | some qq =>
                obtain ⟨hB9, gg, rfl, hFl⟩ := hF9
                have HFl := Lib.hid hFl
                have B9 := Lib.hid hB9
                clear hFl hB9
                unfold flawV
                go_wp2_with fail
                go_ret
                rw [HHT.out _ (HHT2.out _ (badO_in HRK.out HRO.out HRB.out))]
                exact ⟨B8.out.trans (B9.out.mono B8.out.size), gg, rfl, HFl.out.lower B8.out.size⟩
              | none =>
                obtain ⟨hB9, rfl⟩ := hF9
                have B9 := Lib.hid (B8.out.trans (hB9.mono B8.out.size))
                have B59 := Lib.hid (B57.out.trans ((B78.out.trans (hB9.mono B78.out.size)).mono B57.out.size))
                have B39 := Lib.hid (B37.out.trans ((B78.out.trans (hB9.mono B78.out.size)).mono B37.out.size))
                clear hB9
                obtain ⟨_, _, _, z6, z7⟩ := obj_read G5.out B59.out
                obtain ⟨rt, hrt⟩ : ∃ rt, noteB a.f4 a.f5 = rt := ⟨_, rfl⟩
                have HRT := Lib.hid hrt
                clear hrt
                go_wp2_with fail
                refine (pnote_calls a.f4 a.f5 w9 (HG.out.below B9.out) rt HRT.out).mono ?_
                rintro e w10 ⟨rfl, hB10⟩
                have B10 := Lib.hid (B9.out.trans (hB10.mono B9.out.size))
                have B310 := Lib.hid (B39.out.trans (hB10.mono B39.out.size))
                clear hB10 z6 z7
                cases rt with
                | false =>
                  go_wp2_with (first
                    | (refine run_event rfl (.buildSlice 27 1 _) rfl (.slice (some ⟨w10.heap.size, 0, none⟩) 1 1) (w10.alloc (.cells #[.int .i64 (j : Int)] 3)) (by kernel_rfl) ?_; intro wb hwb; have BB : Hid (Below w10.heap.size w10 wb) := Lib.hid (by rw [hwb]; exact alloc_below _ _); have GB : Hid (wb.heap[w10.heap.size]? = some (.cells #[.int .i64 (j : Int)] 3 (0, 0))) := Lib.hid (by rw [hwb]; exact heap_alloc_new _ _); clear hwb)
                    | (go_at_call 85; refine (bad_calls (some ⟨w10.heap.size, 0, none⟩) 1 [(j : Int)] wb (C_one _ _ _ ((cell_row GB.out 0).trans rfl)) (by simp) (by simp)).mono ?_; rintro e wk hBad; obtain ⟨hB9, gg, rfl, hFl⟩ := hBad; have BD : Hid (BadPost [(j : Int)] wb (.returned (flawV gg)) wk) := Lib.hid ⟨hB9, gg, rfl, hFl⟩; clear hB9 hFl))
                  go_ret
                  rw [HHT.out _ (HHT2.out _ (badO_note HRK.out HRO.out HRB.out HRT.out))]
                  exact FitsPost.bad (B10.out.trans (BB.out.mono B10.out.size)) BD.out
                | true =>
                  have HNX := Lib.hid (HHN.out (badO_none HRK.out HRO.out HRB.out HRT.out))
                  go_wp2_with fail
                  exact ⟨⟨j + 1, by go_num, by omega, HNX, B310⟩, by simp [intOf]; omega⟩
        · obtain rfl : j = t.f2.length := by omega
          have HN : Hid (badOs t.f2 0 = none) := Lib.hid (by rw [← RL.out, List.drop_eq_nil_of_le (Nat.le_refl _)]; rfl)
          obtain ⟨_, _, _, y3, y4⟩ := tree_read G0.out (B03.out.trans (B.out.mono B03.out.size))
          obtain ⟨rt, hrt⟩ : ∃ rt, noteB t.f3 t.f4 = rt := ⟨_, rfl⟩
          have HRT := Lib.hid hrt
          clear hrt RL
          go_wp2_with fail
          refine (pnote_calls t.f3 t.f4 wr (HG.out.below BR.out) rt HRT.out).mono ?_
          rintro e w4 ⟨rfl, hB4⟩
          have B4 := Lib.hid (BR.out.trans (hB4.mono BR.out.size))
          clear hB4 y3 y4
          cases rt with
          | false =>
            go_wp2_with (first
              | (go_at_call 85; refine (bad_nil w4).mono ?_; rintro e wk hBad; obtain ⟨hB9, gg, rfl, hFl⟩ := hBad; have BD : Hid (BadPost [] w4 (.returned (flawV gg)) wk) := Lib.hid ⟨hB9, gg, rfl, hFl⟩; clear hB9 hFl))
            go_ret
            rw [badT_note HRS.out HRN.out HN.out HRT.out]
            exact FitsPost.bad B4.out BD.out
          | true =>
            go_wp2_with fail
            go_ret
            rw [badT_none HRS.out HRN.out HN.out HRT.out]
            exact ⟨B4.out, rfl⟩
end Go.Proofs.YtmfejjlmflgnbaaGreatDoor.Tok

/- CONTRACTS: package schema's alike, Write$1; slices.EqualFunc at both. -/
import Derived.Test.YtmfejjlmflgnbaaGreatDoorZVal
namespace Go.Proofs.YtmfejjlmflgnbaaGreatDoor.Sc
open Go.RowKit Go.Proofs.YtmfejjlmflgnbaaGreatDoor.PA Go.Proofs.YtmfejjlmflgnbaaGreatDoorW.PrintWords Go.Proofs.YtmfejjlmflgnbaaGreatDoorW.PrintLast Go.Proofs.YtmfejjlmflgnbaaGreatDoor.Sp Go.Proofs.YtmfejjlmflgnbaaGreatDoor.Tr Go.Proofs.YtmfejjlmflgnbaaGreatDoor.Tok
set_option linter.unusedVariables false
set_option linter.unusedSimpArgs false
set_option maxRecDepth 100000

def item0' : Array Value := #[.string ⟨#[]⟩, .string ⟨#[]⟩, .int .i64 0, .int .i64 0, .int .i64 0, .slice none 0 0]
def itemC (x : SI) (v : Value) : Array Value := #[.string x.kind, .string x.name, .int .i64 x.spot.f0, .int .i64 x.spot.f1, .int .i64 x.spot.f2, v]
theorem item_all (x : SI) (A : Option Addr) (n c : Nat) : (itemC x (.slice A n c)).all (·.oneCell') = true := by simp [itemC, Value.oneCell']
theorem same_e (x y : SE) : sameE false x y = (decide (x.name = y.name) && (x.num == y.num) && (x.auto == y.auto) && decide (x.word = y.word) && sameEs false x.params y.params) := by
  cases x; cases y
  simp [sameE]
theorem same_i (x y : SI) : sameI false x y = (decide (x.kind = y.kind) && decide (x.name = y.name) && sameEs false x.ents y.ents) := by
  simp [sameI]
theorem same_len : ∀ (a b : List SE), a.length ≠ b.length → sameEs false a b = false
  | [], [], h => absurd rfl h
  | [], y :: b, _ => by simp [sameEs]
  | x :: a, [], _ => by simp [sameEs]
  | x :: a, y :: b, h => by
    rw [sameEs, same_len a b (by simpa using h), Bool.and_false]
theorem sames_len : ∀ (a b : List SI), a.length ≠ b.length → sameIs false a b = false
  | [], [], h => absurd rfl h
  | [], y :: b, _ => by simp [sameIs]
  | x :: a, [], _ => by simp [sameIs]
  | x :: a, y :: b, h => by
    rw [sameIs, sames_len a b (by simpa using h), Bool.and_false]
theorem same_at {a b : List SE} {j : Nat} {x y : SE} (ha : a[j]? = some x) (hb : b[j]? = some y) : sameEs false (a.drop j) (b.drop j) = (sameE false x y && sameEs false (a.drop (j + 1)) (b.drop (j + 1))) := by
  obtain ⟨h1, rfl⟩ := List.getElem?_eq_some_iff.1 ha
  obtain ⟨h2, rfl⟩ := List.getElem?_eq_some_iff.1 hb
  rw [List.drop_eq_getElem_cons h1, List.drop_eq_getElem_cons h2]
  simp [sameEs]
theorem sames_at {a b : List SI} {j : Nat} {x y : SI} (ha : a[j]? = some x) (hb : b[j]? = some y) : sameIs false (a.drop j) (b.drop j) = (sameI false x y && sameIs false (a.drop (j + 1)) (b.drop (j + 1))) := by
  obtain ⟨h1, rfl⟩ := List.getElem?_eq_some_iff.1 ha
  obtain ⟨h2, rfl⟩ := List.getElem?_eq_some_iff.1 hb
  rw [List.drop_eq_getElem_cons h1, List.drop_eq_getElem_cons h2]
  simp [sameIs]
theorem ent_at' (l : List SE) (j : Nat) (e : SE) (h : l[j]? = some e) : rd_Ent l (j : Int) = e := by
  unfold rd_Ent
  rw [Int.toNat_natCast, List.getD_eq_getElem?_getD, h]
  rfl
theorem item_at' (l : List SI) (j : Nat) (e : SI) (h : l[j]? = some e) : rd_Item l (j : Int) = e := by
  unfold rd_Item
  rw [Int.toNat_natCast, List.getD_eq_getElem?_getD, h]
  rfl
/-- alike, for lists of a size. -/
def AlC (m : Nat) : Prop :=
  ∀ (a b : List SE) (A : Option Addr) (c : Nat) (B : Option Addr) (d : Nat) (w : World) (r : Bool), szEs b ≤ m → szEs b ≤ 1073741824 → Kd.C kEnt w A a.length a → Kd.C kEnt w B b.length b → sameEs false a b = r →
    Calls Tryz.prog 79 #[.slice A a.length c, .slice B b.length d] w fun e w' => e = .returned (.bool r) ∧ Below w.heap.size w w'
set_option maxHeartbeats 8000000 in
theorem eqe_calls (a b : List SE) (A : Option Addr) (c : Nat) (B : Option Addr) (d : Nat) (w : World) (r : Bool) (hl : b.length ≤ 1073741824) (hA : Kd.C kEnt w A a.length a) (hB : Kd.C kEnt w B b.length b) (hr : sameEs false a b = r)
    (hF : ∀ (x y : SE) (A7 : Option Addr) (c7 : Nat) (B7 : Option Addr) (d7 : Nat) (W : World) (q : Bool), y ∈ b → Below w.heap.size w W → Kd.C kEnt W A7 x.params.length x.params → Kd.C kEnt W B7 y.params.length y.params → sameE false x y = q → Calls Tryz.prog 116 #[.agg (entC x (.slice A7 x.params.length c7)), .agg (entC y (.slice B7 y.params.length d7))] W fun e w' => e = .returned (.bool q) ∧ Below W.heap.size W w') :
    Calls Tryz.prog 115 #[.slice A a.length c, .slice B b.length d, .func (.func 116) #[] #[]] w fun e w' => e = .returned (.bool r) ∧ Below w.heap.size w w' := by
  have HA := Lib.hid hA
  have HB := Lib.hid hB
  have HF := Lib.hid hF
  have HR := Lib.hid hr
  clear hA hB hF hr
  obtain ⟨n, hn⟩ : ∃ n, a.length = n := ⟨_, rfl⟩
  rw [hn] at HA ⊢
  have HN := Lib.hid hn
  clear hn
  obtain ⟨n2, hn2⟩ : ∃ n2, b.length = n2 := ⟨_, rfl⟩
  rw [hn2] at HB hl ⊢
  have HN2 := Lib.hid hn2
  clear hn2
  go_enter Tryz.func115, Tryz.ntmps115
  by_cases he : n = n2
  · subst he
    go_wp2_with fail
    go_loopw [17] (fun v wr => ∃ j : Nat, v = .int .i64 (j : Int) ∧ j ≤ n ∧ Hid (sameEs false (a.drop j) (b.drop j) = r) ∧ Hid (Below w.heap.size w wr)) (fun v _ => n - (intOf v).toNat)
    case atStart => exact ⟨0, by go_num, by omega, Lib.hid (by rw [List.drop_zero, List.drop_zero]; exact HR.out), Lib.hid (Below.refl _ _)⟩
    case round =>
      obtain ⟨j, rfl, hj, HJ, BL⟩ := hrel
      by_cases hlt : j < n
      · have hx : a[j]? = some (a[j]'(by rw [HN.out]; exact hlt)) := List.getElem?_eq_getElem _
        have hy : b[j]? = some (b[j]'(by rw [HN2.out]; exact hlt)) := List.getElem?_eq_getElem _
        have hsame := same_at hx hy
        obtain ⟨ad, A7, c7, eA, x0, x1, x2, x3, x4, x5, x6, x7, l7, C7⟩ := at_Ent (Kd.C_below HA.out BL.out) (j : Int) (by omega) (by omega)
        obtain ⟨bd, B7, d7, eB, y0, y1, y2, y3, y4, y5, y6, y7, m7, D7⟩ := at_Ent (Kd.C_below HB.out BL.out) (j : Int) (by omega) (by omega)
        rw [ent_at' a j _ hx] at x0 x1 x2 x3 x4 x5 x6 x7 l7 C7
        rw [ent_at' b j _ hy] at y0 y1 y2 y3 y4 y5 y6 y7 m7 D7
        have HMEM : Hid ((b[j]'(by rw [HN2.out]; exact hlt)) ∈ b) := Lib.hid (List.getElem_mem _)
        generalize (a[j]'(by rw [HN.out]; exact hlt)) = x at hx x0 x1 x2 x3 x4 x5 x6 x7 l7 C7 hsame
        generalize (b[j]'(by rw [HN2.out]; exact hlt)) = y at hy y0 y1 y2 y3 y4 y5 y6 y7 m7 D7 hsame HMEM
        cases eA
        cases eB
        have HC7 := Lib.hid C7
        have HD7 := Lib.hid D7
        obtain ⟨q, hq⟩ : ∃ q, sameE false x y = q := ⟨_, rfl⟩
        rw [hq] at hsame
        have HS := Lib.hid hsame
        have HQ := Lib.hid hq
        clear hx hy C7 l7 D7 m7 hsame hq
        simp only [Int.toNat_natCast] at x0 x1 x2 x3 x4 x5 x6 x7 y0 y1 y2 y3 y4 y5 y6 y7
        have tk1 : True := trivial
        go_upto_region 6 with (first
          | (have _t := tk1; refine run_event rfl (.alloc 80) rfl (.pointer (some ⟨wr.heap.size, 0, none⟩)) (wr.alloc (.cells ent0 80)) (by kernel_rfl) ?_; intro w4 hw4; have B4 : Hid (Below wr.heap.size wr w4) := Lib.hid (by rw [hw4]; exact alloc_below _ _); have E4 : Hid (w4.heap[wr.heap.size]? = some (.cells ent0 80 (0, 0))) := Lib.hid (by rw [hw4]; exact heap_alloc_new _ _); clear hw4 tk1 _t)
          | ((with_reducible refine gate_store (t := 80) (p := 8) rfl ?_); refine put_event rfl 80 _ _ rfl wr.heap.size (entC x (.slice A7 x.params.length c7)) rfl rfl 80 ent0 E4.out (by kernel_rfl) rfl (ent_all _ _ _ _) wr.heap.size (Nat.le_refl _) ?_; intro w5 hb5 hB5 hs5 ho5; have E5 := Lib.hid hb5; have B5 : Hid (Below wr.heap.size wr w5) := Lib.hid (B4.out.trans hB5); clear hb5 hB5 hs5 ho5 x0 x1 x2 x3 x4 x5 x6 x7))
        clear B4 E4
        have z0 := fun (p : Addr) (v : Value) (h : wr.cell? p = some v) => (B5.out.cell (World.block_lt_of_cell? wr _ h)).trans h
        have y0 := z0 _ _ y0; have y1 := z0 _ _ y1; have y2 := z0 _ _ y2; have y3 := z0 _ _ y3; have y4 := z0 _ _ y4; have y5 := z0 _ _ y5; have y6 := z0 _ _ y6; have y7 := z0 _ _ y7
        clear z0
        have tk1 : True := trivial
        go_upto_region 7 with (first
          | (have _t := tk1; refine run_event rfl (.alloc 80) rfl (.pointer (some ⟨w5.heap.size, 0, none⟩)) (w5.alloc (.cells ent0 80)) (by kernel_rfl) ?_; intro w6 hw4; have B6 : Hid (Below w5.heap.size w5 w6) := Lib.hid (by rw [hw4]; exact alloc_below _ _); have E6 : Hid (w6.heap[w5.heap.size]? = some (.cells ent0 80 (0, 0))) := Lib.hid (by rw [hw4]; exact heap_alloc_new _ _); clear hw4 tk1 _t)
          | ((with_reducible refine gate_store (t := 80) (p := 9) rfl ?_); refine put_event rfl 80 _ _ rfl w5.heap.size (entC y (.slice B7 y.params.length d7)) rfl rfl 80 ent0 E6.out (by kernel_rfl) rfl (ent_all _ _ _ _) w5.heap.size (Nat.le_refl _) ?_; intro w7 hb5 hB5 hs5 ho5; have E7 := Lib.hid hb5; have B7w : Hid (Below w5.heap.size w5 w7) := Lib.hid (B6.out.trans hB5); clear hb5 hB5 hs5 ho5 y0 y1 y2 y3 y4 y5 y6 y7))
        clear B6 E6
        have X7 := Lib.hid ((B7w.out.block wr.heap.size (Array.getElem?_eq_some_iff.1 E5.out).1).trans E5.out)
        have B07 : Hid (Below wr.heap.size wr w7) := Lib.hid (B5.out.trans (B7w.out.mono B5.out.size))
        have BL7 : Hid (Below w.heap.size w w7) := Lib.hid (BL.out.trans (B07.out.mono BL.out.size))
        have HCL := Lib.hid (HF.out x y A7 c7 B7 d7 w7 q HMEM.out BL7.out (Kd.C_below HC7.out B07.out) (Kd.C_below HD7.out B07.out) HQ.out)
        unfold entC at HCL
        have x0 : w7.cell? ⟨wr.heap.size, 0, none⟩ = some (.string x.name) := (cell_row X7.out 0).trans rfl
        have x1 : w7.cell? ⟨wr.heap.size, 1, none⟩ = some (.int .i64 x.spot.f0) := (cell_row X7.out 1).trans rfl
        have x2 : w7.cell? ⟨wr.heap.size, 2, none⟩ = some (.int .i64 x.spot.f1) := (cell_row X7.out 2).trans rfl
        have x3 : w7.cell? ⟨wr.heap.size, 3, none⟩ = some (.int .i64 x.spot.f2) := (cell_row X7.out 3).trans rfl
        have x4 : w7.cell? ⟨wr.heap.size, 4, none⟩ = some (.int .u32 x.num) := (cell_row X7.out 4).trans rfl
        have x5 : w7.cell? ⟨wr.heap.size, 5, none⟩ = some (.bool x.auto) := (cell_row X7.out 5).trans rfl
        have x6 : w7.cell? ⟨wr.heap.size, 6, none⟩ = some (.string x.word) := (cell_row X7.out 6).trans rfl
        have x7 : w7.cell? ⟨wr.heap.size, 7, none⟩ = some (.slice A7 x.params.length c7) := (cell_row X7.out 7).trans rfl
        have y0 : w7.cell? ⟨w5.heap.size, 0, none⟩ = some (.string y.name) := (cell_row E7.out 0).trans rfl
        have y1 : w7.cell? ⟨w5.heap.size, 1, none⟩ = some (.int .i64 y.spot.f0) := (cell_row E7.out 1).trans rfl
        have y2 : w7.cell? ⟨w5.heap.size, 2, none⟩ = some (.int .i64 y.spot.f1) := (cell_row E7.out 2).trans rfl
        have y3 : w7.cell? ⟨w5.heap.size, 3, none⟩ = some (.int .i64 y.spot.f2) := (cell_row E7.out 3).trans rfl
        have y4 : w7.cell? ⟨w5.heap.size, 4, none⟩ = some (.int .u32 y.num) := (cell_row E7.out 4).trans rfl
        have y5 : w7.cell? ⟨w5.heap.size, 5, none⟩ = some (.bool y.auto) := (cell_row E7.out 5).trans rfl
        have y6 : w7.cell? ⟨w5.heap.size, 6, none⟩ = some (.string y.word) := (cell_row E7.out 6).trans rfl
        have y7 : w7.cell? ⟨w5.heap.size, 7, none⟩ = some (.slice B7 y.params.length d7) := (cell_row E7.out 7).trans rfl
        clear E5 B5 B7w X7 E7
        cases q with
        | true =>
          go_wp2_with (first
            | (go_at_call 116; refine HCL.out.mono ?_; rintro e w8 ⟨rfl, hB8⟩; have B8 : Hid (Below w.heap.size w w8) := Lib.hid (BL7.out.trans (hB8.mono BL7.out.size)); clear hB8))
          exact ⟨⟨j + 1, by go_num, by omega, Lib.hid (by rw [← HJ.out, HS.out, Bool.true_and]), B8⟩, by simp [intOf]; omega⟩
        | false =>
          go_wp2_with (first
            | (go_at_call 116; refine HCL.out.mono ?_; rintro e w8 ⟨rfl, hB8⟩; have B8 : Hid (Below w.heap.size w w8) := Lib.hid (BL7.out.trans (hB8.mono BL7.out.size)); clear hB8))
          go_ret
          exact ⟨by rw [← HJ.out, HS.out, Bool.false_and]; rfl, B8.out⟩
      · obtain rfl : j = n := by omega
        have HE : Hid (r = true) := Lib.hid (by rw [← HJ.out, List.drop_eq_nil_of_le (by rw [HN.out]; exact Nat.le_refl _), List.drop_eq_nil_of_le (by rw [HN2.out]; exact Nat.le_refl _)]; rfl)
        go_wp2_with fail
        go_ret
        exact ⟨by rw [HE.out]; rfl, BL.out⟩
  · have hne : ((n : Int) != (n2 : Int)) = true := by simp; omega
    have HE : Hid (r = false) := Lib.hid (by rw [← HR.out]; exact same_len a b (by rw [HN.out, HN2.out]; exact he))
    clear he
    go_wp2_with fail
    go_ret
    exact ⟨by rw [HE.out]; rfl, Below.refl _ _⟩
set_option maxHeartbeats 8000000 in
theorem eqi_calls (a b : List SI) (A : Option Addr) (c : Nat) (B : Option Addr) (d : Nat) (w : World) (r : Bool) (hl : b.length ≤ 1073741824) (hA : Kd.C kItem w A a.length a) (hB : Kd.C kItem w B b.length b) (hr : sameIs false a b = r)
    (hF : ∀ (x y : SI) (A7 : Option Addr) (c7 : Nat) (B7 : Option Addr) (d7 : Nat) (W : World) (q : Bool), y ∈ b → Below w.heap.size w W → Kd.C kEnt W A7 x.ents.length x.ents → Kd.C kEnt W B7 y.ents.length y.ents → sameI false x y = q → Calls Tryz.prog 78 #[.agg (itemC x (.slice A7 x.ents.length c7)), .agg (itemC y (.slice B7 y.ents.length d7))] W fun e w' => e = .returned (.bool q) ∧ Below W.heap.size W w') :
    Calls Tryz.prog 77 #[.slice A a.length c, .slice B b.length d, .func (.func 78) #[] #[]] w fun e w' => e = .returned (.bool r) ∧ Below w.heap.size w w' := by
  have HA := Lib.hid hA
  have HB := Lib.hid hB
  have HF := Lib.hid hF
  have HR := Lib.hid hr
  clear hA hB hF hr
  obtain ⟨n, hn⟩ : ∃ n, a.length = n := ⟨_, rfl⟩
  rw [hn] at HA ⊢
  have HN := Lib.hid hn
  clear hn
  obtain ⟨n2, hn2⟩ : ∃ n2, b.length = n2 := ⟨_, rfl⟩
  rw [hn2] at HB hl ⊢
  have HN2 := Lib.hid hn2
  clear hn2
  go_enter Tryz.func77, Tryz.ntmps77
  by_cases he : n = n2
  · subst he
    go_wp2_with fail
    go_loopw [17] (fun v wr => ∃ j : Nat, v = .int .i64 (j : Int) ∧ j ≤ n ∧ Hid (sameIs false (a.drop j) (b.drop j) = r) ∧ Hid (Below w.heap.size w wr)) (fun v _ => n - (intOf v).toNat)
    case atStart => exact ⟨0, by go_num, by omega, Lib.hid (by rw [List.drop_zero, List.drop_zero]; exact HR.out), Lib.hid (Below.refl _ _)⟩
    case round =>
      obtain ⟨j, rfl, hj, HJ, BL⟩ := hrel
      by_cases hlt : j < n
      · have hx : a[j]? = some (a[j]'(by rw [HN.out]; exact hlt)) := List.getElem?_eq_getElem _
        have hy : b[j]? = some (b[j]'(by rw [HN2.out]; exact hlt)) := List.getElem?_eq_getElem _
        have hsame := sames_at hx hy
        obtain ⟨ad, A7, c7, eA, x0, x1, x2, x3, x4, x5, l7, C7⟩ := at_Item (Kd.C_below HA.out BL.out) (j : Int) (by omega) (by omega)
        obtain ⟨bd, B7, d7, eB, y0, y1, y2, y3, y4, y5, m7, D7⟩ := at_Item (Kd.C_below HB.out BL.out) (j : Int) (by omega) (by omega)
        rw [item_at' a j _ hx] at x0 x1 x2 x3 x4 x5 l7 C7
        rw [item_at' b j _ hy] at y0 y1 y2 y3 y4 y5 m7 D7
        have HMEM : Hid ((b[j]'(by rw [HN2.out]; exact hlt)) ∈ b) := Lib.hid (List.getElem_mem _)
        generalize (a[j]'(by rw [HN.out]; exact hlt)) = x at hx x0 x1 x2 x3 x4 x5 l7 C7 hsame
        generalize (b[j]'(by rw [HN2.out]; exact hlt)) = y at hy y0 y1 y2 y3 y4 y5 m7 D7 hsame HMEM
        cases eA
        cases eB
        have HC7 := Lib.hid C7
        have HD7 := Lib.hid D7
        obtain ⟨q, hq⟩ : ∃ q, sameI false x y = q := ⟨_, rfl⟩
        rw [hq] at hsame
        have HS := Lib.hid hsame
        have HQ := Lib.hid hq
        clear hx hy C7 l7 D7 m7 hsame hq
        simp only [Int.toNat_natCast] at x0 x1 x2 x3 x4 x5 y0 y1 y2 y3 y4 y5
        have tk1 : True := trivial
        go_upto_region 6 with (first
          | (have _t := tk1; refine run_event rfl (.alloc 78) rfl (.pointer (some ⟨wr.heap.size, 0, none⟩)) (wr.alloc (.cells item0' 78)) (by kernel_rfl) ?_; intro w4 hw4; have B4 : Hid (Below wr.heap.size wr w4) := Lib.hid (by rw [hw4]; exact alloc_below _ _); have E4 : Hid (w4.heap[wr.heap.size]? = some (.cells item0' 78 (0, 0))) := Lib.hid (by rw [hw4]; exact heap_alloc_new _ _); clear hw4 tk1 _t)
          | ((with_reducible refine gate_store (t := 78) (p := 8) rfl ?_); refine put_event rfl 78 _ _ rfl wr.heap.size (itemC x (.slice A7 x.ents.length c7)) rfl rfl 78 item0' E4.out (by kernel_rfl) rfl (item_all _ _ _ _) wr.heap.size (Nat.le_refl _) ?_; intro w5 hb5 hB5 hs5 ho5; have E5 := Lib.hid hb5; have B5 : Hid (Below wr.heap.size wr w5) := Lib.hid (B4.out.trans hB5); clear hb5 hB5 hs5 ho5 x0 x1 x2 x3 x4 x5))
        clear B4 E4
        have z0 := fun (p : Addr) (v : Value) (h : wr.cell? p = some v) => (B5.out.cell (World.block_lt_of_cell? wr _ h)).trans h
        have y0 := z0 _ _ y0; have y1 := z0 _ _ y1; have y2 := z0 _ _ y2; have y3 := z0 _ _ y3; have y4 := z0 _ _ y4; have y5 := z0 _ _ y5
        clear z0
        have tk1 : True := trivial
        go_upto_region 7 with (first
          | (have _t := tk1; refine run_event rfl (.alloc 78) rfl (.pointer (some ⟨w5.heap.size, 0, none⟩)) (w5.alloc (.cells item0' 78)) (by kernel_rfl) ?_; intro w6 hw4; have B6 : Hid (Below w5.heap.size w5 w6) := Lib.hid (by rw [hw4]; exact alloc_below _ _); have E6 : Hid (w6.heap[w5.heap.size]? = some (.cells item0' 78 (0, 0))) := Lib.hid (by rw [hw4]; exact heap_alloc_new _ _); clear hw4 tk1 _t)
          | ((with_reducible refine gate_store (t := 78) (p := 9) rfl ?_); refine put_event rfl 78 _ _ rfl w5.heap.size (itemC y (.slice B7 y.ents.length d7)) rfl rfl 78 item0' E6.out (by kernel_rfl) rfl (item_all _ _ _ _) w5.heap.size (Nat.le_refl _) ?_; intro w7 hb5 hB5 hs5 ho5; have E7 := Lib.hid hb5; have B7w : Hid (Below w5.heap.size w5 w7) := Lib.hid (B6.out.trans hB5); clear hb5 hB5 hs5 ho5 y0 y1 y2 y3 y4 y5))
        clear B6 E6
        have X7 := Lib.hid ((B7w.out.block wr.heap.size (Array.getElem?_eq_some_iff.1 E5.out).1).trans E5.out)
        have B07 : Hid (Below wr.heap.size wr w7) := Lib.hid (B5.out.trans (B7w.out.mono B5.out.size))
        have BL7 : Hid (Below w.heap.size w w7) := Lib.hid (BL.out.trans (B07.out.mono BL.out.size))
        have HCL := Lib.hid (HF.out x y A7 c7 B7 d7 w7 q HMEM.out BL7.out (Kd.C_below HC7.out B07.out) (Kd.C_below HD7.out B07.out) HQ.out)
        unfold itemC at HCL
        have x0 : w7.cell? ⟨wr.heap.size, 0, none⟩ = some (.string x.kind) := (cell_row X7.out 0).trans rfl
        have x1 : w7.cell? ⟨wr.heap.size, 1, none⟩ = some (.string x.name) := (cell_row X7.out 1).trans rfl
        have x2 : w7.cell? ⟨wr.heap.size, 2, none⟩ = some (.int .i64 x.spot.f0) := (cell_row X7.out 2).trans rfl
        have x3 : w7.cell? ⟨wr.heap.size, 3, none⟩ = some (.int .i64 x.spot.f1) := (cell_row X7.out 3).trans rfl
        have x4 : w7.cell? ⟨wr.heap.size, 4, none⟩ = some (.int .i64 x.spot.f2) := (cell_row X7.out 4).trans rfl
        have x5 : w7.cell? ⟨wr.heap.size, 5, none⟩ = some (.slice A7 x.ents.length c7) := (cell_row X7.out 5).trans rfl
        have y0 : w7.cell? ⟨w5.heap.size, 0, none⟩ = some (.string y.kind) := (cell_row E7.out 0).trans rfl
        have y1 : w7.cell? ⟨w5.heap.size, 1, none⟩ = some (.string y.name) := (cell_row E7.out 1).trans rfl
        have y2 : w7.cell? ⟨w5.heap.size, 2, none⟩ = some (.int .i64 y.spot.f0) := (cell_row E7.out 2).trans rfl
        have y3 : w7.cell? ⟨w5.heap.size, 3, none⟩ = some (.int .i64 y.spot.f1) := (cell_row E7.out 3).trans rfl
        have y4 : w7.cell? ⟨w5.heap.size, 4, none⟩ = some (.int .i64 y.spot.f2) := (cell_row E7.out 4).trans rfl
        have y5 : w7.cell? ⟨w5.heap.size, 5, none⟩ = some (.slice B7 y.ents.length d7) := (cell_row E7.out 5).trans rfl
        clear E5 B5 B7w X7 E7
        cases q with
        | true =>
          go_wp2_with (first
            | (go_at_call 78; refine HCL.out.mono ?_; rintro e w8 ⟨rfl, hB8⟩; have B8 : Hid (Below w.heap.size w w8) := Lib.hid (BL7.out.trans (hB8.mono BL7.out.size)); clear hB8))
          exact ⟨⟨j + 1, by go_num, by omega, Lib.hid (by rw [← HJ.out, HS.out, Bool.true_and]), B8⟩, by simp [intOf]; omega⟩
        | false =>
          go_wp2_with (first
            | (go_at_call 78; refine HCL.out.mono ?_; rintro e w8 ⟨rfl, hB8⟩; have B8 : Hid (Below w.heap.size w w8) := Lib.hid (BL7.out.trans (hB8.mono BL7.out.size)); clear hB8))
          go_ret
          exact ⟨by rw [← HJ.out, HS.out, Bool.false_and]; rfl, B8.out⟩
      · obtain rfl : j = n := by omega
        have HE : Hid (r = true) := Lib.hid (by rw [← HJ.out, List.drop_eq_nil_of_le (by rw [HN.out]; exact Nat.le_refl _), List.drop_eq_nil_of_le (by rw [HN2.out]; exact Nat.le_refl _)]; rfl)
        go_wp2_with fail
        go_ret
        exact ⟨by rw [HE.out]; rfl, BL.out⟩
  · have hne : ((n : Int) != (n2 : Int)) = true := by simp; omega
    have HE : Hid (r = false) := Lib.hid (by rw [← HR.out]; exact sames_len a b (by rw [HN.out, HN2.out]; exact he))
    clear he
    go_wp2_with fail
    go_ret
    exact ⟨by rw [HE.out]; rfl, Below.refl _ _⟩
set_option maxHeartbeats 8000000 in
theorem alike1_calls (m : Nat) (hI : AlC m) (x y : SE) (A7 : Option Addr) (c7 : Nat) (B7 : Option Addr) (d7 : Nat) (w : World) (r : Bool) (hm : szEs y.params ≤ m) (hl : szEs y.params ≤ 1073741824) (hA : Kd.C kEnt w A7 x.params.length x.params) (hB : Kd.C kEnt w B7 y.params.length y.params) (hr : sameE false x y = r) :
    Calls Tryz.prog 116 #[.agg (entC x (.slice A7 x.params.length c7)), .agg (entC y (.slice B7 y.params.length d7))] w fun e w' => e = .returned (.bool r) ∧ Below w.heap.size w w' := by
  rw [same_e] at hr
  have HI : Hid (∀ W q, Below w.heap.size w W → sameEs false x.params y.params = q → Calls Tryz.prog 79 #[.slice A7 x.params.length c7, .slice B7 y.params.length d7] W fun e w' => e = .returned (.bool q) ∧ Below W.heap.size W w') := Lib.hid (fun W q hW hq => hI _ _ _ _ _ _ W q hm hl (Kd.C_below hA hW) (Kd.C_below hB hW) hq)
  have HR := Lib.hid hr
  clear hI hm hl hA hB hr
  go_enter Tryz.func116, Tryz.ntmps116
  have tk1 : True := trivial
  have tk2 : True := trivial
  go_upto_region 1 with (first
    | (have _t := tk1; refine run_event rfl (.box 80 _) rfl (.pointer (some ⟨w.heap.size, 0, none⟩)) (w.alloc (.cells (entC x (.slice A7 x.params.length c7)) 80)) (by kernel_rfl) ?_; intro w1 hw1; have B1 : Hid (Below w.heap.size w w1) := Lib.hid (by rw [hw1]; exact alloc_below _ _); have E1 : Hid (w1.heap[w.heap.size]? = some (.cells (entC x (.slice A7 x.params.length c7)) 80 (0, 0))) := Lib.hid (by rw [hw1]; exact heap_alloc_new _ _); clear hw1 tk1 _t)
    | (have _t := tk2; refine run_event rfl (.box 80 _) rfl (.pointer (some ⟨w1.heap.size, 0, none⟩)) (w1.alloc (.cells (entC y (.slice B7 y.params.length d7)) 80)) (by kernel_rfl) ?_; intro w2 hw2; have B2 : Hid (Below w.heap.size w w2) := Lib.hid (B1.out.trans (by rw [hw2]; exact (alloc_below _ _).mono B1.out.size)); have E2 : Hid (w2.heap[w1.heap.size]? = some (.cells (entC y (.slice B7 y.params.length d7)) 80 (0, 0))) := Lib.hid (by rw [hw2]; exact heap_alloc_new _ _); have E12 : Hid (w2.heap[w.heap.size]? = some (.cells (entC x (.slice A7 x.params.length c7)) 80 (0, 0))) := Lib.hid (by rw [hw2]; exact ((alloc_below _ _).block _ (Array.getElem?_eq_some_iff.1 E1.out).1).trans E1.out); clear hw2 tk2 _t))
  clear B1 E1
  have x0 : w2.cell? ⟨w.heap.size, 0, none⟩ = some (.string x.name) := (cell_row E12.out 0).trans rfl
  have y0 : w2.cell? ⟨w1.heap.size, 0, none⟩ = some (.string y.name) := (cell_row E2.out 0).trans rfl
  by_cases h0 : x.name = y.name
  · rw [← h0] at y0
    have x4 : w2.cell? ⟨w.heap.size, 4, none⟩ = some (.int .u32 x.num) := (cell_row E12.out 4).trans rfl
    have y4 : w2.cell? ⟨w1.heap.size, 4, none⟩ = some (.int .u32 y.num) := (cell_row E2.out 4).trans rfl
    by_cases h4 : x.num = y.num
    · rw [← h4] at y4
      have x5 : w2.cell? ⟨w.heap.size, 5, none⟩ = some (.bool x.auto) := (cell_row E12.out 5).trans rfl
      have y5 : w2.cell? ⟨w1.heap.size, 5, none⟩ = some (.bool y.auto) := (cell_row E2.out 5).trans rfl
      by_cases h5 : x.auto = y.auto
      · rw [← h5] at y5
        have x6 : w2.cell? ⟨w.heap.size, 6, none⟩ = some (.string x.word) := (cell_row E12.out 6).trans rfl
        have y6 : w2.cell? ⟨w1.heap.size, 6, none⟩ = some (.string y.word) := (cell_row E2.out 6).trans rfl
        by_cases h6 : x.word = y.word
        · rw [← h6] at y6
          have x7 : w2.cell? ⟨w.heap.size, 7, none⟩ = some (.slice A7 x.params.length c7) := (cell_row E12.out 7).trans rfl
          have y7 : w2.cell? ⟨w1.heap.size, 7, none⟩ = some (.slice B7 y.params.length d7) := (cell_row E2.out 7).trans rfl
          have HQ : Hid (sameEs false x.params y.params = r) := Lib.hid (by
            have h := HR.out
            rw [h0, h4, h5, h6] at h
            simpa using h)
          clear h0 h4 h5 h6 HR
          go_wp2_with (first
            | (go_at_call 79; refine (HI.out w2 r B2.out HQ.out).mono ?_; rintro e w3 ⟨rfl, hB3⟩; have B3 : Hid (Below w.heap.size w w3) := Lib.hid (B2.out.trans (hB3.mono B2.out.size)); clear hB3))
          go_ret
          exact ⟨rfl, B3.out⟩
        · have HF : Hid (r = false) := Lib.hid (by rw [← HR.out]; simp [h6])
          have h6b : (x.word.toList == y.word.toList) = false := by rw [beq_str]; simp [h6]
          clear h0 h4 h5 h6
          go_wp2_with fail
          go_ret
          exact ⟨by rw [HF.out]; rfl, B2.out⟩
      · have HF : Hid (r = false) := Lib.hid (by rw [← HR.out]; simp [h5])
        have h5b : (x.auto == y.auto) = false := by simp [h5]
        clear h0 h4 h5
        go_wp2_with fail
        go_ret
        exact ⟨by rw [HF.out]; rfl, B2.out⟩
    · have HF : Hid (r = false) := Lib.hid (by rw [← HR.out]; simp [h4])
      have h4b : (x.num == y.num) = false := by simp [h4]
      clear h0 h4
      go_wp2_with fail
      go_ret
      exact ⟨by rw [HF.out]; rfl, B2.out⟩
  · have HF : Hid (r = false) := Lib.hid (by rw [← HR.out]; simp [h0])
    have h0b : (x.name.toList == y.name.toList) = false := by rw [beq_str]; simp [h0]
    clear h0
    go_wp2_with fail
    go_ret
    exact ⟨by rw [HF.out]; rfl, B2.out⟩
theorem alike_all (m : Nat) : AlC m := by
  induction m using Nat.strongRecOn with
  | _ m ih =>
    intro a b A c B d w r hm hl hA hB hr
    have HE := Lib.hid (eqe_calls a b A c B d w r (Nat.le_trans (szEs_len b) hl) hA hB hr (fun x y A7 c7 B7 d7 W q hx hW hC7 hD7 hq => by
      obtain ⟨j, hj⟩ := List.getElem?_of_mem hx
      have h1 := szEs_get b j y hj
      have h2 := szE_eq y
      have h3 := szEs_len y.params
      exact alike1_calls (szEs y.params) (ih _ (by omega)) x y A7 c7 B7 d7 W q (Nat.le_refl _) (by omega) hC7 hD7 hq))
    clear ih hA hB hr
    generalize a.length = na at *
    generalize b.length = nb at *
    go_enter Tryz.func79, Tryz.ntmps79
    go_wp2_with (first
      | (go_at_call 115; refine HE.out.mono ?_; rintro e w2 ⟨rfl, hB2⟩; have B2 := Lib.hid hB2; clear hB2))
    go_ret
    exact ⟨rfl, B2.out⟩
set_option maxHeartbeats 8000000 in
theorem write1_calls (x y : SI) (A7 : Option Addr) (c7 : Nat) (B7 : Option Addr) (d7 : Nat) (w : World) (r : Bool) (hl : szEs y.ents ≤ 1073741824) (hA : Kd.C kEnt w A7 x.ents.length x.ents) (hB : Kd.C kEnt w B7 y.ents.length y.ents) (hr : sameI false x y = r) :
    Calls Tryz.prog 78 #[.agg (itemC x (.slice A7 x.ents.length c7)), .agg (itemC y (.slice B7 y.ents.length d7))] w fun e w' => e = .returned (.bool r) ∧ Below w.heap.size w w' := by
  rw [same_i] at hr
  have HI : Hid (∀ W q, Below w.heap.size w W → sameEs false x.ents y.ents = q → Calls Tryz.prog 79 #[.slice A7 x.ents.length c7, .slice B7 y.ents.length d7] W fun e w' => e = .returned (.bool q) ∧ Below W.heap.size W w') := Lib.hid (fun W q hW hq => alike_all (szEs y.ents) _ _ _ _ _ _ W q (Nat.le_refl _) (by first | exact hl | exact Nat.le_trans (szEs_len _) hl) (Kd.C_below hA hW) (Kd.C_below hB hW) hq)
  have HR := Lib.hid hr
  clear hl hA hB hr
  go_enter Tryz.func78, Tryz.ntmps78
  have tk1 : True := trivial
  have tk2 : True := trivial
  go_upto_region 1 with (first
    | (have _t := tk1; refine run_event rfl (.box 78 _) rfl (.pointer (some ⟨w.heap.size, 0, none⟩)) (w.alloc (.cells (itemC x (.slice A7 x.ents.length c7)) 78)) (by kernel_rfl) ?_; intro w1 hw1; have B1 : Hid (Below w.heap.size w w1) := Lib.hid (by rw [hw1]; exact alloc_below _ _); have E1 : Hid (w1.heap[w.heap.size]? = some (.cells (itemC x (.slice A7 x.ents.length c7)) 78 (0, 0))) := Lib.hid (by rw [hw1]; exact heap_alloc_new _ _); clear hw1 tk1 _t)
    | (have _t := tk2; refine run_event rfl (.box 78 _) rfl (.pointer (some ⟨w1.heap.size, 0, none⟩)) (w1.alloc (.cells (itemC y (.slice B7 y.ents.length d7)) 78)) (by kernel_rfl) ?_; intro w2 hw2; have B2 : Hid (Below w.heap.size w w2) := Lib.hid (B1.out.trans (by rw [hw2]; exact (alloc_below _ _).mono B1.out.size)); have E2 : Hid (w2.heap[w1.heap.size]? = some (.cells (itemC y (.slice B7 y.ents.length d7)) 78 (0, 0))) := Lib.hid (by rw [hw2]; exact heap_alloc_new _ _); have E12 : Hid (w2.heap[w.heap.size]? = some (.cells (itemC x (.slice A7 x.ents.length c7)) 78 (0, 0))) := Lib.hid (by rw [hw2]; exact ((alloc_below _ _).block _ (Array.getElem?_eq_some_iff.1 E1.out).1).trans E1.out); clear hw2 tk2 _t))
  clear B1 E1
  have x0 : w2.cell? ⟨w.heap.size, 0, none⟩ = some (.string x.kind) := (cell_row E12.out 0).trans rfl
  have y0 : w2.cell? ⟨w1.heap.size, 0, none⟩ = some (.string y.kind) := (cell_row E2.out 0).trans rfl
  by_cases h0 : x.kind = y.kind
  · rw [← h0] at y0
    have x6 : w2.cell? ⟨w.heap.size, 1, none⟩ = some (.string x.name) := (cell_row E12.out 1).trans rfl
    have y6 : w2.cell? ⟨w1.heap.size, 1, none⟩ = some (.string y.name) := (cell_row E2.out 1).trans rfl
    by_cases h6 : x.name = y.name
    · rw [← h6] at y6
      have x7 : w2.cell? ⟨w.heap.size, 5, none⟩ = some (.slice A7 x.ents.length c7) := (cell_row E12.out 5).trans rfl
      have y7 : w2.cell? ⟨w1.heap.size, 5, none⟩ = some (.slice B7 y.ents.length d7) := (cell_row E2.out 5).trans rfl
      have HQ : Hid (sameEs false x.ents y.ents = r) := Lib.hid (by
        have h := HR.out
        rw [h0, h6] at h
        simpa using h)
      clear h0 h6 HR
      go_wp2_with (first
        | (go_at_call 79; refine (HI.out w2 r B2.out HQ.out).mono ?_; rintro e w3 ⟨rfl, hB3⟩; have B3 : Hid (Below w.heap.size w w3) := Lib.hid (B2.out.trans (hB3.mono B2.out.size)); clear hB3))
      go_ret
      exact ⟨rfl, B3.out⟩
    · have HF : Hid (r = false) := Lib.hid (by rw [← HR.out]; simp [h6])
      have h6b : (x.name.toList == y.name.toList) = false := by rw [beq_str]; simp [h6]
      clear h0 h6
      go_wp2_with fail
      go_ret
      exact ⟨by rw [HF.out]; rfl, B2.out⟩
  · have HF : Hid (r = false) := Lib.hid (by rw [← HR.out]; simp [h0])
    have h0b : (x.kind.toList == y.kind.toList) = false := by rw [beq_str]; simp [h0]
    clear h0
    go_wp2_with fail
    go_ret
    exact ⟨by rw [HF.out]; rfl, B2.out⟩
end Go.Proofs.YtmfejjlmflgnbaaGreatDoor.Sc

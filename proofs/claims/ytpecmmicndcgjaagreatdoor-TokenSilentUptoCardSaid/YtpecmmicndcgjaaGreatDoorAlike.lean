/- CONTRACTS: the reference's Alike and Same, where what is handed in is alike, or the same: they say so. -/
import Derived.Test.YtpecmmicndcgjaaGreatDoorScan
import Derived.Test.YtpecmmicndcgjaaGreatDoorJoin
import Derived.RegionTactic
import Derived.Outline
import Derived.Deep.RegionHeld3
namespace Go.Proofs.YtpecmmicndcgjaaGreatDoor.Tok
open Go.RowKit Go.Proofs.YtpecmmicndcgjaaGreatDoor.PA Go.Proofs.YtpecmmicndcgjaaGreatDoorW.PrintWords Go.Proofs.YtpecmmicndcgjaaGreatDoorW.PrintLast Go.Proofs.YtpecmmicndcgjaaGreatDoor.Sp
set_option linter.unusedVariables false
set_option linter.unusedSimpArgs false
set_option maxRecDepth 100000

/-- Two tokens that are alike but for their spots. -/
structure Like (x y : S34) : Prop where
  f0 : y.f0 = x.f0
  f2 : y.f2 = x.f2
  f3 : y.f3 = x.f3
  f4 : y.f4 = x.f4
def AliveB (l1 l2 : List S34) : Prop := l2.length = l1.length ∧ ∀ j, j < l1.length → Like (rd_T34 l1 (j : Int)) (rd_T34 l2 (j : Int))
theorem cell_alloc1 {w : World} {p : Addr} {v : Value} (h : w.cell? p = some v) (X : Obj) : (w.alloc X).cell? p = some v := by
  rw [World.cell?_alloc_lt _ _ p (World.block_lt_of_cell? w p h)]; exact h
theorem cell_alloc2 {w : World} {p : Addr} {v : Value} (h : w.cell? p = some v) (X Y : Obj) : ((w.alloc X).alloc Y).cell? p = some v := cell_alloc1 (cell_alloc1 h X) Y
set_option maxHeartbeats 4000000 in
theorem alike_calls (A1 A2 : Option Addr) (c1 c2 : Nat) (l1 l2 : List S34) (w : World) (h1 : Kd.C k34 w A1 l1.length l1) (h2 : Kd.C k34 w A2 l1.length l2) (hc1 : l1.length ≤ c1) (hc2 : l1.length ≤ c2) (hm : l1.length ≤ 1000000000) (hl : AliveB l1 l2) :
    Calls Tryz.prog 21 #[.slice A1 l1.length c1, .slice A2 l1.length c2] w fun e w' => e = .returned (.bool true) ∧ Below w.heap.size w w' := by
  have H1 := Lib.hid h1
  have H2 := Lib.hid h2
  have HL := Lib.hid hl
  clear h1 h2 hl
  obtain ⟨n, hn⟩ : ∃ n, n = l1.length := ⟨_, rfl⟩
  rw [← hn] at H1 H2 hc1 hc2 hm ⊢
  have HN := Lib.hid hn
  clear hn
  go_enter Tryz.func21, Tryz.ntmps21
  go_wp2
  go_loopw [5] (fun v wr => ∃ j : Nat, v = .int .i64 (j : Int) ∧ j ≤ n ∧ Hid (Below w.heap.size w wr)) (fun v _ => n - (intOf v).toNat)
  case atStart => exact ⟨0, by go_num, by omega, Lib.hid (Below.refl _ _)⟩
  case round =>
    obtain ⟨j, rfl, hj, B⟩ := hrel
    by_cases hlt : j < n
    · obtain ⟨ad, ea, x0, x1, x2, x3, x4, x5, x6⟩ := at_T34 H1.out (j : Int) (by omega) (by omega)
      obtain ⟨bd, eb, y0, y1, y2, y3, y4, y5, y6⟩ := at_T34 H2.out (j : Int) (by omega) (by omega)
      cases ea
      cases eb
      simp only [Int.toNat_natCast] at x0 x1 x2 x3 x4 x5 x6 y0 y1 y2 y3 y4 y5 y6
      have hlk := HL.out.2 j (by have := HN.out; omega)
      generalize rd_T34 l1 (j : Int) = x at x0 x1 x2 x3 x4 x5 x6 hlk
      generalize rd_T34 l2 (j : Int) = y at y0 y1 y2 y3 y4 y5 y6 hlk
      obtain ⟨k, ⟨o, ln, cl⟩, t, f3, h⟩ := x
      obtain ⟨k', ⟨o', ln', cl'⟩, t', f3', h'⟩ := y
      obtain ⟨e0, e2, e3, e4⟩ := hlk
      simp only at e0 e2 e3 e4
      subst e0 e2 e3 e4
      replace x0 := (B.out.cell (World.block_lt_of_cell? w _ x0)).trans x0
      replace x1 := (B.out.cell (World.block_lt_of_cell? w _ x1)).trans x1
      replace x2 := (B.out.cell (World.block_lt_of_cell? w _ x2)).trans x2
      replace x3 := (B.out.cell (World.block_lt_of_cell? w _ x3)).trans x3
      replace x4 := (B.out.cell (World.block_lt_of_cell? w _ x4)).trans x4
      replace x5 := (B.out.cell (World.block_lt_of_cell? w _ x5)).trans x5
      replace x6 := (B.out.cell (World.block_lt_of_cell? w _ x6)).trans x6
      replace y0 := (B.out.cell (World.block_lt_of_cell? w _ y0)).trans y0
      replace y1 := (B.out.cell (World.block_lt_of_cell? w _ y1)).trans y1
      replace y2 := (B.out.cell (World.block_lt_of_cell? w _ y2)).trans y2
      replace y3 := (B.out.cell (World.block_lt_of_cell? w _ y3)).trans y3
      replace y4 := (B.out.cell (World.block_lt_of_cell? w _ y4)).trans y4
      replace y5 := (B.out.cell (World.block_lt_of_cell? w _ y5)).trans y5
      replace y6 := (B.out.cell (World.block_lt_of_cell? w _ y6)).trans y6
      have xa0 := fun (X : Obj) => cell_alloc1 x0 X
      have xb0 := fun (X Y : Obj) => cell_alloc2 x0 X Y
      have xa1 := fun (X : Obj) => cell_alloc1 x1 X
      have xb1 := fun (X Y : Obj) => cell_alloc2 x1 X Y
      have xa2 := fun (X : Obj) => cell_alloc1 x2 X
      have xb2 := fun (X Y : Obj) => cell_alloc2 x2 X Y
      have xa3 := fun (X : Obj) => cell_alloc1 x3 X
      have xb3 := fun (X Y : Obj) => cell_alloc2 x3 X Y
      have xa4 := fun (X : Obj) => cell_alloc1 x4 X
      have xb4 := fun (X Y : Obj) => cell_alloc2 x4 X Y
      have xa5 := fun (X : Obj) => cell_alloc1 x5 X
      have xb5 := fun (X Y : Obj) => cell_alloc2 x5 X Y
      have xa6 := fun (X : Obj) => cell_alloc1 x6 X
      have xb6 := fun (X Y : Obj) => cell_alloc2 x6 X Y
      have ya0 := fun (X : Obj) => cell_alloc1 y0 X
      have yb0 := fun (X Y : Obj) => cell_alloc2 y0 X Y
      have ya1 := fun (X : Obj) => cell_alloc1 y1 X
      have yb1 := fun (X Y : Obj) => cell_alloc2 y1 X Y
      have ya2 := fun (X : Obj) => cell_alloc1 y2 X
      have yb2 := fun (X Y : Obj) => cell_alloc2 y2 X Y
      have ya3 := fun (X : Obj) => cell_alloc1 y3 X
      have yb3 := fun (X Y : Obj) => cell_alloc2 y3 X Y
      have ya4 := fun (X : Obj) => cell_alloc1 y4 X
      have yb4 := fun (X Y : Obj) => cell_alloc2 y4 X Y
      have ya5 := fun (X : Obj) => cell_alloc1 y5 X
      have yb5 := fun (X Y : Obj) => cell_alloc2 y5 X Y
      have ya6 := fun (X : Obj) => cell_alloc1 y6 X
      have yb6 := fun (X Y : Obj) => cell_alloc2 y6 X Y
      go_wp2
      go_region
      all_goals go_wp2
      all_goals
        refine ⟨⟨j + 1, by go_num, by omega, Lib.hid ?_⟩, by simp [intOf]; omega⟩
        exact ((B.out.alloc B.out.size _).alloc (Nat.le_trans B.out.size (by simp)) _).trans (below_dN (Below.refl _ _) 1)
    · obtain rfl : j = n := by omega
      go_wp2
      go_ret
      exact ⟨rfl, B.out⟩

/-- The same, spots and all. -/
def SameB (l1 l2 : List S34) : Prop := AliveB l1 l2 ∧ ∀ j, j < l1.length → (rd_T34 l2 (j : Int)).f1 = (rd_T34 l1 (j : Int)).f1
theorem same_self (l : List S34) : SameB l l := ⟨⟨rfl, fun j _ => ⟨rfl, rfl, rfl, rfl⟩⟩, fun j _ => rfl⟩
set_option maxHeartbeats 4000000 in
theorem same_calls (A1 A2 : Option Addr) (c1 c2 : Nat) (l1 l2 : List S34) (w : World) (h1 : Kd.C k34 w A1 l1.length l1) (h2 : Kd.C k34 w A2 l1.length l2) (hc1 : l1.length ≤ c1) (hc2 : l1.length ≤ c2) (hm : l1.length ≤ 1000000000) (hl : SameB l1 l2) :
    Calls Tryz.prog 12 #[.slice A1 l1.length c1, .slice A2 l1.length c2] w fun e w' => e = .returned (.bool true) ∧ Below w.heap.size w w' := by
  have HA := Lib.hid (alike_calls A1 A2 c1 c2 l1 l2 w h1 h2 hc1 hc2 hm hl.1)
  have H1 := Lib.hid h1
  have H2 := Lib.hid h2
  have HL := Lib.hid hl
  clear h1 h2 hl
  obtain ⟨n, hn⟩ : ∃ n, n = l1.length := ⟨_, rfl⟩
  rw [← hn] at H1 H2 HA hc1 hc2 hm ⊢
  have HN := Lib.hid hn
  clear hn
  go_enter Tryz.func12, Tryz.ntmps12
  go_wp2_with (first
    | (go_at_call 21; refine HA.out.mono ?_; rintro e w2 ⟨rfl, hB2⟩; have B2 := Lib.hid hB2; clear hB2))
  go_loopw [5] (fun v wr => ∃ j : Nat, v = .int .i64 (j : Int) ∧ j ≤ n ∧ Hid (Below w.heap.size w wr)) (fun v _ => n - (intOf v).toNat)
  case atStart => exact ⟨0, by go_num, by omega, B2⟩
  case round =>
    obtain ⟨j, rfl, hj, B⟩ := hrel
    by_cases hlt : j < n
    · obtain ⟨ad, ea, x0, x1, x2, x3, x4, x5, x6⟩ := at_T34 H1.out (j : Int) (by omega) (by omega)
      obtain ⟨bd, eb, y0, y1, y2, y3, y4, y5, y6⟩ := at_T34 H2.out (j : Int) (by omega) (by omega)
      cases ea
      cases eb
      simp only [Int.toNat_natCast] at x0 x1 x2 x3 x4 x5 x6 y0 y1 y2 y3 y4 y5 y6
      have hlk := HL.out.2 j (by have := HN.out; omega)
      generalize rd_T34 l1 (j : Int) = x at x0 x1 x2 x3 x4 x5 x6 hlk
      generalize rd_T34 l2 (j : Int) = y at y0 y1 y2 y3 y4 y5 y6 hlk
      obtain ⟨k, ⟨o, ln, cl⟩, t, f3, h⟩ := x
      obtain ⟨k', ⟨o', ln', cl'⟩, t', f3', h'⟩ := y
      simp only [S25.mk.injEq] at hlk
      obtain ⟨e0, e1, e2⟩ := hlk
      subst e0 e1 e2
      replace x1 := (B.out.cell (World.block_lt_of_cell? w _ x1)).trans x1
      replace x2 := (B.out.cell (World.block_lt_of_cell? w _ x2)).trans x2
      replace x3 := (B.out.cell (World.block_lt_of_cell? w _ x3)).trans x3
      replace y1 := (B.out.cell (World.block_lt_of_cell? w _ y1)).trans y1
      replace y2 := (B.out.cell (World.block_lt_of_cell? w _ y2)).trans y2
      replace y3 := (B.out.cell (World.block_lt_of_cell? w _ y3)).trans y3
      clear x0 x4 x5 x6 y0 y4 y5 y6
      go_wp2
      go_region
      all_goals go_wp2
      refine ⟨⟨j + 1, by go_num, by omega, Lib.hid (B.out.trans (below_dN (Below.refl _ _) 1))⟩, by simp [intOf]; omega⟩
    · obtain rfl : j = n := by omega
      go_wp2
      go_ret
      exact ⟨rfl, B.out⟩

/-- A slice that reads as tokens. -/
def Toks (w : World) (v : Value) (l : List S34) : Prop := ∃ A c, v = .slice A l.length c ∧ l.length ≤ c ∧ Kd.C k34 w A l.length l
def toS (t : Bs) (p : Tok × Nat) : S34 := ⟨p.1.kind, ⟨p.2, ((spotT t p.2).1 : Nat), ((spotT t p.2).2 : Nat)⟩, ⟨p.1.text.toArray⟩, p.1.val, p.1.hex⟩
theorem reps_one {α : Type} {R : α → List Value → Prop} {size : Nat} {p : α} {c : List Value} (hp : R p c) (hc : c.length = size) : Reps R size [p] c := by
  have := (Reps.none R size).snoc hp hc
  simpa using this
theorem reps_L (w : World) (t : Bs) : ∀ l : List (Tok × Nat), Reps (k34.K w) 7 (l.map (toS t)) (cellsL t l)
  | [] => Reps.none _ _
  | p :: l => by
    have h1 : Reps (k34.K w) 7 [toS t p] (atCells t p).toList := reps_one (k34_mk w (toS t p)) rfl
    have := Kd.reps_append h1 (reps_L w t l)
    simpa [cellsL] using this
theorem own_cap {w : World} {base : Nat} {e : TypeId} {sz : Nat} {n : Nat} {xs : List Value} {A : Option Addr} {m c : Nat} (h : w.ownsRow base e sz (.slice A m c) n xs) : n ≤ c := by
  rcases h.2 with ⟨h1, h2⟩ | ⟨g, cap, cur, h1, _, _, h4, _⟩
  · omega
  · injection h1 with _ _ h3
    omega
theorem toks_of_own {w : World} {base : Nat} {v : Value} {t : Bs} {l : List (Tok × Nat)} (h : w.ownsRow base 34 7 v l.length (cellsL t l)) : Toks w v (l.map (toS t)) := by
  obtain ⟨A, c, rfl, hr⟩ := own_reads_row h (reps_L w t l) (by simp)
  have hc := own_cap h
  refine ⟨A, c, by simp, by simpa using hc, ?_⟩
  rw [List.length_map]
  exact hr
theorem Toks.below {w w1 : World} {v : Value} {l : List S34} (h : Toks w v l) (hB : Below w.heap.size w w1) : Toks w1 v l := by
  obtain ⟨A, c, h1, h2, h3⟩ := h
  exact ⟨A, c, h1, h2, Kd.C_below h3 hB⟩
theorem same_toks {v1 v2 : Value} {l1 l2 : List S34} {w : World} (h1 : Toks w v1 l1) (h2 : Toks w v2 l2) (hm : l1.length ≤ 1000000000) (hl : SameB l1 l2) : Calls Tryz.prog 12 #[v1, v2] w fun e w' => e = .returned (.bool true) ∧ Below w.heap.size w w' := by
  obtain ⟨A1, c1, rfl, hc1, hC1⟩ := h1
  obtain ⟨A2, c2, rfl, hc2, hC2⟩ := h2
  have e := hl.1.1
  rw [e] at hc2 hC2 ⊢
  exact same_calls A1 A2 c1 c2 l1 l2 w hC1 hC2 hc1 hc2 hm hl
theorem alike_toks {v1 v2 : Value} {l1 l2 : List S34} {w : World} (h1 : Toks w v1 l1) (h2 : Toks w v2 l2) (hm : l1.length ≤ 1000000000) (hl : AliveB l1 l2) : Calls Tryz.prog 21 #[v1, v2] w fun e w' => e = .returned (.bool true) ∧ Below w.heap.size w w' := by
  obtain ⟨A1, c1, rfl, hc1, hC1⟩ := h1
  obtain ⟨A2, c2, rfl, hc2, hC2⟩ := h2
  have e := hl.1
  rw [e] at hc2 hC2 ⊢
  exact alike_calls A1 A2 c1 c2 l1 l2 w hC1 hC2 hc1 hc2 hm hl
end Go.Proofs.YtpecmmicndcgjaaGreatDoor.Tok

/- THE LAWS' WALKS: PrintFits answers true, of every tree of small bulk. -/
import Derived.Test.YtmfejjlmflgnbaaGreatDoorZLiveP
import Derived.Test.YtmfejjlmflgnbaaGreatDoorZRfT
import Derived.Test.YtmfejjlmflgnbaaGreatDoorZRf
import Derived.Test.YtmfejjlmflgnbaaGreatDoorZTCopy
namespace Go.Proofs.YtmfejjlmflgnbaaGreatDoor.Tok
open Go.RowKit Go.Proofs.YtmfejjlmflgnbaaGreatDoor.PA Go.Proofs.YtmfejjlmflgnbaaGreatDoorW.PrintWords Go.Proofs.YtmfejjlmflgnbaaGreatDoorW.PrintLast Go.Proofs.YtmfejjlmflgnbaaGreatDoor.Sp Go.Proofs.YtmfejjlmflgnbaaGreatDoor.Tr
set_option linter.unusedVariables false
set_option linter.unusedSimpArgs false
set_option maxRecDepth 100000

def cdOf (r : Option (List Int)) : Int := match r with
  | none => 0
  | some _ => 40
def qOf (r : Option (List Int)) : List Int := match r with
  | none => []
  | some q => q
/-- A row of the call's own that may be written. -/
def OwnQ (w : World) (B : Nat) (A : Option Addr) (q : List Int) : Prop := q ≠ [] → ∃ gs, A = some ⟨gs, 0, none⟩ ∧ B ≤ gs ∧ gs < w.heap.size ∧ ∃ cs : Array Value, w.heap[gs]? = some (.cells cs 3 (0, 0)) ∧ q.length ≤ cs.size
theorem own_q {w : World} {B : Nat} {v : Value} {q : List Int} (h : IntsR w B v q) : ∃ A c, v = .slice A q.length c ∧ AtQ0 w A c q ∧ OwnQ w B A q := by
  obtain ⟨A, c, hv⟩ := ints_form h
  subst hv
  have h0 := ints_at0 h
  refine ⟨A, c, rfl, h0, fun hq => ?_⟩
  have hp : 0 < q.length := List.length_pos_iff.2 hq
  obtain ⟨g, cap, he, hb, hl, cells, hc⟩ := Kd.R_form h hp
  injection he with e1 e2 e3
  subst e1
  refine ⟨g, rfl, hb, hl, cells, hc, ?_⟩
  obtain ⟨ad, ea, hcell⟩ := h0.rd.2.2 hp
  injection ea with ea
  subst ea
  obtain ⟨x, hxq⟩ : ∃ x, q[q.length - 1]? = some x := ⟨_, List.getElem?_eq_getElem (by omega)⟩
  obtain ⟨c0, hl0, hK, hx⟩ := hcell (q.length - 1) x hxq
  have hK' : c0 = [.int .i64 x] := hK
  subst hK'
  have h1 := hx 0 _ rfl
  have h2 : ((⟨g, 0, none⟩ : Addr).add ((q.length - 1) * (Kd.int .i64).sz + 0)) = ⟨g, q.length - 1, none⟩ := by
    rw [show (q.length - 1) * (Kd.int .i64).sz + 0 = q.length - 1 from by show (q.length - 1) * 1 + 0 = _; omega]
    unfold Addr.add
    split <;> simp_all
  rw [h2, cell_row hc] at h1
  have := (Array.getElem?_eq_some_iff.1 h1).1
  omega
theorem fits_val {r : Option (List Int)} {w w' : World} {e : Ending} (h : FlawRes r w e w') : (∃ A c, e = .returned (.agg #[.int .i64 (cdOf r), .slice A (qOf r).length c]) ∧ AtQ0 w' A c (qOf r) ∧ OwnQ w' w.heap.size A (qOf r)) ∧ Below w.heap.size w w' := by
  obtain ⟨hB, h⟩ := h
  refine ⟨?_, hB⟩
  cases r with
  | none => exact ⟨none, 0, h, ⟨Nat.le_refl _, C_nil _ _⟩, fun hq => absurd rfl hq⟩
  | some q =>
    obtain ⟨v, he, hI⟩ := h
    obtain ⟨A, c, rfl, h1, h2⟩ := own_q hI
    exact ⟨A, c, he, h1, h2⟩
theorem ref_val {r : Option (List Int)} {w w' : World} {e : Ending} (h : FlawRef r w e w') : (∃ A c, e = .returned (.agg #[.int .i64 (cdOf r), .slice A (qOf r).length c]) ∧ AtQ w' w.heap.size A c (qOf r)) ∧ Below w.heap.size w w' := by
  obtain ⟨hB, h⟩ := h
  refine ⟨?_, hB⟩
  cases r with
  | none => exact ⟨none, 0, h, atq_nil _ _⟩
  | some q =>
    obtain ⟨A, c, he, hI⟩ := h
    exact ⟨A, c, he, hI⟩
/-- The document's Copy with its spots: the same tree in memory of the call's own. -/
theorem copyT_calls (t : ST) (A : Option Addr) (c : Nat) (w : World) (hC : Kd.C k44 w A t.f2.length t.f2) (hc : t.f2.length ≤ c) (hT : TreeOk t) :
    Calls Tryz.prog 12 #[.agg #[.string t.f0, .string t.f1, .slice A t.f2.length c, .bool t.f3, .string t.f4], .bool true] w fun e w' => (∃ A' c', e = .returned (.agg #[.string t.f0, .string t.f1, .slice A' t.f2.length c', .bool t.f3, .string t.f4]) ∧ Kd.C k44 w' A' t.f2.length t.f2 ∧ t.f2.length ≤ c') ∧ Below w.heap.size w w' :=
  (copy_calls t true A c w hC hc hT).mono fun e w' hp => by
    obtain ⟨⟨A', c', he, h1, h2, _⟩, hB⟩ := hp
    rw [cpT_true] at he h1 h2
    exact ⟨⟨A', c', he, h1, h2⟩, hB⟩
theorem sameP_self (x : SP) : sameP x x = true := by simp [sameP]
theorem sameV_self (x : SV) : sameV x x = true := by simp [sameV]
mutual
theorem sameA_self (s : Bool) : ∀ a : SA, sameA s a a = true
  | ⟨n, sp, v, br, ps, noted, note⟩ => by
    have := sameL_self s ps
    simp [sameA, sameP_self, sameV_self, this]
theorem sameL_self (s : Bool) : ∀ l : List SA, sameL s l l = true
  | [] => by simp only [sameL]
  | a :: r => by
    simp [sameL, sameA_self s a, sameL_self s r]
end
theorem sameOs_self (s : Bool) : ∀ l : List SO, sameOs s l l = true
  | [] => rfl
  | o :: l => by
    show (sameO s o o && sameOs s l l) = true
    rw [sameOs_self s l]
    simp [sameO, sameP_self, sameL_self]
theorem sameT_self (s : Bool) (t : ST) : sameT s t t = true := by
  simp [sameT, sameOs_self]
/-- What stands while the first flaw's steps are written over. -/
structure FL (wF wr : World) (b4 b5 BF : Nat) (cd : Int) (A A7 : Option Addr) (c c7 : Nat) (q : List Int) : Prop where
  bel : Below wF.heap.size wF wr
  t4 : wr.heap[b4]? = some (.cells #[.int .i64 cd, .slice A q.length c] 29 (0, 0))
  t5 : wr.heap[b5]? = some (.cells #[.int .i64 cd, .slice A7 q.length c7] 29 (0, 0))
  gq : AtQ wr BF A7 c7 q
  row : q ≠ [] → ∃ gs, A = some ⟨gs, 0, none⟩ ∧ wF.heap.size ≤ gs ∧ gs < BF ∧ ∃ cs : Array Value, wr.heap[gs]? = some (.cells cs 3 (0, 0)) ∧ q.length ≤ cs.size
theorem FL.there {wF wr : World} {b4 b5 BF gs : Nat} {cd : Int} {A7 : Option Addr} {c c7 : Nat} {q : List Int} (h : FL wF wr b4 b5 BF cd (some ⟨gs, 0, none⟩) A7 c c7 q) (j : Nat) (hj : j < q.length) : wr.there gs j 1 := fun i hi => by
  obtain rfl : i = 0 := by omega
  obtain ⟨gs', e, _, _, cs, hcs, hl⟩ := h.row (fun e => by rw [e] at hj; simp at hj)
  injection e with e
  injection e with e
  subst e
  rw [Nat.add_zero]
  refine ⟨?_, frozen_row hcs _⟩
  rw [cell_row hcs, Array.getElem?_eq_getElem (by omega)]
  rfl
theorem FL.set {wF wr w1 : World} {b4 b5 BF gs : Nat} {cd : Int} {A7 : Option Addr} {c c7 : Nat} {q : List Int} (h : FL wF wr b4 b5 BF cd (some ⟨gs, 0, none⟩) A7 c c7 q) (j : Nat) (hj : j < q.length) (v : Value) (hw : w1 = wr.setCells gs j [v]) : FL wF w1 b4 b5 BF cd (some ⟨gs, 0, none⟩) A7 c c7 q := by
  obtain ⟨gs', e, hge, hlt, cs, hcs, hl⟩ := h.row (fun e => by rw [e] at hj; simp at hj)
  injection e with e
  injection e with e
  subst e
  have hk : ∀ k, k ≠ gs → w1.heap[k]? = wr.heap[k]? := fun k hk => by rw [hw]; exact Below.heap_setCell wr ⟨gs, j, none⟩ v k hk
  have hne : ∀ (k : Nat) (x : Array Value), wr.heap[k]? = some (.cells x 29 (0, 0)) → k ≠ gs := fun k x hx e => by
    rw [e, hcs] at hx
    injection hx with hx
    injection hx with _ e2 _
    exact absurd e2 (by decide)
  refine ⟨h.bel.trans (by rw [hw]; exact (Below.refl _ _).setCell (p := ⟨gs, j, none⟩) hge v), (hk _ (hne _ _ h.t4)).trans h.t4, (hk _ (hne _ _ h.t5)).trans h.t5, h.gq.other (g := gs) (fun ad e => by have := h.gq.lo ad e; omega) hk, fun _ => ⟨gs, rfl, hge, hlt, cs.setIfInBounds j v, ?_, by simpa using hl⟩⟩
  rw [hw]
  exact setCell_row hcs v
theorem AtQ.at0 {w : World} {B : Nat} {A : Option Addr} {c : Nat} {q : List Int} (h : AtQ w B A c q) : AtQ0 w A c q := ⟨h.cap, h.rd⟩
theorem flaw_same (cd : Int) (q : List Int) (A A' : Option Addr) (n n' : Nat) (w : World) (h : AtQ0 w A n q) (h' : AtQ0 w A' n' q) :
    Calls Tryz.prog 15 #[.agg #[.int .i64 cd, .slice A q.length n], .agg #[.int .i64 cd, .slice A' q.length n']] w fun e w' => e = .returned (.bool true) ∧ Below w.heap.size w w' :=
  (sameflaw_calls cd A n q cd A' n' q w h.rd h.cap h'.rd h'.cap).mono fun e w' hp => by
    obtain ⟨he, hB⟩ := hp
    exact ⟨by rw [he]; simp, hB⟩
theorem flawq_cells {w : World} {b : Nat} {cd : Int} {v : Value} (h : w.heap[b]? = some (.cells #[.int .i64 cd, v] 29 (0, 0))) : w.cell? ⟨b, 0, none⟩ = some (.int .i64 cd) ∧ w.cell? ⟨b, 1, none⟩ = some v :=
  ⟨(cell_row h 0).trans rfl, (cell_row h 1).trans rfl⟩
/-- What the law's last line reads: the copy, the tree, the document's flaw. -/
theorem law_S {w : World} {b3 b1 b5 : Nat} {t : ST} {A A' : Option Addr} {c c' : Nat} {cd : Int} {v : Value} (h3 : w.heap[b3]? = some (.cells (treeC t A' c') 24 (0, 0))) (h1 : w.heap[b1]? = some (.cells (treeC t A c) 24 (0, 0))) (h5 : w.heap[b5]? = some (.cells #[.int .i64 cd, v] 29 (0, 0))) :
    w.cell? ⟨b3, 0, none⟩ = some (.string t.f0) ∧ w.cell? ⟨b3, 1, none⟩ = some (.string t.f1) ∧ w.cell? ⟨b3, 2, none⟩ = some (.slice A' t.f2.length c') ∧ w.cell? ⟨b3, 3, none⟩ = some (.bool t.f3) ∧ w.cell? ⟨b3, 4, none⟩ = some (.string t.f4) ∧
    w.cell? ⟨b1, 0, none⟩ = some (.string t.f0) ∧ w.cell? ⟨b1, 1, none⟩ = some (.string t.f1) ∧ w.cell? ⟨b1, 2, none⟩ = some (.slice A t.f2.length c) ∧ w.cell? ⟨b1, 3, none⟩ = some (.bool t.f3) ∧ w.cell? ⟨b1, 4, none⟩ = some (.string t.f4) ∧
    w.cell? ⟨b5, 0, none⟩ = some (.int .i64 cd) ∧ w.cell? ⟨b5, 1, none⟩ = some v :=
  ⟨(cell_row h3 0).trans rfl, (cell_row h3 1).trans rfl, (cell_row h3 2).trans rfl, (cell_row h3 3).trans rfl, (cell_row h3 4).trans rfl, (cell_row h1 0).trans rfl, (cell_row h1 1).trans rfl, (cell_row h1 2).trans rfl, (cell_row h1 3).trans rfl, (cell_row h1 4).trans rfl, (cell_row h5 0).trans rfl, (cell_row h5 1).trans rfl⟩
theorem blk_below {w w' : World} {k : Nat} {o : Obj} (h : w.heap[k]? = some o) (hB : Below w.heap.size w w') : w'.heap[k]? = some o := (hB.block _ (Array.getElem?_eq_some_iff.1 h).1).trans h
set_option maxHeartbeats 32000000 in
theorem law_fits (t : ST) (A : Option Addr) (c : Nat) (w : World) (hC : Kd.C k44 w A t.f2.length t.f2) (hc : t.f2.length ≤ c) (hT : TreeSm t) (hG : Glob w) :
    Calls Tryz.prog 3 #[treeV t A c] w fun e w' => e = .returned (.bool true) ∧ Below w.heap.size w w' := by
  have HG := Lib.hid hG
  have HC := Lib.hid hC
  have HT := Lib.hid hT
  have HCC := Lib.hid hc
  obtain ⟨r, hr⟩ : ∃ r, badT t = r := ⟨_, rfl⟩
  have HF : Hid (∀ W A' c', Glob W → Kd.C k44 W A' t.f2.length t.f2 → t.f2.length ≤ c' → Calls Tryz.prog 13 #[.agg #[.string t.f0, .string t.f1, .slice A' t.f2.length c', .bool t.f3, .string t.f4]] W fun e w' => (∃ A c, e = .returned (.agg #[.int .i64 (cdOf r), .slice A (qOf r).length c]) ∧ AtQ0 w' A c (qOf r) ∧ OwnQ w' W.heap.size A (qOf r)) ∧ Below W.heap.size W w') :=
    Lib.hid (fun W A' c' h1 h2 h3 => (pfits_calls t A' c' W h2 h3 hT.ok h1).mono fun e w' hp => by rw [hr] at hp; exact fits_val hp)
  have HFR : Hid (∀ W, Kd.C k44 W A t.f2.length t.f2 → Calls Tryz.prog 14 #[.agg #[.string t.f0, .string t.f1, .slice A t.f2.length c, .bool t.f3, .string t.f4]] W fun e w' => (∃ A c, e = .returned (.agg #[.int .i64 (cdOf r), .slice A (qOf r).length c]) ∧ AtQ w' W.heap.size A c (qOf r)) ∧ Below W.heap.size W w') :=
    Lib.hid (fun W h2 => (rfits_calls t A c W h2 hc hT.ok).mono fun e w' hp => by rw [hr] at hp; exact ref_val hp)
  generalize cdOf r = cd at HF HFR
  generalize qOf r = q at HF HFR
  have HSM : Hid (∀ W A' c', Kd.C k44 W A' t.f2.length t.f2 → t.f2.length ≤ c' → Kd.C k44 W A t.f2.length t.f2 → Calls Tryz.prog 16 #[.agg #[.string t.f0, .string t.f1, .slice A' t.f2.length c', .bool t.f3, .string t.f4], .agg #[.string t.f0, .string t.f1, .slice A t.f2.length c, .bool t.f3, .string t.f4], .bool true] W fun e w' => e = .returned (.bool true) ∧ Below W.heap.size W w') :=
    Lib.hid (fun W A' c' h1 h2 h3 => (rsame_calls true t t A' A c' c W h1 h2 h3 hc (fun j o ho => by have := hT.ok.cnt j o ho; omega) (by have := hT.ok.len; omega)).mono fun e w' hp => by rw [sameT_self] at hp; exact hp)
  clear hG hC hr r
  have tk1 : True := trivial
  have tk2 : True := trivial
  have tk3 : True := trivial
  unfold treeV treeC
  go_enter Tryz.func3, Tryz.ntmps3
  go_wp2_with fail
  obtain ⟨w1, hw1⟩ : ∃ w1 : World, w1 = w.alloc (.cells #[.string t.f0, .string t.f1, .slice A t.f2.length c, .bool t.f3, .string t.f4] 24) := ⟨_, rfl⟩
  rw [← hw1]
  have B1 : Hid (Below w.heap.size w w1) := Lib.hid (by rw [hw1]; exact alloc_below _ _)
  have G1 : Hid (w1.heap[w.heap.size]? = some (.cells (treeC t A c) 24 (0, 0))) := Lib.hid (by rw [hw1]; exact heap_alloc_new _ _)
  clear hw1
  refine (copyT_calls t A c w1 (Kd.C_below HC.out B1.out) hc HT.out.ok).mono ?_
  rintro e w2 ⟨⟨A', c', rfl, hC2, hc2⟩, hB2⟩
  have C2 := Lib.hid hC2
  have CC2 := Lib.hid hc2
  have B12 := Lib.hid hB2
  clear hC2 hc2 hB2
  go_upto_region 5 with (first
    | (have _t := tk1; refine run_event rfl (.alloc 24) rfl (.pointer (some ⟨w2.heap.size, 0, none⟩)) (w2.alloc (.cells tree0 24)) (by kernel_rfl) ?_; intro w3 hw3; have B23 : Hid (Below w2.heap.size w2 w3) := Lib.hid (by rw [hw3]; exact alloc_below _ _); have G3 : Hid (w3.heap[w2.heap.size]? = some (.cells tree0 24 (0, 0))) := Lib.hid (by rw [hw3]; exact heap_alloc_new _ _); clear hw3 tk1 _t)
    | ((with_reducible refine gate_store (t := 24) (p := 3) rfl ?_); refine put_event rfl 24 _ _ rfl w2.heap.size (treeC t A' c') rfl rfl 24 tree0 G3.out (by kernel_rfl) rfl (tree_all _ _ _) w2.heap.size (Nat.le_refl _) ?_; intro w4 hb4 hB4 hs4 ho4; have G4 := Lib.hid hb4; have B24 : Hid (Below w2.heap.size w2 w4) := Lib.hid (B23.out.trans hB4); have B4 : Hid (Below w.heap.size w w4) := Lib.hid (B1.out.trans ((B12.out.trans (B24.out.mono B12.out.size)).mono B1.out.size)); have G14 : Hid (w4.heap[w.heap.size]? = some (.cells (treeC t A c) 24 (0, 0))) := Lib.hid (blk_below G1.out (B12.out.trans (B24.out.mono B12.out.size))); obtain ⟨y0, y1, y2, y3, y4⟩ := tree_read hb4 (Below.refl _ _); clear hb4 hB4 hs4 ho4)
    | (go_at_call 13; refine (HF.out _ A' c' (HG.out.below B4.out) (Kd.C_below C2.out B24.out) CC2.out).mono ?_; rintro e w5 ⟨⟨Af, cf, rfl, hQ5, hO5⟩, hB5⟩; have Q5 := Lib.hid hQ5; have O5 := Lib.hid hO5; have B45 := Lib.hid hB5; clear hQ5 hO5 hB5 y0 y1 y2 y3 y4)
    | (have _t := tk2; refine run_event rfl (.alloc 29) rfl (.pointer (some ⟨w5.heap.size, 0, none⟩)) (w5.alloc (.cells flawC0 29)) (by kernel_rfl) ?_; intro w6 hw6; have B56 : Hid (Below w5.heap.size w5 w6) := Lib.hid (by rw [hw6]; exact alloc_below _ _); have G6 : Hid (w6.heap[w5.heap.size]? = some (.cells flawC0 29 (0, 0))) := Lib.hid (by rw [hw6]; exact heap_alloc_new _ _); clear hw6 tk2 _t)
    | ((with_reducible refine gate_store (t := 29) (p := 4) rfl ?_); refine put_event rfl 29 _ _ rfl w5.heap.size #[.int .i64 cd, .slice Af q.length cf] rfl rfl 29 flawC0 G6.out (by kernel_rfl) rfl (flaw_all _ _ _ _) w5.heap.size (Nat.le_refl _) ?_; intro w7 hb7 hB7 hs7 ho7; have G7 := Lib.hid hb7; have B57 : Hid (Below w5.heap.size w5 w7) := Lib.hid (B56.out.trans hB7); have B47 : Hid (Below w4.heap.size w4 w7) := Lib.hid (B45.out.trans (B57.out.mono B45.out.size)); obtain ⟨y0, y1, y2, y3, y4⟩ := tree_read G14.out B47.out; clear hb7 hB7 hs7 ho7)
    | (go_at_call 14; refine (HFR.out _ (Kd.C_below HC.out (B4.out.trans (B47.out.mono B4.out.size)))).mono ?_; rintro e w8 ⟨⟨Ar, cr, rfl, hQ8⟩, hB8⟩; have Q8 := Lib.hid hQ8; have B78 := Lib.hid hB8; clear hQ8 hB8 y0 y1 y2 y3 y4)
    | (have _t := tk3; refine run_event rfl (.alloc 29) rfl (.pointer (some ⟨w8.heap.size, 0, none⟩)) (w8.alloc (.cells flawC0 29)) (by kernel_rfl) ?_; intro w9 hw9; have B89 : Hid (Below w8.heap.size w8 w9) := Lib.hid (by rw [hw9]; exact alloc_below _ _); have G9 : Hid (w9.heap[w8.heap.size]? = some (.cells flawC0 29 (0, 0))) := Lib.hid (by rw [hw9]; exact heap_alloc_new _ _); clear hw9 tk3 _t)
    | ((with_reducible refine gate_store (t := 29) (p := 5) rfl ?_); refine put_event rfl 29 _ _ rfl w8.heap.size #[.int .i64 cd, .slice Ar q.length cr] rfl rfl 29 flawC0 G9.out (by kernel_rfl) rfl (flaw_all _ _ _ _) w8.heap.size (Nat.le_refl _) ?_; intro w10 hb10 hB10 hs10 ho10; have G10 := Lib.hid hb10; have B810 : Hid (Below w8.heap.size w8 w10) := Lib.hid (B89.out.trans hB10); have B710 : Hid (Below w7.heap.size w7 w10) := Lib.hid (B78.out.trans (B810.out.mono B78.out.size)); have G710 : Hid (w10.heap[w5.heap.size]? = some (.cells #[.int .i64 cd, .slice Af q.length cf] 29 (0, 0))) := Lib.hid (blk_below G7.out B710.out); obtain ⟨u0, u1⟩ := flawq_cells G710.out; obtain ⟨v0, v1⟩ := flawq_cells hb10; clear hb10 hB10 hs10 ho10)
    | (go_at_call 15; refine (flaw_same cd q Af Ar cf cr _ ((Q5.out.below (B57.out.trans (B710.out.mono B57.out.size)))) (Q8.out.at0.below B810.out)).mono ?_; rintro e w11 ⟨rfl, hB11⟩; have B1011 := Lib.hid hB11; clear hB11 u0 u1 v0 v1))
  have B711 : Hid (Below w7.heap.size w7 w11) := Lib.hid (B710.out.trans (B1011.out.mono B710.out.size))
  have B411 : Hid (Below w4.heap.size w4 w11) := Lib.hid (B47.out.trans (B711.out.mono B47.out.size))
  have FL11 : Hid (FL w4 w11 w5.heap.size w8.heap.size w7.heap.size cd Af Ar cf cr q) := Lib.hid ⟨B411.out, blk_below G710.out B1011.out, blk_below G10.out B1011.out, Q8.out.below (B810.out.trans (B1011.out.mono B810.out.size)), fun hq => by
    obtain ⟨gs, e, h1, h2, cs, h3, h4⟩ := O5.out hq
    exact ⟨gs, e, h1, Nat.lt_of_lt_of_le h2 B57.out.size, cs, blk_below h3 (B57.out.trans (B711.out.mono B57.out.size)), h4⟩⟩
  have HQL := Lib.hid (show q.length ≤ 9223372036854775807 from Q5.out.rd.2.1)
  clear Q5 O5 Q8
  go_wp2_with fail
  go_loopw [7] (fun v wr => ∃ j : Nat, v = .int .i64 (j : Int) ∧ j ≤ q.length ∧ Hid (FL w4 wr w5.heap.size w8.heap.size w7.heap.size cd Af Ar cf cr q)) (fun v _ => q.length - (intOf v).toNat)
  case atStart => exact ⟨0, by go_num, by omega, FL11⟩
  case round =>
    obtain ⟨j, rfl, hj, F⟩ := hrel
    have hl9 := HQL.out
    obtain ⟨u0, u1⟩ := flawq_cells F.out.t4
    clear u0
    by_cases hlt : j < q.length
    · obtain ⟨gs, hA, hge, hltB, cs, hcs, hlc⟩ := F.out.row (fun e => by rw [e] at hlt; simp at hlt)
      subst hA
      clear hcs hlc
      go_wp2_with (first
        | ((with_reducible refine gate_store (t := 3) (p := 27) rfl ?_); refine cell_event rfl 3 _ _ rfl gs j (.int .i64 (-3)) (by first | rfl | (simp [Addr.add, Act.eval]; done) | (go_simp; done)) rfl rfl (F.out.there j hlt) (by kernel_rfl) w4.heap.size hge ?_; intro w12 hw12 hB12 hs12; have F12 : Hid (FL w4 w12 w5.heap.size w8.heap.size w7.heap.size cd (some ⟨gs, 0, none⟩) Ar cf cr q) := Lib.hid (F.out.set j hlt _ hw12); clear hw12 hB12 hs12 u1))
      exact ⟨⟨j + 1, by go_num, by omega, F12⟩, by simp [intOf]; omega⟩
    · obtain rfl : j = q.length := by omega
      have BW : Hid (Below w.heap.size w wr) := Lib.hid (B4.out.trans (F.out.bel.mono B4.out.size))
      have T3 : Hid (wr.heap[w2.heap.size]? = some (.cells (treeC t A' c') 24 (0, 0))) := Lib.hid (blk_below G4.out F.out.bel)
      have T1 : Hid (wr.heap[w.heap.size]? = some (.cells (treeC t A c) 24 (0, 0))) := Lib.hid (blk_below G14.out F.out.bel)
      have CI : Hid (Kd.C k44 wr A' t.f2.length t.f2) := Lib.hid (Kd.C_below C2.out (B24.out.trans (F.out.bel.mono B24.out.size)))
      go_wp2_with fail
      clear u1
      go_region_held3 (fun W => W.cell? ⟨w2.heap.size, 0, none⟩ = some (.string t.f0) ∧ W.cell? ⟨w2.heap.size, 1, none⟩ = some (.string t.f1) ∧ W.cell? ⟨w2.heap.size, 2, none⟩ = some (.slice A' t.f2.length c') ∧ W.cell? ⟨w2.heap.size, 3, none⟩ = some (.bool t.f3) ∧ W.cell? ⟨w2.heap.size, 4, none⟩ = some (.string t.f4) ∧
          W.cell? ⟨w.heap.size, 0, none⟩ = some (.string t.f0) ∧ W.cell? ⟨w.heap.size, 1, none⟩ = some (.string t.f1) ∧ W.cell? ⟨w.heap.size, 2, none⟩ = some (.slice A t.f2.length c) ∧ W.cell? ⟨w.heap.size, 3, none⟩ = some (.bool t.f3) ∧ W.cell? ⟨w.heap.size, 4, none⟩ = some (.string t.f4) ∧
          W.cell? ⟨w8.heap.size, 0, none⟩ = some (.int .i64 cd) ∧ W.cell? ⟨w8.heap.size, 1, none⟩ = some (.slice Ar q.length cr)) (first | exact law_S T3.out T1.out F.out.t5 | exact law_S (blk_below T3.out D13.out) (blk_below T1.out D13.out) (blk_below F.out.t5 D13.out) | exact law_S (blk_below T3.out D14.out) (blk_below T1.out D14.out) (blk_below F.out.t5 D14.out) | exact law_S (blk_below T3.out D15.out) (blk_below T1.out D15.out) (blk_below F.out.t5 D15.out) | exact law_S (blk_below T3.out D16.out) (blk_below T1.out D16.out) (blk_below F.out.t5 D16.out) | assumption) (first
        | (go_at_call 13; refine (HF.out _ A' c' (HG.out.below (BW.out.trans ((Below.refl _ _).drew.mono BW.out.size))) (Kd.C_below CI.out (Below.refl _ _).drew) CC2.out).mono ?_; rintro e w13 ⟨⟨Ag, cg, rfl, hQ13, hO13⟩, hB13⟩; have Q13 := Lib.hid hQ13; have D13 : Hid (Below wr.heap.size wr w13) := Lib.hid ((Below.refl _ _).drew.trans hB13); clear hQ13 hO13 hB13)
        | (go_at_call 15; refine (flaw_same cd q Ag Ar cg cr _ Q13.out ((F.out.gq.at0).below D13.out)).mono ?_; rintro e w14 ⟨rfl, hB14⟩; have D14 : Hid (Below wr.heap.size wr w14) := Lib.hid (D13.out.trans (hB14.mono D13.out.size)); clear hB14)
        | (go_at_call 16; refine (HSM.out _ A' c' (Kd.C_below CI.out D14.out) CC2.out (Kd.C_below HC.out (BW.out.trans (D14.out.mono BW.out.size)))).mono ?_; rintro e w15 ⟨rfl, hB15⟩; have D15 : Hid (Below wr.heap.size wr w15) := Lib.hid (D14.out.trans (hB15.mono D14.out.size)); clear hB15)
        | (go_at_call 17; refine (palive_calls _ (HG.out.below (BW.out.trans (D15.out.mono BW.out.size)))).mono ?_; rintro e w16 ⟨rfl, hB16⟩; have D16 : Hid (Below wr.heap.size wr w16) := Lib.hid (D15.out.trans (hB16.mono D15.out.size)); clear hB16))
      all_goals
        go_wp2_with fail
        go_ret
        exact ⟨rfl, BW.out.trans (D16.out.mono BW.out.size)⟩
end Go.Proofs.YtmfejjlmflgnbaaGreatDoor.Tok

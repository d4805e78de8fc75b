/- CONTRACT: package printer's bad: a flaw of the call's own; what a flaw is in memory. -/
import Derived.Test.YtmfejjlmflgnbaaGreatDoorZPrV
import Derived.Test.YtmfejjlmflgnbaaGreatDoorZIs
namespace Go.Proofs.YtmfejjlmflgnbaaGreatDoor.Tok
open Go.RowKit Go.Proofs.YtmfejjlmflgnbaaGreatDoor.PA Go.Proofs.YtmfejjlmflgnbaaGreatDoorW.PrintWords Go.Proofs.YtmfejjlmflgnbaaGreatDoorW.PrintLast Go.Proofs.YtmfejjlmflgnbaaGreatDoor.Sp Go.Proofs.YtmfejjlmflgnbaaGreatDoor.Tr
set_option linter.unusedVariables false
set_option linter.unusedSimpArgs false
set_option maxRecDepth 100000

/-- Whole numbers in a row of the call's own. -/
def IntsR (w : World) (B : Nat) (v : Value) (q : List Int) : Prop := Kd.R (Kd.int .i64) 3 w B (fun _ => True) v q
/-- A flaw in memory: where, and its reason's number. -/
def FlawAt (w : World) (B g : Nat) (q : List Int) (c : Int) : Prop := B ≤ g ∧ ∃ v, w.heap[g]? = some (.cells #[v, .iface 109 (.int .i64 c)] 111 (0, 0)) ∧ IntsR w B v q
def flawV (g : Nat) : Value := .iface 108 (.pointer (some ⟨g, 0, none⟩))
theorem IntsR.below {w w1 : World} {B : Nat} {v : Value} {q : List Int} (h : IntsR w B v q) (hB : Below w.heap.size w w1) : IntsR w1 B v q := Kd.R_below h hB
theorem FlawAt.below {w w1 : World} {B g : Nat} {q : List Int} {c : Int} (h : FlawAt w B g q c) (hB : Below w.heap.size w w1) : FlawAt w1 B g q c := by
  obtain ⟨h1, v, h2, h3⟩ := h
  exact ⟨h1, v, (hB.block _ (Array.getElem?_eq_some_iff.1 h2).1).trans h2, h3.below hB⟩
theorem FlawAt.lower {w : World} {B B' g : Nat} {q : List Int} {c : Int} (h : FlawAt w B g q c) (hB : B' ≤ B) : FlawAt w B' g q c := by
  obtain ⟨h1, v, h2, h3⟩ := h
  exact ⟨by omega, v, h2, Kd.R_lower h3 hB⟩
theorem ints_form {w : World} {B e : Nat} {ok : Nat → Prop} {v : Value} {q : List Int} (h : Kd.R (Kd.int .i64) e w B ok v q) : ∃ A c, v = .slice A q.length c := by
  obtain ⟨_, inner, ho, hr⟩ := h
  have hl := hr.1
  rcases ho.2 with ⟨rfl, h2⟩ | ⟨g, cap, cur, rfl, _⟩
  · exact ⟨none, 0, by rw [h2]⟩
  · exact ⟨_, _, rfl⟩
def BadPost (q : List Int) (w : World) (e : Ending) (w' : World) : Prop := Below w.heap.size w w' ∧ ∃ g, e = .returned (flawV g) ∧ FlawAt w' w.heap.size g q 40
theorem bad_calls (A : Option Addr) (c : Nat) (q : List Int) (w : World) (hC : Kd.C (Kd.int .i64) w A q.length q) (hc : q.length ≤ c) (hq : q.length ≤ 1099511627776) :
    Calls Tryz.prog 85 #[.slice A q.length c] w (BadPost q w) := by
  have HR0 := Lib.hid hC
  have HQ := Lib.hid hq
  clear hC hq
  go_enter Tryz.func85, Tryz.ntmps85
  go_wp2_with (first
    | (at_builtin; refine Kd.R_append_rows (Kd.int .i64) (w0 := w) w.heap.size rfl (.const (.slice none 0 0)) (.tmp 3) 27 3 (.int .i64 0) 8 rfl Tryz.underlying27 info3 rfl (by decide) (by omega) (.slice none 0 0) ([] : List Int) q _ _ _ (fun _ => True) (fun _ => False) rfl rfl (Kd.R_nil _ _ _ _ (fun _ => True)) HR0.out (fun _ _ h => h) (fun _ h => h.elim) (fun _ _ => trivial) (Below.refl _ _) (Nat.le_refl _) (by have := HQ.out; simp; omega) ?_; intro v1 w1 ho hb hg hat; rw [List.nil_append] at ho; obtain ⟨A1, c1, hv1⟩ := ints_form ho; subst hv1; have HO := Lib.hid ho; have HB := Lib.hid hb; clear ho hb hg hat))
  go_ret
  refine ⟨HB.out.alloc HB.out.size _, w1.heap.size, rfl, HB.out.size, _, heap_alloc_new _ _, ?_⟩
  exact (show IntsR w1 w.heap.size _ q from HO.out).below (alloc_below _ _)
end Go.Proofs.YtmfejjlmflgnbaaGreatDoor.Tok
/- CONTRACTS: package printer's told: a flaw as plain data. -/
namespace Go.Proofs.YtmfejjlmflgnbaaGreatDoor.Tok
open Go.RowKit Go.Proofs.YtmfejjlmflgnbaaGreatDoor.PA Go.Proofs.YtmfejjlmflgnbaaGreatDoorW.PrintWords Go.Proofs.YtmfejjlmflgnbaaGreatDoorW.PrintLast Go.Proofs.YtmfejjlmflgnbaaGreatDoor.Sp Go.Proofs.YtmfejjlmflgnbaaGreatDoor.Tr
set_option linter.unusedVariables false
set_option linter.unusedSimpArgs false
set_option maxRecDepth 100000

theorem as_calls (b tb : Nat) (w : World) (hG : w.cell? ⟨4, 0, none⟩ = some (.iface 226 (.agg #[.pointer (some ⟨15, 84, none⟩)]))) (ht : w.heap[tb]? = some (.cells #[.pointer none] 108 (0, 0))) :
    Calls Tryz.prog 68 #[.iface 108 (.pointer (some ⟨b, 0, none⟩)), .iface 154 (.pointer (some ⟨tb, 0, none⟩))] w fun e w' => e = .returned (.bool true) ∧ w.grownBy w' (some tb) ∧ w'.heap[tb]? = some (.cells #[.pointer (some ⟨b, 0, none⟩)] 108 (0, 0)) := by
  have hlt := (Array.getElem?_eq_some_iff.1 ht).1
  refine (as_hit ⟨b, 0, none⟩ ⟨tb, 0, none⟩ (.pointer none) w hG ((cell_row ht 0).trans rfl) (frozen_row ht 0)).mono fun e w' ⟨he, hw⟩ => ⟨he, ?_⟩
  have hB : Below w.heap.size w ((((w.alloc (.cells #[.pointer (some ⟨tb, 0, none⟩)] 154)).alloc (.cells #[.pointer (some ⟨15, 154, none⟩), .pointer (some ⟨w.heap.size, 0, none⟩), .int .u64 150] 189)).alloc (.cells #[.pointer (some ⟨15, 154, none⟩), .pointer (some ⟨w.heap.size, 0, none⟩), .int .u64 150] 189)).alloc (.cells #[.pointer (some ⟨b, 0, none⟩)] 108)) :=
    ((((Below.refl _ _).alloc (Nat.le_refl _) _).alloc (by simp) _).alloc (by simp; omega) _).alloc (by simp; omega) _
  generalize ((((w.alloc (.cells #[.pointer (some ⟨tb, 0, none⟩)] 154)).alloc (.cells #[.pointer (some ⟨15, 154, none⟩), .pointer (some ⟨w.heap.size, 0, none⟩), .int .u64 150] 189)).alloc (.cells #[.pointer (some ⟨15, 154, none⟩), .pointer (some ⟨w.heap.size, 0, none⟩), .int .u64 150] 189)).alloc (.cells #[.pointer (some ⟨b, 0, none⟩)] 108)) = W at hw hB
  subst hw
  have h1 : W.heap[tb]? = some (.cells #[.pointer none] 108 (0, 0)) := (hB.block tb hlt).trans ht
  exact ⟨(below_grown hB).trans (setCell_grown W tb 0 _), (setCell_row h1 _).trans rfl⟩
def flawC0 : Array Value := #[.int .i64 0, .slice none 0 0]
theorem flaw_all (c : Int) (A : Option Addr) (n cp : Nat) : (#[Value.int .i64 c, .slice A n cp] : Array Value).all (·.oneCell') = true := by simp [Value.oneCell']
set_option maxHeartbeats 8000000 in
theorem told_40 (b : Nat) (A : Option Addr) (n cp : Nat) (w : World) (h : w.heap[b]? = some (.cells #[.slice A n cp, .iface 109 (.int .i64 40)] 111 (0, 0))) (hG : Glob w) :
    Calls Tryz.prog 36 #[flawV b] w fun e w' => e = .returned (.agg #[.int .i64 40, .slice A n cp]) ∧ Below w.heap.size w w' := by
  have HG := Lib.hid hG
  have HF := Lib.hid h
  clear hG h
  unfold flawV
  have tk1 : True := trivial
  go_enter Tryz.func36, Tryz.ntmps36
  go_wp2_with (first
    | (have _t := tk1; refine run_event rfl (.alloc 29) rfl (.pointer (some ⟨w.heap.size, 0, none⟩)) (w.alloc (.cells flawC0 29)) (by kernel_rfl) ?_; intro w1 hw1; have B1 : Hid (Below w.heap.size w w1) := Lib.hid (by rw [hw1]; exact alloc_below _ _); have Z1 : Hid (w1.heap.size = w.heap.size + 1) := Lib.hid (by rw [hw1]; simp); have G1 : Hid (w1.heap[w.heap.size]? = some (.cells flawC0 29 (0, 0))) := Lib.hid (by rw [hw1]; exact heap_alloc_new _ _); clear hw1 tk1 _t)
    | (refine run_event rfl (.alloc 108) rfl (.pointer (some ⟨w1.heap.size, 0, none⟩)) (w1.alloc (.cells #[.pointer none] 108)) (by kernel_rfl) ?_; intro w2 hw2; have B2 : Hid (Below w1.heap.size w1 w2) := Lib.hid (by rw [hw2]; exact alloc_below _ _); have G2 : Hid (w2.heap[w1.heap.size]? = some (.cells #[.pointer none] 108 (0, 0))) := Lib.hid (by rw [hw2]; exact heap_alloc_new _ _); clear hw2)
    | (go_at_call 68; refine (as_calls b w1.heap.size w2 (HG.out.below (B1.out.trans (B2.out.mono B1.out.size))).errt G2.out).mono ?_; rintro e w3 ⟨rfl, hg3, hc3⟩; have G3 := Lib.hid hc3; have GR3 := Lib.hid hg3; clear hg3 hc3)
    | (refine run_event rfl (.buildSlice 155 2 _) rfl (.slice (some ⟨w3.heap.size, 0, none⟩) 2 2) (w3.alloc (.cells #[.int .i64 40, .int .i64 24] 26)) (by kernel_rfl) ?_; intro w4 hw4; have G4 : Hid (w4.heap[w3.heap.size]? = some (.cells #[.int .i64 40, .int .i64 24] 26 (0, 0))) := Lib.hid (by rw [hw4]; exact heap_alloc_new _ _); have B4 : Hid (Below w3.heap.size w3 w4) := Lib.hid (by rw [hw4]; exact alloc_below _ _); clear hw4))
  have hb := (Array.getElem?_eq_some_iff.1 HF.out).1
  have hz := Z1.out
  have F2 := (B2.out.block b (by omega)).trans ((B1.out.block b hb).trans HF.out)
  have F3 := (GR3.out.block b (Array.getElem?_eq_some_iff.1 F2).1 (fun e => by injection e with e; omega)).trans F2
  have F4 := (B4.out.block b (Array.getElem?_eq_some_iff.1 F3).1).trans F3
  have R2 := (B2.out.block w.heap.size (by omega)).trans G1.out
  have R3 := (GR3.out.block w.heap.size (Array.getElem?_eq_some_iff.1 R2).1 (fun e => by injection e with e; omega)).trans R2
  have R4 := Lib.hid ((B4.out.block w.heap.size (Array.getElem?_eq_some_iff.1 R3).1).trans R3)
  have P4 := (B4.out.block w1.heap.size (Array.getElem?_eq_some_iff.1 G3.out).1).trans G3.out
  have BW : Hid (Below w.heap.size w w4) := Lib.hid (B1.out.trans ((B2.out.mono B1.out.size).trans ((below_of_grown GR3.out (by omega) (by have := B2.out.size; omega)).trans (B4.out.mono (by have := GR3.out.size; have := B2.out.size; omega)))))
  have y0 : w4.cell? ⟨w1.heap.size, 0, none⟩ = some (.pointer (some ⟨b, 0, none⟩)) := (cell_row P4 0).trans rfl
  have y1 : w4.cell? ⟨b, 0, none⟩ = some (.slice A n cp) := (cell_row F4 0).trans rfl
  have HR : Hid (w4.cell? ⟨b, 1, none⟩ = some (.iface 109 (.int .i64 40))) := Lib.hid ((cell_row F4 1).trans rfl)
  have s0 : w4.cell? ⟨w3.heap.size, 0, none⟩ = some (.int .i64 40) := (cell_row G4.out 0).trans rfl
  have s1 : w4.cell? ⟨w3.heap.size, 1, none⟩ = some (.int .i64 24) := (cell_row G4.out 1).trans rfl
  clear hb hz F2 F3 F4 R2 R3 P4 G1 G2 G3 GR3 B1 B2 B4 Z1
  refine wp_loop_rounds 1 ?_
  rw [rounds_succ]
  go_wp2_with (first
    | (go_at_call 82; refine (is_calls b 40 40 w4 HR.out true (by decide)).mono ?_; rintro e w6 ⟨rfl, rfl⟩)
    | ((with_reducible refine gate_store (t := 29) (p := 2) rfl ?_); refine put_event rfl 29 _ _ rfl w.heap.size #[.int .i64 40, .slice A n cp] rfl rfl 29 flawC0 R4.out (by kernel_rfl) rfl (flaw_all _ _ _ _) w.heap.size (Nat.le_refl _) ?_; intro w5 hb5 hB5 hs5 ho5; have B5 : Hid (Below w.heap.size w w5) := Lib.hid (BW.out.trans hB5); clear hB5 hs5 ho5))
  have c0 : w5.cell? ⟨w.heap.size, 0, none⟩ = some (.int .i64 40) := (cell_row hb5 0).trans rfl
  have c1 : w5.cell? ⟨w.heap.size, 1, none⟩ = some (.slice A n cp) := (cell_row hb5 1).trans rfl
  exact bodyPost_ret (v := .agg #[.int .i64 40, .slice A n cp]) (by simp [results, Tryz.results36, go_sem, c0, c1]) rfl ⟨rfl, B5.out⟩
set_option maxHeartbeats 8000000 in
theorem told_24 (b : Nat) (A : Option Addr) (n cp : Nat) (w : World) (h : w.heap[b]? = some (.cells #[.slice A n cp, .iface 109 (.int .i64 24)] 111 (0, 0))) (hG : Glob w) :
    Calls Tryz.prog 36 #[flawV b] w fun e w' => e = .returned (.agg #[.int .i64 24, .slice A n cp]) ∧ Below w.heap.size w w' := by
  have HG := Lib.hid hG
  have HF := Lib.hid h
  clear hG h
  unfold flawV
  have tk1 : True := trivial
  go_enter Tryz.func36, Tryz.ntmps36
  go_wp2_with (first
    | (have _t := tk1; refine run_event rfl (.alloc 29) rfl (.pointer (some ⟨w.heap.size, 0, none⟩)) (w.alloc (.cells flawC0 29)) (by kernel_rfl) ?_; intro w1 hw1; have B1 : Hid (Below w.heap.size w w1) := Lib.hid (by rw [hw1]; exact alloc_below _ _); have Z1 : Hid (w1.heap.size = w.heap.size + 1) := Lib.hid (by rw [hw1]; simp); have G1 : Hid (w1.heap[w.heap.size]? = some (.cells flawC0 29 (0, 0))) := Lib.hid (by rw [hw1]; exact heap_alloc_new _ _); clear hw1 tk1 _t)
    | (refine run_event rfl (.alloc 108) rfl (.pointer (some ⟨w1.heap.size, 0, none⟩)) (w1.alloc (.cells #[.pointer none] 108)) (by kernel_rfl) ?_; intro w2 hw2; have B2 : Hid (Below w1.heap.size w1 w2) := Lib.hid (by rw [hw2]; exact alloc_below _ _); have G2 : Hid (w2.heap[w1.heap.size]? = some (.cells #[.pointer none] 108 (0, 0))) := Lib.hid (by rw [hw2]; exact heap_alloc_new _ _); clear hw2)
    | (go_at_call 68; refine (as_calls b w1.heap.size w2 (HG.out.below (B1.out.trans (B2.out.mono B1.out.size))).errt G2.out).mono ?_; rintro e w3 ⟨rfl, hg3, hc3⟩; have G3 := Lib.hid hc3; have GR3 := Lib.hid hg3; clear hg3 hc3)
    | (refine run_event rfl (.buildSlice 155 2 _) rfl (.slice (some ⟨w3.heap.size, 0, none⟩) 2 2) (w3.alloc (.cells #[.int .i64 40, .int .i64 24] 26)) (by kernel_rfl) ?_; intro w4 hw4; have G4 : Hid (w4.heap[w3.heap.size]? = some (.cells #[.int .i64 40, .int .i64 24] 26 (0, 0))) := Lib.hid (by rw [hw4]; exact heap_alloc_new _ _); have B4 : Hid (Below w3.heap.size w3 w4) := Lib.hid (by rw [hw4]; exact alloc_below _ _); clear hw4))
  have hb := (Array.getElem?_eq_some_iff.1 HF.out).1
  have hz := Z1.out
  have F2 := (B2.out.block b (by omega)).trans ((B1.out.block b hb).trans HF.out)
  have F3 := (GR3.out.block b (Array.getElem?_eq_some_iff.1 F2).1 (fun e => by injection e with e; omega)).trans F2
  have F4 := (B4.out.block b (Array.getElem?_eq_some_iff.1 F3).1).trans F3
  have R2 := (B2.out.block w.heap.size (by omega)).trans G1.out
  have R3 := (GR3.out.block w.heap.size (Array.getElem?_eq_some_iff.1 R2).1 (fun e => by injection e with e; omega)).trans R2
  have R4 := Lib.hid ((B4.out.block w.heap.size (Array.getElem?_eq_some_iff.1 R3).1).trans R3)
  have P4 := (B4.out.block w1.heap.size (Array.getElem?_eq_some_iff.1 G3.out).1).trans G3.out
  have BW : Hid (Below w.heap.size w w4) := Lib.hid (B1.out.trans ((B2.out.mono B1.out.size).trans ((below_of_grown GR3.out (by omega) (by have := B2.out.size; omega)).trans (B4.out.mono (by have := GR3.out.size; have := B2.out.size; omega)))))
  have y0 : w4.cell? ⟨w1.heap.size, 0, none⟩ = some (.pointer (some ⟨b, 0, none⟩)) := (cell_row P4 0).trans rfl
  have y1 : w4.cell? ⟨b, 0, none⟩ = some (.slice A n cp) := (cell_row F4 0).trans rfl
  have HR : Hid (w4.cell? ⟨b, 1, none⟩ = some (.iface 109 (.int .i64 24))) := Lib.hid ((cell_row F4 1).trans rfl)
  have s0 : w4.cell? ⟨w3.heap.size, 0, none⟩ = some (.int .i64 40) := (cell_row G4.out 0).trans rfl
  have s1 : w4.cell? ⟨w3.heap.size, 1, none⟩ = some (.int .i64 24) := (cell_row G4.out 1).trans rfl
  clear hb hz F2 F3 F4 R2 R3 P4 G1 G2 G3 GR3 B1 B2 B4 Z1
  refine wp_loop_rounds 2 ?_
  rw [rounds_succ]
  go_wp2_with (first
    | (go_at_call 82; refine (is_calls b 40 24 w4 HR.out false (by decide)).mono ?_; rintro e w6 ⟨rfl, rfl⟩))
  rw [rounds_succ]
  go_wp2_with (first
    | (go_at_call 82; refine (is_calls b 24 24 w4 HR.out true (by decide)).mono ?_; rintro e w6 ⟨rfl, rfl⟩)
    | ((with_reducible refine gate_store (t := 29) (p := 2) rfl ?_); refine put_event rfl 29 _ _ rfl w.heap.size #[.int .i64 24, .slice A n cp] rfl rfl 29 flawC0 R4.out (by kernel_rfl) rfl (flaw_all _ _ _ _) w.heap.size (Nat.le_refl _) ?_; intro w5 hb5 hB5 hs5 ho5; have B5 : Hid (Below w.heap.size w w5) := Lib.hid (BW.out.trans hB5); clear hB5 hs5 ho5))
  have c0 : w5.cell? ⟨w.heap.size, 0, none⟩ = some (.int .i64 24) := (cell_row hb5 0).trans rfl
  have c1 : w5.cell? ⟨w.heap.size, 1, none⟩ = some (.slice A n cp) := (cell_row hb5 1).trans rfl
  exact bodyPost_ret (v := .agg #[.int .i64 24, .slice A n cp]) (by simp [results, Tryz.results36, go_sem, c0, c1]) rfl ⟨rfl, B5.out⟩
theorem as_nil (x : Value) (w : World) : Calls Tryz.prog 68 #[.nilIface, x] w fun e w' => e = .returned (.bool false) ∧ w = w' := by
  go_enter Tryz.func68, Tryz.ntmps68
  go_wp2
  go_ret
  exact ⟨rfl, rfl⟩
theorem told_nil (w : World) : Calls Tryz.prog 36 #[.nilIface] w fun e w' => e = .returned (.agg #[.int .i64 0, .slice none 0 0]) ∧ Below w.heap.size w w' := by
  go_enter Tryz.func36, Tryz.ntmps36
  go_wp2_with (first
    | (go_at_call 68; refine (as_nil _ _).mono ?_; rintro e w3 ⟨rfl, rfl⟩))
  exact bodyPost_ret (v := .agg #[.int .i64 0, .slice none 0 0]) (by simp [results, Tryz.results36, go_sem]) rfl ⟨rfl, ((Below.refl _ _).alloc (Nat.le_refl _) _).alloc (by simp) _⟩
end Go.Proofs.YtmfejjlmflgnbaaGreatDoor.Tok

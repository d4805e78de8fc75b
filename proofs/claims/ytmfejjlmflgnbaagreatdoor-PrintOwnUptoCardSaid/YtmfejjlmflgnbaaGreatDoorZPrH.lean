/- CONTRACT: package printer's Fits. -/
import Derived.Test.YtmfejjlmflgnbaaGreatDoorZPrG
namespace Go.Proofs.YtmfejjlmflgnbaaGreatDoor.Tok
open Go.RowKit Go.Proofs.YtmfejjlmflgnbaaGreatDoor.PA Go.Proofs.YtmfejjlmflgnbaaGreatDoorW.PrintWords Go.Proofs.YtmfejjlmflgnbaaGreatDoorW.PrintLast Go.Proofs.YtmfejjlmflgnbaaGreatDoor.Sp Go.Proofs.YtmfejjlmflgnbaaGreatDoor.Tr
set_option linter.unusedVariables false
set_option linter.unusedSimpArgs false
set_option maxRecDepth 100000

/-- A flaw as plain data: none, or where. -/
def FlawRes (r : Option (List Int)) (w : World) (e : Ending) (w' : World) : Prop :=
  Below w.heap.size w w' ∧ match r with
    | none => e = .returned (.agg #[.int .i64 0, .slice none 0 0])
    | some q => ∃ v, e = .returned (.agg #[.int .i64 40, v]) ∧ IntsR w' w.heap.size v q
theorem told_res (b : Nat) (q : List Int) (B : Nat) (w : World) (h : FlawAt w B b q 40) (hG : Glob w) :
    Calls Tryz.prog 36 #[flawV b] w fun e w' => (∃ A c, e = .returned (.agg #[.int .i64 40, .slice A q.length c]) ∧ IntsR w' B (.slice A q.length c) q) ∧ Below w.heap.size w w' := by
  obtain ⟨_, v, h1, h2⟩ := h
  obtain ⟨A, c, hv⟩ := ints_form h2
  subst hv
  exact (told_40 b A q.length c w h1 hG).mono fun e w' ⟨he, hB⟩ => ⟨⟨A, c, he, h2.below hB⟩, hB⟩
theorem two_worlds {w W0 : World} {A B : Array Value} {S T : TypeId} (h : W0 = (w.alloc (.cells A S)).alloc (.cells B T)) :
    Hid (Below w.heap.size w W0) ∧ Hid (W0.heap[w.heap.size + 1]? = some (.cells B T (0, 0))) ∧ Hid (W0.heap.size = w.heap.size + 2) := by
  subst h
  have b1 := alloc_below w (.cells A S)
  have z1 : (w.alloc (.cells A S)).heap.size = w.heap.size + 1 := by simp
  have g1 := heap_alloc_new (w.alloc (.cells A S)) (.cells B T)
  rw [z1] at g1
  generalize w.alloc (.cells A S) = w1 at *
  have b2 := alloc_below w1 (.cells B T)
  exact ⟨Lib.hid (b1.trans (b2.mono b1.size)), Lib.hid g1, Lib.hid (by simp [z1])⟩
set_option maxHeartbeats 8000000 in
theorem pfits_calls (t : ST) (A : Option Addr) (c : Nat) (w : World) (hC : Kd.C k44 w A t.f2.length t.f2) (hc : t.f2.length ≤ c) (hT : TreeOk t) (hG : Glob w) :
    Calls Tryz.prog 13 #[treeV t A c] w (FlawRes (badT t) w) := by
  have HG := Lib.hid hG
  have HF : Hid (∀ W, Below w.heap.size w W → Calls Tryz.prog 37 #[.agg #[.string t.f0, .string t.f1, .slice A t.f2.length c, .bool t.f3, .string t.f4]] W (FitsPost (badT t) W)) := Lib.hid (fun W hB => fits_calls t A c W (Kd.C_below hC hB) hc hT (hG.below hB))
  obtain ⟨r, hr⟩ : ∃ r, badT t = r := ⟨_, rfl⟩
  rw [hr] at HF ⊢
  clear hG hC hT hr
  unfold treeV treeC
  go_enter Tryz.func13, Tryz.ntmps13
  go_wp2_with fail
  obtain ⟨w0, hw0⟩ : ∃ w0 : World, w0 = ((w.alloc (.cells #[.string t.f0, .string t.f1, .slice A t.f2.length c, .bool t.f3, .string t.f4] 24)).alloc (.cells #[.int .i64 0, .slice none 0 0] 29)) := ⟨_, rfl⟩
  rw [← hw0]
  obtain ⟨B0, G0, Z0⟩ := two_worlds hw0
  clear hw0
  refine (HF.out w0 B0.out).mono ?_
  rintro e w1 hF1
  cases r with
  | none =>
    obtain ⟨hB1, rfl⟩ := hF1
    have B1 := Lib.hid (B0.out.trans (hB1.mono B0.out.size))
    have G1 := Lib.hid ((hB1.block _ (Array.getElem?_eq_some_iff.1 G0.out).1).trans G0.out)
    clear hB1
    go_wp2_with (first
      | (go_at_call 36; refine (told_nil w1).mono ?_; rintro e w2 ⟨rfl, hB2⟩; have B2 := Lib.hid (B1.out.trans (hB2.mono B1.out.size)); have G2 := Lib.hid ((hB2.block _ (Array.getElem?_eq_some_iff.1 G1.out).1).trans G1.out); clear hB2)
      | ((with_reducible refine gate_store (t := 29) (p := 2) rfl ?_); refine put_event rfl 29 _ _ rfl (w.heap.size + 1) #[.int .i64 0, .slice none 0 0] rfl rfl 29 flawC0 G2.out (by kernel_rfl) rfl (flaw_all _ _ _ _) (w.heap.size + 1) (Nat.le_refl _) ?_; intro w3 hb3 hB3 hs3 ho3; have B3 : Hid (Below w.heap.size w w3) := Lib.hid (B2.out.trans (hB3.mono (by omega))); clear hB3 hs3 ho3))
    have c0 : w3.cell? ⟨w.heap.size + 1, 0, none⟩ = some (.int .i64 0) := (cell_row hb3 0).trans rfl
    have c1 : w3.cell? ⟨w.heap.size + 1, 1, none⟩ = some (.slice none 0 0) := (cell_row hb3 1).trans rfl
    exact bodyPost_ret (v := .agg #[.int .i64 0, .slice none 0 0]) (by simp [results, Tryz.results13, go_sem, c0, c1]) rfl ⟨B3.out, rfl⟩
  | some q =>
    obtain ⟨hB1, b, rfl, hFl⟩ := hF1
    have B1 := Lib.hid (B0.out.trans (hB1.mono B0.out.size))
    have G1 := Lib.hid ((hB1.block _ (Array.getElem?_eq_some_iff.1 G0.out).1).trans G0.out)
    have HFl := Lib.hid hFl
    clear hB1 hFl
    go_wp2_with (first
      | (go_at_call 36; refine (told_res b q _ w1 HFl.out (HG.out.below B1.out)).mono ?_; rintro e w2 ⟨⟨A2, c2, rfl, hI⟩, hB2⟩; have B2 := Lib.hid (B1.out.trans (hB2.mono B1.out.size)); have G2 := Lib.hid ((hB2.block _ (Array.getElem?_eq_some_iff.1 G1.out).1).trans G1.out); have I2 := Lib.hid hI; clear hB2 hI)
      | ((with_reducible refine gate_store (t := 29) (p := 2) rfl ?_); refine put_event rfl 29 _ _ rfl (w.heap.size + 1) #[.int .i64 40, .slice A2 q.length c2] rfl rfl 29 flawC0 G2.out (by kernel_rfl) rfl (flaw_all _ _ _ _) (w.heap.size + 1) (Nat.le_refl _) ?_; intro w3 hb3 hB3 hs3 ho3; have O3 := Lib.hid ho3; have B3 : Hid (Below w.heap.size w w3) := Lib.hid (B2.out.trans (hB3.mono (by omega))); clear hB3 hs3 ho3))
    have c0 : w3.cell? ⟨w.heap.size + 1, 0, none⟩ = some (.int .i64 40) := (cell_row hb3 0).trans rfl
    have c1 : w3.cell? ⟨w.heap.size + 1, 1, none⟩ = some (.slice A2 q.length c2) := (cell_row hb3 1).trans rfl
    have hI : IntsR w3 w.heap.size (.slice A2 q.length c2) q := by
      have h1 := Kd.R_move (w1 := w3) (Kd.R_bound I2.out) (fun k hk => O3.out k (by have := hk.2.1; have := Z0.out; omega))
      exact Kd.R_lower (Kd.R_mono h1 (fun _ _ => trivial)) B0.out.size
    exact bodyPost_ret (v := .agg #[.int .i64 40, .slice A2 q.length c2]) (by simp [results, Tryz.results13, go_sem, c0, c1]) rfl ⟨B3.out, _, rfl, hI⟩
end Go.Proofs.YtmfejjlmflgnbaaGreatDoor.Tok

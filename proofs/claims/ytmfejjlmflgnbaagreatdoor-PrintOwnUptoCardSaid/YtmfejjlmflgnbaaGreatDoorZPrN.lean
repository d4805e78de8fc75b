/- CONTRACT: package printer's Print: a tree's text, or where it is at fault, or that the text is too long. -/
import Derived.Test.YtmfejjlmflgnbaaGreatDoorZPrA
import Derived.Test.YtmfejjlmflgnbaaGreatDoorZPrH
import Derived.Test.YtmfejjlmflgnbaaGreatDoorZOpens
namespace Go.Proofs.YtmfejjlmflgnbaaGreatDoor.Tok
open Go.RowKit Go.Proofs.YtmfejjlmflgnbaaGreatDoor.PA Go.Proofs.YtmfejjlmflgnbaaGreatDoorW.PrintWords Go.Proofs.YtmfejjlmflgnbaaGreatDoorW.PrintLast Go.Proofs.YtmfejjlmflgnbaaGreatDoor.Sp Go.Proofs.YtmfejjlmflgnbaaGreatDoor.Tr
set_option linter.unusedVariables false
set_option linter.unusedSimpArgs false
set_option maxRecDepth 100000

/-- A slice of whole numbers that is read. -/
structure AtQ0 (w : World) (A : Option Addr) (c : Nat) (q : List Int) : Prop where
  cap : q.length ≤ c
  rd : Kd.C (Kd.int .i64) w A q.length q
theorem ints_at0 {w : World} {B : Nat} {A : Option Addr} {n c : Nat} {q : List Int} (h : IntsR w B (.slice A n c) q) : AtQ0 w A c q := by
  obtain ⟨A', c', hv, hl, hC⟩ := Kd.R_reads h
  injection hv with e1 e2 e3
  subst e1 e3
  exact ⟨hl, hC⟩
theorem AtQ0.below {w w1 : World} {A : Option Addr} {c : Nat} {q : List Int} (h : AtQ0 w A c q) (hB : Below w.heap.size w w1) : AtQ0 w1 A c q := ⟨h.cap, Kd.C_below h.rd hB⟩
/-- What Print answers. -/
def PrintRes (t : ST) (w : World) (e : Ending) (w' : World) : Prop :=
  Below w.heap.size w w' ∧ match badT t with
    | some q => ∃ A c, e = .returned (.tuple #[.string ⟨#[]⟩, .agg #[.int .i64 40, .slice A q.length c]]) ∧ AtQ0 w' A c q
    | none => if (treeT t).length > 262144 then e = .returned (.tuple #[.string ⟨#[]⟩, .agg #[.int .i64 24, .slice none 0 0]])
      else e = .returned (.tuple #[.string ⟨(treeT t).toArray⟩, .agg #[.int .i64 0, .slice none 0 0]])
theorem at_O {w' : World} {g : Nat} {a : SO} {A5 : Option Addr} {c5 : Nat} (h2 : w'.heap[g]? = some (.cells (objC a A5 c5) 44 (0, 0))) :
    w'.cell? ⟨g, 0, none⟩ = some (.string a.f0) ∧ w'.cell? ⟨g, 1, none⟩ = some (.string a.f1) ∧ w'.cell? ⟨g, 6, none⟩ = some (.bool a.f4) ∧ w'.cell? ⟨g, 7, none⟩ = some (.string a.f5) :=
  ⟨(cell_row h2 0).trans rfl, (cell_row h2 1).trans rfl, (cell_row h2 6).trans rfl, (cell_row h2 7).trans rfl⟩
theorem words_obj (d : Nat) (n z e : ByteArray) (E : Bs) (he : e.data.toList = E) : lineT d ([n, z, ⟨#[123]⟩, ⟨#[125]⟩ ++ e].map bs) = lineT d [bs n, bs z, [123], [125] ++ E] := by
  subst he
  simp only [List.map_cons, List.map_nil, bs_app]
  rfl
theorem words_objs (d : Nat) (n z : ByteArray) : lineT d ([n, z, ⟨#[123]⟩].map bs) = lineT d [bs n, bs z, [123]] := rfl
theorem words_ver (z : ByteArray) (Q : Bs) (hz : z.data.toList = Q) : lineT 0 ([⟨#[79, 73, 76, 95, 86, 69, 82, 83, 73, 79, 78]⟩, ⟨#[61]⟩, z ++ ⟨#[59]⟩].map bs) = lineT 0 [verT, [61], Q ++ [59]] := by
  subst hz
  simp only [List.map_cons, List.map_nil, bs_app]
  rfl
theorem words_cpu (n : ByteArray) : lineT 0 ([⟨#[67, 80, 85]⟩, n, ⟨#[123]⟩].map bs) = lineT 0 [[67, 80, 85], bs n, [123]] := rfl
theorem objsT_app : ∀ l r : List SO, objsT (l ++ r) = objsT l ++ objsT r
  | [], r => by simp [objsT]
  | a :: l, r => by rw [List.cons_append, objsT, objsT, objsT_app l r, List.append_assoc]
theorem objs_some_len {l : List SO} {acc L2 : Bs} (h : (acc ++ objsT l ++ L2).length ≤ 140737488355328) : ∀ j o, l[j]? = some o → (acc ++ objsT (l.take j) ++ objT o).length ≤ 140737488355328 := fun j o hj => by
  have h1 : objsT l = objsT (l.take (j + 1)) ++ objsT (l.drop (j + 1)) := by rw [← objsT_app, List.take_append_drop]
  rw [h1, objsT_take l j o hj] at h
  simp only [List.length_append] at h ⊢
  omega
theorem attrs_some_len2 {d : Nat} {l : List SA} {acc L1 L2 : Bs} (h : (acc ++ (L1 ++ attrsT d l ++ L2)).length ≤ 140737488355328) : (acc ++ L1).length ≤ 140737488355328 ∧ (∀ j a, l[j]? = some a → (acc ++ L1 ++ attrsT d (l.take j) ++ attrT d a).length ≤ 140737488355328) ∧ (acc ++ L1 ++ attrsT d l ++ L2).length ≤ 140737488355328 := by
  simp only [List.length_append] at h ⊢
  refine ⟨by omega, fun j a hj => ?_, by omega⟩
  have h1 : attrsT d l = attrsT d (l.take (j + 1)) ++ attrsT d (l.drop (j + 1)) := by rw [← attrsT_app, List.take_append_drop]
  rw [h1, attrsT_take l j a hj] at h
  simp only [List.length_append] at h
  omega
theorem tree_lens {t : ST} (h : (treeT t).length ≤ 140737488355328) : ([] ++ lineT 0 [verT, [61], quoteT (bs t.f0) ++ [59]]).length ≤ 140737488355328 ∧ ([] ++ lineT 0 [verT, [61], quoteT (bs t.f0) ++ [59]] ++ lineT 0 [[67, 80, 85], bs t.f1, [123]]).length ≤ 140737488355328 ∧ ([] ++ lineT 0 [verT, [61], quoteT (bs t.f0) ++ [59]] ++ lineT 0 [[67, 80, 85], bs t.f1, [123]] ++ objsT t.f2 ++ lineT 0 [[125] ++ endB t.f3 t.f4]).length ≤ 140737488355328 := by
  rw [treeT_eq] at h
  simp only [List.length_append, List.nil_append] at h ⊢
  refine ⟨by omega, by omega, by omega⟩
theorem flaw_results {w3 : World} {g : Nat} {c : Int} {v : Value} (hb3 : w3.heap[g]? = some (.cells #[.int .i64 c, v] 29 (0, 0))) : w3.cell? ⟨g, 0, none⟩ = some (.int .i64 c) ∧ w3.cell? ⟨g, 1, none⟩ = some v :=
  ⟨(cell_row hb3 0).trans rfl, (cell_row hb3 1).trans rfl⟩
set_option maxHeartbeats 32000000 in
theorem pprint_calls (t : ST) (A : Option Addr) (c : Nat) (w : World) (hC : Kd.C k44 w A t.f2.length t.f2) (hc : t.f2.length ≤ c) (hT : TreeSm t) (hG : Glob w) :
    Calls Tryz.prog 18 #[treeV t A c] w (PrintRes t w) := by
  have HG := Lib.hid hG
  have HC := Lib.hid hC
  have HT := Lib.hid hT
  have HF : Hid (∀ W, Below w.heap.size w W → Calls Tryz.prog 37 #[.agg #[.string t.f0, .string t.f1, .slice A t.f2.length c, .bool t.f3, .string t.f4]] W (FitsPost (badT t) W)) := Lib.hid (fun W hB => fits_calls t A c W (Kd.C_below hC hB) hc hT.ok (hG.below hB))
  obtain ⟨r, hr⟩ : ∃ r, badT t = r := ⟨_, rfl⟩
  have HE : Hid (∀ e w', Below w.heap.size w w' → (match r with
    | some q => ∃ A c, e = .returned (.tuple #[.string ⟨#[]⟩, .agg #[.int .i64 40, .slice A q.length c]]) ∧ AtQ0 w' A c q
    | none => if (treeT t).length > 262144 then e = .returned (.tuple #[.string ⟨#[]⟩, .agg #[.int .i64 24, .slice none 0 0]])
      else e = .returned (.tuple #[.string ⟨(treeT t).toArray⟩, .agg #[.int .i64 0, .slice none 0 0]])) → PrintRes t w e w') := Lib.hid (fun e w' h1 h2 => ⟨h1, by rw [hr]; exact h2⟩)
  rw [hr] at HF
  have HRR := Lib.hid hr
  clear hG hC hT hr
  unfold treeV treeC
  go_enter Tryz.func18, Tryz.ntmps18
  go_wp2_with fail
  obtain ⟨w0, hw0⟩ : ∃ w0 : World, w0 = ((w.alloc (.cells #[.string t.f0, .string t.f1, .slice A t.f2.length c, .bool t.f3, .string t.f4] 24)).alloc (.cells #[.int .i64 0, .slice none 0 0] 29)) := ⟨_, rfl⟩
  rw [← hw0]
  obtain ⟨B0, GF0, Z0⟩ := two_worlds hw0
  have GT0 : Hid (w0.heap[w.heap.size]? = some (.cells (treeC t A c) 24 (0, 0))) := Lib.hid (by
    rw [hw0]
    have g := heap_alloc_new w (.cells #[.string t.f0, .string t.f1, .slice A t.f2.length c, .bool t.f3, .string t.f4] 24)
    exact ((alloc_below _ _).block _ (by simp)).trans g)
  clear hw0
  refine (HF.out w0 B0.out).mono ?_
  rintro e w1 hF1
  cases r with
  | some q =>
    obtain ⟨hB1, b, rfl, hFl⟩ := hF1
    have B1 := Lib.hid (B0.out.trans (hB1.mono B0.out.size))
    have G1 := Lib.hid ((hB1.block _ (Array.getElem?_eq_some_iff.1 GF0.out).1).trans GF0.out)
    have HFl := Lib.hid hFl
    clear hB1 hFl
    unfold flawV
    go_wp2_with (first
      | (go_at_call 36; refine (told_res b q _ w1 HFl.out (HG.out.below B1.out)).mono ?_; rintro e w2 ⟨⟨A2, c2, rfl, hI⟩, hB2⟩; have B2 := Lib.hid (B1.out.trans (hB2.mono B1.out.size)); have G2 := Lib.hid ((hB2.block _ (Array.getElem?_eq_some_iff.1 G1.out).1).trans G1.out); have I2 := Lib.hid hI; clear hB2 hI)
      | ((with_reducible refine gate_store (t := 29) (p := 3) rfl ?_); refine put_event rfl 29 _ _ rfl (w.heap.size + 1) #[.int .i64 40, .slice A2 q.length c2] rfl rfl 29 flawC0 G2.out (by kernel_rfl) rfl (flaw_all _ _ _ _) (w.heap.size + 1) (Nat.le_refl _) ?_; intro w3 hb3 hB3 hs3 ho3; have O3 := Lib.hid ho3; have G3 := Lib.hid hb3; have B3 : Hid (Below w.heap.size w w3) := Lib.hid (B2.out.trans (hB3.mono (by omega))); clear hb3 hB3 hs3 ho3))
    have hI : IntsR w3 w.heap.size (.slice A2 q.length c2) q := by
      have h1 := Kd.R_move (w1 := w3) (Kd.R_bound I2.out) (fun k hk => O3.out k (by have := hk.2.1; have := Z0.out; omega))
      exact Kd.R_lower (Kd.R_mono h1 (fun _ _ => trivial)) B0.out.size
    refine bodyPost_ret (results_list (rs := [.tmp 2, .cell 3 29]) rfl (by simp) (.tmp (.cell (w.heap.size + 1) 29 #[.int .i64 40, .slice A2 q.length c2] (0, 0) _ rfl G3.out Tryz.underlying29 rfl (by kernel_rfl) .nil))) rfl ?_
    exact HE.out _ _ B3.out ⟨A2, c2, rfl, ints_at0 hI⟩
  | none =>
    obtain ⟨hB1, rfl⟩ := hF1
    obtain ⟨hfs, hfn, hfo⟩ := fits_tree HRR.out
    have B01 := Lib.hid hB1
    have B1 := Lib.hid (B0.out.trans (hB1.mono B0.out.size))
    have GF1 : Hid (w1.heap[w.heap.size + 1]? = some (.cells flawC0 29 (0, 0))) := Lib.hid ((hB1.block _ (Array.getElem?_eq_some_iff.1 GF0.out).1).trans GF0.out)
    have GT1 : Hid (w1.heap[w.heap.size]? = some (.cells (treeC t A c) 24 (0, 0))) := Lib.hid ((hB1.block _ (Array.getElem?_eq_some_iff.1 GT0.out).1).trans GT0.out)
    have Z1 : Hid (w.heap.size + 2 ≤ w1.heap.size) := Lib.hid (by have := Z0.out; have := hB1.size; omega)
    have HGW : Hid (Glob w1) := Lib.hid (HG.out.below B1.out)
    have HC1 : Hid (Kd.C k44 w1 A t.f2.length t.f2) := Lib.hid (Kd.C_below HC.out B1.out)
    clear hB1
    obtain ⟨zq, hzq⟩ : ∃ z : ByteArray, z.data.toList = quoteT (bs t.f0) := ⟨⟨(quoteT (bs t.f0)).toArray⟩, by simp⟩
    have hzs : zq.size ≤ 3000000000 := by
      have h1 := quote_len (bs t.f0)
      have h2 := bs_len t.f0
      have h3 := bs_len zq
      have h4 := HT.out.ok.str.1
      unfold bs at h3
      rw [hzq] at h3
      omega
    have HSP : Hid (∀ W, Glob W → Calls Tryz.prog 46 #[.agg #[.int .i64 3, .int .i64 0, .int .i64 0, .int .i64 0, .string t.f0, .int .u32 0, .bool false]] W fun e w' => e = .returned (.string zq) ∧ Below W.heap.size W w') :=
      Lib.hid (fun W hW => pspell_calls 3 0 0 0 t.f0 0 false W (by omega) hW zq (by
        rw [hzq]
        unfold spellT
        have : stringB t.f0.data.toList = true := hfs
        simp [this]
        try rfl))
    obtain ⟨qe, hqe, hqs⟩ := end_text t.f3 t.f4 HT.out.ok.str.2
    have HEN : Hid (∀ W, Glob W → Calls Tryz.prog 47 #[.bool t.f3, .string t.f4] W fun e w' => e = .returned (.string qe) ∧ Below W.heap.size W w') :=
      Lib.hid (fun W hW => pend_calls t.f3 t.f4 HT.out.ok.str.2 W hW hfn qe hqe)
    have HZQ := Lib.hid hzq
    have HQE := Lib.hid hqe
    have HFO := Lib.hid hfo
    obtain ⟨hl1, hl2, hl3⟩ := tree_lens HT.out.text
    have HL1 := Lib.hid hl1
    have HL2 := Lib.hid hl2
    have HL3 := Lib.hid hl3
    have HLN := Lib.hid HT.out.ok.len
    have hx59 : (⟨#[59]⟩ : ByteArray).size = 1 := rfl
    have hx125 : (⟨#[125]⟩ : ByteArray).size = 1 := rfl
    clear hzq hqe hfs hfn hfo hl1 hl2 hl3
    obtain ⟨y0, y1, y2, y3, y4⟩ := tree_read GT1.out (Below.refl _ _)
    clear y1 y2 y3 y4
    have tk1 : True := trivial
    go_wp2_with (first
      | (have _t := tk1; refine run_event rfl (.box 99 _) rfl (.pointer (some ⟨w1.heap.size, 0, none⟩)) (w1.alloc (.cells #[.pointer none, .slice none 0 0] 99)) (by kernel_rfl) ?_; intro w2 hw2; have L2 : Hid (Ln w1.heap.size [] w1 w2 w2) := Lib.hid (by rw [hw2]; exact ⟨Lib.fresh_isBuilder _ _ w1, alloc_below _ _, Lib.OthersKept.refl _ _ _⟩); obtain ⟨y0, _, _, _, _⟩ := tree_read GT1.out (show Below w1.heap.size w1 w2 from L2.out.bel); clear hw2 tk1 _t)
      | (go_at_call 46; refine (HSP.out _ (HGW.out.below (show Below w1.heap.size w1 _ from L2.out.bel))).mono ?_; rintro e w3 ⟨rfl, hB3⟩; have L3 : Hid (Ln w1.heap.size [] w1 w2 w3) := Lib.hid (L2.out.step hB3); clear hB3 y0)
      | (have _t := L3; refine run_event rfl (.buildSlice 51 3 _) rfl (.slice (some ⟨w3.heap.size, 0, none⟩) 3 3) (w3.alloc (.cells #[.string ⟨#[79, 73, 76, 95, 86, 69, 82, 83, 73, 79, 78]⟩, .string ⟨#[61]⟩, .string (zq ++ ⟨#[59]⟩)] 9)) (by kernel_rfl) ?_; intro w4 hw4; have L4 : Hid (Ln w1.heap.size [] w1 w2 w4) := Lib.hid (by rw [hw4]; exact L3.out.step (alloc_below _ _)); have G4 : Hid (w4.heap[w3.heap.size]? = some (.cells #[.string ⟨#[79, 73, 76, 95, 86, 69, 82, 83, 73, 79, 78]⟩, .string ⟨#[61]⟩, .string (zq ++ ⟨#[59]⟩)] 9 (0, 0))) := Lib.hid (by rw [hw4]; exact heap_alloc_new _ _); clear hw4 _t L3)
      | (have _t := L4; go_at_call 45; refine (line_calls2 w1.heap.size 0 w3.heap.size [] [(⟨#[79, 73, 76, 95, 86, 69, 82, 83, 73, 79, 78]⟩ : ByteArray), (⟨#[61]⟩ : ByteArray), zq ++ (⟨#[59]⟩ : ByteArray)] w1 w2 w4 L4.out G4.out (by omega) (by simp) (by rw [words_ver zq _ HZQ.out]; exact HL1.out)).mono ?_; rintro e w5 ⟨rfl, hL5⟩; rw [words_ver zq _ HZQ.out] at hL5; have L5 := Lib.hid hL5; obtain ⟨_, y1, _, _, _⟩ := tree_read GT1.out (show Below w1.heap.size w1 w5 from hL5.bel); clear hL5 L4 _t)
      | (have _t := L5; refine run_event rfl (.buildSlice 51 3 _) rfl (.slice (some ⟨w5.heap.size, 0, none⟩) 3 3) (w5.alloc (.cells #[.string ⟨#[67, 80, 85]⟩, .string t.f1, .string ⟨#[123]⟩] 9)) (by kernel_rfl) ?_; intro w6 hw6; have L6 : Hid (Ln w1.heap.size ([] ++ lineT 0 [verT, [61], quoteT (bs t.f0) ++ [59]]) w1 w2 w6) := Lib.hid (by rw [hw6]; exact L5.out.step (alloc_below _ _)); have G6 : Hid (w6.heap[w5.heap.size]? = some (.cells #[.string ⟨#[67, 80, 85]⟩, .string t.f1, .string ⟨#[123]⟩] 9 (0, 0))) := Lib.hid (by rw [hw6]; exact heap_alloc_new _ _); clear hw6 y1 _t L5)
      | (have _t := L6; go_at_call 45; refine (line_calls2 w1.heap.size 0 w5.heap.size _ [(⟨#[67, 80, 85]⟩ : ByteArray), t.f1, (⟨#[123]⟩ : ByteArray)] w1 w2 w6 L6.out G6.out (by omega) (by simp) (by rw [words_cpu t.f1]; exact HL2.out)).mono ?_; rintro e w7 ⟨rfl, hL7⟩; rw [words_cpu t.f1] at hL7; have L7 := Lib.hid hL7; obtain ⟨_, _, y2, _, _⟩ := tree_read GT1.out (show Below w1.heap.size w1 w7 from hL7.bel); clear hL7 L6 _t))
    clear y2
    obtain ⟨acc, hacc⟩ : ∃ acc, acc = [] ++ lineT 0 [verT, [61], quoteT (bs t.f0) ++ [59]] ++ lineT 0 [[67, 80, 85], bs t.f1, [123]] := ⟨_, rfl⟩
    rw [← hacc] at L7 HL3
    have HLO : Hid (∀ j o, t.f2[j]? = some o → (acc ++ objsT (t.f2.take j) ++ objT o).length ≤ 140737488355328) := Lib.hid (objs_some_len HL3.out)
    have HTT : Hid (treeT t = acc ++ objsT t.f2 ++ lineT 0 [[125] ++ endB t.f3 t.f4]) := Lib.hid (by rw [treeT_eq, hacc]; simp only [List.nil_append])
    clear hacc
    go_loopw [34] (fun v wr => ∃ j : Nat, v = .int .i64 (j : Int) ∧ j ≤ t.f2.length ∧ Hid (Ln w1.heap.size (acc ++ objsT (t.f2.take j)) w1 w2 wr)) (fun v _ => t.f2.length - (intOf v).toNat)
    case atStart => exact ⟨0, by go_num, by omega, Lib.hid (by rw [List.take_zero]; exact (List.append_nil acc).symm ▸ L7.out)⟩
    case round =>
      obtain ⟨j, rfl, hj, LR⟩ := hrel
      have hl9 := HLN.out
      by_cases hlt : j < t.f2.length
      · have hx : t.f2[j]? = some t.f2[j] := List.getElem?_eq_getElem hlt
        obtain ⟨ad, A5, c5, eA, x0, x1, x2, x3, x4, x5, x6, x7, l5, C5⟩ := at_T44 HC1.out (j : Int) (by omega) (by omega)
        rw [rdo_at t.f2 j _ hx] at x0 x1 x2 x3 x4 x5 x6 x7 l5 C5
        generalize t.f2[j] = a at hx x0 x1 x2 x3 x4 x5 x6 x7 l5 C5
        cases eA
        simp only [Int.toNat_natCast] at x0 x1 x2 x3 x4 x5 x6 x7
        replace x0 := (LR.out.bel.cell (World.block_lt_of_cell? w1 _ x0)).trans x0
        replace x1 := (LR.out.bel.cell (World.block_lt_of_cell? w1 _ x1)).trans x1
        replace x2 := (LR.out.bel.cell (World.block_lt_of_cell? w1 _ x2)).trans x2
        replace x3 := (LR.out.bel.cell (World.block_lt_of_cell? w1 _ x3)).trans x3
        replace x4 := (LR.out.bel.cell (World.block_lt_of_cell? w1 _ x4)).trans x4
        replace x5 := (LR.out.bel.cell (World.block_lt_of_cell? w1 _ x5)).trans x5
        replace x6 := (LR.out.bel.cell (World.block_lt_of_cell? w1 _ x6)).trans x6
        replace x7 := (LR.out.bel.cell (World.block_lt_of_cell? w1 _ x7)).trans x7
        have HX := Lib.hid hx
        have HC5 := Lib.hid C5
        obtain ⟨hno, hfa⟩ := fits_obj (badOs_all t.f2 0 HFO.out j a hx)
        have hs5 := HT.out.ok.note j a hx
        obtain ⟨qo, hqo, hqos⟩ := end_text a.f4 a.f5 hs5
        have HEO : Hid (∀ W, Glob W → Calls Tryz.prog 47 #[.bool a.f4, .string a.f5] W fun e w' => e = .returned (.string qo) ∧ Below W.heap.size W w') :=
          Lib.hid (fun W hW => pend_calls a.f4 a.f5 hs5 W hW hno qo hqo)
        have HQO := Lib.hid hqo
        have hsz1 : ¬ 9223372036854775807 < 1 + qo.size := by omega
        have hsz2 : ¬ 9223372036854775807 < (⟨#[125]⟩ : ByteArray).size + qo.size := by omega
        have HFA := Lib.hid hfa
        have HWA := Lib.hid (HT.out.ok.wf j a hx)
        have hcn := HT.out.sm j a hx
        have HCN := Lib.hid hcn
        have HLA := Lib.hid (show a.f3.length ≤ 1048576 by have := cnt_len a.f3; omega)
        have HLJ := Lib.hid (HLO.out j a hx)
        have HNX : Hid (acc ++ objsT (t.f2.take (j + 1)) = acc ++ objsT (t.f2.take j) ++ objT a) := Lib.hid (by rw [objsT_take t.f2 j a hx, ← List.append_assoc])
        clear hx C5 hno hfa hs5 hqo hcn
        obtain ⟨accj, haccj⟩ : ∃ accj, accj = acc ++ objsT (t.f2.take j) := ⟨_, rfl⟩
        rw [← haccj] at LR HLJ HNX
        clear haccj
        have tk2 : True := trivial
        go_upto_if 41 with (first
          | (have _t := tk2; refine run_event rfl (.alloc 44) rfl (.pointer (some ⟨wr.heap.size, 0, none⟩)) (wr.alloc (.cells obj0 44)) (by kernel_rfl) ?_; intro w8 hw8; have B8 : Hid (Below wr.heap.size wr w8) := Lib.hid (by rw [hw8]; exact alloc_below _ _); have G8 : Hid (w8.heap[wr.heap.size]? = some (.cells obj0 44 (0, 0))) := Lib.hid (by rw [hw8]; exact heap_alloc_new _ _); clear hw8 tk2 _t)
          | ((with_reducible refine gate_store (t := 44) (p := 7) rfl ?_); refine put_event rfl 44 _ _ rfl wr.heap.size (objC a A5 c5) rfl rfl 44 obj0 G8.out (by kernel_rfl) rfl (obj_all _ _ _) wr.heap.size (Nat.le_refl _) ?_; intro w9 hb9 hB9 hs9 ho9; have G9 := Lib.hid hb9; have L29 : Hid (Ln w1.heap.size accj w1 w2 w9) := Lib.hid (LR.out.step (B8.out.trans hB9)); obtain ⟨_, _, y5, _, _⟩ := obj_read hb9 (Below.refl _ _); clear hb9 hB9 hs9 ho9 x0 x1 x2 x3 x4 x5 x6 x7))
        have L9 := Lib.hid L29.out.start
        have HNO : Hid (wr.heap.size ≠ w1.heap.size) := Lib.hid (L29.out.ne G9.out (by decide))
        have HFIN : Hid (∀ w', Ln w1.heap.size (accj ++ objT a) w1 w9 w' → Hid (Ln w1.heap.size (acc ++ objsT (t.f2.take (j + 1))) w1 w2 w')) := Lib.hid (fun w' h => Lib.hid (by rw [HNX.out]; exact ⟨h.is, h.bel, L29.out.kept.trans h.kept⟩))
        by_cases hps : a.f3 = []
        · have HTX := Lib.hid (objT_none hps)
          have hpl : (a.f3.length : Int) = 0 := by rw [hps]; rfl
          have hpl2 : ((a.f3.length : Int) == 0) = true := by rw [hpl]; rfl
          have hpl3 : a.f3.length = 0 := by rw [hps]; rfl
          clear hps y5
          rw [hpl, show ((0 : Int) == 0) = true from rfl]
          go_wp2_with fail
          go_region_held3 (fun W => W.cell? ⟨wr.heap.size, 0, none⟩ = some (.string a.f0) ∧ W.cell? ⟨wr.heap.size, 1, none⟩ = some (.string a.f1) ∧ W.cell? ⟨wr.heap.size, 6, none⟩ = some (.bool a.f4) ∧ W.cell? ⟨wr.heap.size, 7, none⟩ = some (.string a.f5)) (first | exact at_O G9.out | exact at_O G10.out | exact at_O (blk_alloc G10.out _) | exact at_O G11.out | assumption) (first
            | (go_at_call 47; refine (HEO.out _ (HGW.out.below (show Below w1.heap.size w1 _ from (L9.out.step (Below.refl _ _).drew).bel))).mono ?_; rintro e w10 ⟨rfl, hB10⟩; have L10 : Hid (Ln w1.heap.size accj w1 w9 w10) := Lib.hid ((L9.out.step (Below.refl _ _).drew).step hB10); have G10 : Hid (w10.heap[wr.heap.size]? = some (.cells (objC a A5 c5) 44 (0, 0))) := Lib.hid (L10.out.block G9.out (by decide) HNO.out); clear hB10)
            | (go_at_call 45; refine (line_calls2 w1.heap.size 1 w10.heap.size _ [a.f0, a.f1, (⟨#[123]⟩ : ByteArray), (⟨#[125]⟩ : ByteArray) ++ qo] w1 w9 (w10.alloc (.cells #[.string a.f0, .string a.f1, .string ⟨#[123]⟩, .string (⟨#[125]⟩ ++ qo)] 9)) (L10.out.step (alloc_below _ _)) (heap_alloc_new w10 _) (by omega) (by simp) (by rw [words_obj 1 a.f0 a.f1 qo _ HQO.out, ← HTX.out]; exact HLJ.out)).mono ?_; rintro e w11 ⟨rfl, hL11⟩; rw [words_obj 1 a.f0 a.f1 qo _ HQO.out, ← HTX.out] at hL11; have L11 := Lib.hid hL11; have G11 : Hid (w11.heap[wr.heap.size]? = some (.cells (objC a A5 c5) 44 (0, 0))) := Lib.hid (hL11.block G9.out (by decide) HNO.out); clear hL11))
          all_goals
            go_wp2_with fail
            exact ⟨⟨j + 1, by go_num, by omega, HFIN.out _ L11.out⟩, by simp [intOf]; omega⟩
        · have HTX := Lib.hid (objT_some hps)
          have hlens := HLJ.out
          rw [HTX.out] at hlens
          obtain ⟨hle1, hle2, hle3⟩ := attrs_some_len2 hlens
          have HLE1 := Lib.hid hle1
          have HLE2 := Lib.hid hle2
          have HLE3 := Lib.hid hle3
          have hpl : ¬ (a.f3.length : Int) = 0 := fun e => hps (List.length_eq_zero_iff.1 (by omega))
          have hpl2 : ((a.f3.length : Int) == 0) = false := by rw [beq_eq_false_iff_ne]; exact hpl
          have hpl3 : ¬ a.f3.length = 0 := by omega
          clear hps hlens hle1 hle2 hle3 y5
          obtain ⟨y0, y1, _, _, _⟩ := obj_read G9.out (Below.refl _ _)
          go_wp2_with (first
            | (have _t := y0; refine run_event rfl (.buildSlice 51 3 _) rfl (.slice (some ⟨w9.heap.size, 0, none⟩) 3 3) (w9.alloc (.cells #[.string a.f0, .string a.f1, .string ⟨#[123]⟩] 9)) (by kernel_rfl) ?_; intro wb hwb; have LB : Hid (Ln w1.heap.size accj w1 w9 wb) := Lib.hid (by rw [hwb]; exact L9.out.step (alloc_below _ _)); have GB : Hid (wb.heap[w9.heap.size]? = some (.cells #[.string a.f0, .string a.f1, .string ⟨#[123]⟩] 9 (0, 0))) := Lib.hid (by rw [hwb]; exact heap_alloc_new _ _); clear hwb y0 y1 _t)
            | (have _t := LB; go_at_call 45; refine (line_calls2 w1.heap.size 1 w9.heap.size _ [a.f0, a.f1, (⟨#[123]⟩ : ByteArray)] w1 w9 wb LB.out GB.out (by omega) (by simp) (by rw [words_objs 1 a.f0 a.f1]; exact HLE1.out)).mono ?_; rintro e w10 ⟨rfl, hL10⟩; rw [words_objs 1 a.f0 a.f1] at hL10; have L10 := Lib.hid hL10; have G10 : Hid (w10.heap[wr.heap.size]? = some (.cells (objC a A5 c5) 44 (0, 0))) := Lib.hid (hL10.block G9.out (by decide) HNO.out); obtain ⟨_, _, y5, _, _⟩ := obj_read G10.out (Below.refl _ _); clear hL10 LB _t))
          clear y5
          obtain ⟨acc1, hacc1⟩ : ∃ acc1, acc1 = accj ++ lineT 1 [bs a.f0, bs a.f1, [123]] := ⟨_, rfl⟩
          rw [← hacc1] at HLE2 HLE3 L10
          have HACC := Lib.hid hacc1
          clear hacc1
          generalize wr.heap.size = bo at *
          go_loopw [65] (fun v wr => ∃ i : Nat, v = .int .i64 (i : Int) ∧ i ≤ a.f3.length ∧ Hid (Ln w1.heap.size (acc1 ++ attrsT 2 (a.f3.take i)) w1 w9 wr)) (fun v _ => a.f3.length - (intOf v).toNat)
          case atStart => exact ⟨0, by go_num, by omega, Lib.hid (by rw [List.take_zero, attrsT_nil, List.append_nil]; exact L10.out)⟩
          case round =>
            obtain ⟨i, rfl, hi, LQ⟩ := hrel
            have hl8 := HLA.out
            by_cases hlt2 : i < a.f3.length
            · have hx : a.f3[i]? = some a.f3[i] := List.getElem?_eq_getElem hlt2
              obtain ⟨bd, A8, c8, eB, x0, x1, x2, x3, x4, x5, x6, x7, x8, x9, x10, x11, l8, C8⟩ := at_T50 HC5.out (i : Int) (by omega) (by omega)
              rw [rd_at a.f3 i _ hx] at x0 x1 x2 x3 x4 x5 x6 x7 x8 x9 x10 x11 l8 C8
              have hcnp := cnt_get a.f3 i _ hx
              have hwf := wf_get a.f3 i _ HWA.out hx
              generalize a.f3[i] = p at hx x0 x1 x2 x3 x4 x5 x6 x7 x8 x9 x10 x11 l8 C8 hcnp hwf
              cases eB
              simp only [Int.toNat_natCast] at x0 x1 x2 x3 x4 x5 x6 x7 x8 x9 x10 x11
              replace x0 := (LQ.out.bel.cell (World.block_lt_of_cell? w1 _ x0)).trans x0
              replace x1 := (LQ.out.bel.cell (World.block_lt_of_cell? w1 _ x1)).trans x1
              replace x2 := (LQ.out.bel.cell (World.block_lt_of_cell? w1 _ x2)).trans x2
              replace x3 := (LQ.out.bel.cell (World.block_lt_of_cell? w1 _ x3)).trans x3
              replace x4 := (LQ.out.bel.cell (World.block_lt_of_cell? w1 _ x4)).trans x4
              replace x5 := (LQ.out.bel.cell (World.block_lt_of_cell? w1 _ x5)).trans x5
              replace x6 := (LQ.out.bel.cell (World.block_lt_of_cell? w1 _ x6)).trans x6
              replace x7 := (LQ.out.bel.cell (World.block_lt_of_cell? w1 _ x7)).trans x7
              replace x8 := (LQ.out.bel.cell (World.block_lt_of_cell? w1 _ x8)).trans x8
              replace x9 := (LQ.out.bel.cell (World.block_lt_of_cell? w1 _ x9)).trans x9
              replace x10 := (LQ.out.bel.cell (World.block_lt_of_cell? w1 _ x10)).trans x10
              replace x11 := (LQ.out.bel.cell (World.block_lt_of_cell? w1 _ x11)).trans x11
              have HXP := Lib.hid hx
              have HCNP := Lib.hid hcnp
              have HWFP := Lib.hid hwf
              have HC8 := Lib.hid C8
              clear hx hcnp hwf C8
              have tk3 : True := trivial
              go_wp2_with (first
                | (have _t := tk3; refine run_event rfl (.alloc 50) rfl (.pointer (some ⟨wr.heap.size, 0, none⟩)) (wr.alloc (.cells attr0 50)) (by kernel_rfl) ?_; intro w11 hw11; have B11 : Hid (Below wr.heap.size wr w11) := Lib.hid (by rw [hw11]; exact alloc_below _ _); have G11 : Hid (w11.heap[wr.heap.size]? = some (.cells attr0 50 (0, 0))) := Lib.hid (by rw [hw11]; exact heap_alloc_new _ _); clear hw11 tk3 _t)
                | ((with_reducible refine gate_store (t := 50) (p := 9) rfl ?_); refine put_event rfl 50 _ _ rfl wr.heap.size (attrC p p.f2.f2 A8 c8) rfl rfl 50 attr0 G11.out (by kernel_rfl) rfl (attr_all _ _ _ _) wr.heap.size (Nat.le_refl _) ?_; intro w12 hb12 hB12 hs12 ho12; have L12 : Hid (Ln w1.heap.size (acc1 ++ attrsT 2 (a.f3.take i)) w1 w9 w12) := Lib.hid (LQ.out.step (B11.out.trans hB12)); obtain ⟨t0, t1, t2, t3, t4, t5, t6, t7, t8, t9, t10, t11⟩ := attr_cells hb12; clear hb12 hB12 hs12 ho12 x0 x1 x2 x3 x4 x5 x6 x7 x8 x9 x10 x11))
              refine (pattr_calls (cntA p) p 2 w1.heap.size _ A8 c8 w1 w12 (Nat.le_refl _) L12.out.start HC8.out l8 HWFP.out (HFA.out i p HXP.out) (by have := HCNP.out; have := HCN.out; omega) (HLE2.out i p HXP.out) HGW.out).mono ?_
              rintro e w13 ⟨rfl, hL13⟩
              have LN : Hid (Ln w1.heap.size (acc1 ++ attrsT 2 (a.f3.take (i + 1))) w1 w9 w13) := Lib.hid (by
                rw [attrsT_take a.f3 i p HXP.out, ← List.append_assoc]
                exact ⟨hL13.is, hL13.bel, L12.out.kept.trans hL13.kept⟩)
              clear hL13 t0 t1 t2 t3 t4 t5 t6 t7 t8 t9 t10 t11
              go_wp2_with fail
              exact ⟨⟨i + 1, by go_num, by omega, LN⟩, by simp [intOf]; omega⟩
            · obtain rfl : i = a.f3.length := by omega
              have LE : Hid (Ln w1.heap.size (acc1 ++ attrsT 2 a.f3) w1 w9 wr) := Lib.hid (by
                have := LQ.out
                rwa [List.take_of_length_le (Nat.le_refl _)] at this)
              have GOR : Hid (wr.heap[bo]? = some (.cells (objC a A5 c5) 44 (0, 0))) := Lib.hid (LE.out.block G9.out (by decide) HNO.out)
              obtain ⟨_, _, _, y6, y7⟩ := obj_read GOR.out (Below.refl _ _)
              clear LQ
              go_wp2_with (first
                | (go_at_call 47; refine (HEO.out _ (HGW.out.below (show Below w1.heap.size w1 _ from LE.out.bel))).mono ?_; rintro e w11 ⟨rfl, hB11⟩; have L11 : Hid (Ln w1.heap.size (acc1 ++ attrsT 2 a.f3) w1 w9 w11) := Lib.hid (LE.out.step hB11); clear hB11 y6 y7)
                | (refine run_event rfl (.buildSlice 51 1 _) rfl (.slice (some ⟨w11.heap.size, 0, none⟩) 1 1) (w11.alloc (.cells #[.string (⟨#[125]⟩ ++ qo)] 9)) (by kernel_rfl) ?_; intro wb2 hwb; have LB2 : Hid (Ln w1.heap.size (acc1 ++ attrsT 2 a.f3) w1 w9 wb2) := Lib.hid (by rw [hwb]; exact L11.out.step (alloc_below _ _)); have GB2 : Hid (wb2.heap[w11.heap.size]? = some (.cells #[.string (⟨#[125]⟩ ++ qo)] 9 (0, 0))) := Lib.hid (by rw [hwb]; exact heap_alloc_new _ _); clear hwb)
                | (go_at_call 45; refine (line_calls2 w1.heap.size 1 w11.heap.size _ [(⟨#[125]⟩ : ByteArray) ++ qo] w1 w9 wb2 LB2.out GB2.out (by omega) (by simp) (by rw [words_end 1 qo _ HQO.out]; exact HLE3.out)).mono ?_; rintro e w12 ⟨rfl, hL12⟩; rw [words_end 1 qo _ HQO.out] at hL12; have L12 := Lib.hid hL12; clear hL12))
              have LF : Hid (Ln w1.heap.size (accj ++ objT a) w1 w9 w12) := Lib.hid (by
                rw [HTX.out]
                have := L12.out
                rw [HACC.out] at this
                simpa only [List.append_assoc] using this)
              exact ⟨⟨j + 1, by go_num, by omega, HFIN.out _ LF.out⟩, by simp [intOf]; omega⟩
      · obtain rfl : j = t.f2.length := by omega
        have LE : Hid (Ln w1.heap.size (acc ++ objsT t.f2) w1 w2 wr) := Lib.hid (by
          have := LR.out
          rwa [List.take_of_length_le (Nat.le_refl _)] at this)
        obtain ⟨_, _, _, y3, y4⟩ := tree_read GT1.out (show Below w1.heap.size w1 wr from LE.out.bel)
        clear LR
        have hbig : (262144 < (treeT t).length) ∨ (treeT t).length ≤ 262144 := by omega
        have htl := HT.out.text
        have HBIG := Lib.hid hbig
        clear hbig
        go_upto_if 96 with (first
          | (go_at_call 47; refine (HEN.out _ (HGW.out.below (show Below w1.heap.size w1 _ from LE.out.bel))).mono ?_; rintro e w11 ⟨rfl, hB11⟩; have L11 : Hid (Ln w1.heap.size (acc ++ objsT t.f2) w1 w2 w11) := Lib.hid (LE.out.step hB11); clear hB11 y3 y4)
          | (refine run_event rfl (.buildSlice 51 1 _) rfl (.slice (some ⟨w11.heap.size, 0, none⟩) 1 1) (w11.alloc (.cells #[.string (⟨#[125]⟩ ++ qe)] 9)) (by kernel_rfl) ?_; intro wb2 hwb; have LB2 : Hid (Ln w1.heap.size (acc ++ objsT t.f2) w1 w2 wb2) := Lib.hid (by rw [hwb]; exact L11.out.step (alloc_below _ _)); have GB2 : Hid (wb2.heap[w11.heap.size]? = some (.cells #[.string (⟨#[125]⟩ ++ qe)] 9 (0, 0))) := Lib.hid (by rw [hwb]; exact heap_alloc_new _ _); clear hwb)
          | (go_at_call 45; refine (line_calls2 w1.heap.size 0 w11.heap.size _ [(⟨#[125]⟩ : ByteArray) ++ qe] w1 w2 wb2 LB2.out GB2.out (by omega) (by simp) (by rw [words_end 0 qe _ HQE.out]; exact HL3.out)).mono ?_; rintro e w12 ⟨rfl, hL12⟩; rw [words_end 0 qe _ HQE.out, ← HTT.out] at hL12; have L12 := Lib.hid hL12; clear hL12)
          | (go_at_call 49; refine (ln_len _ w1.heap.size _ w12 L12.out.is).mono ?_; rintro e w13 ⟨rfl, hw13⟩; rw [hw13, Lib.byteCells_length]; clear hw13))
        have BW : Hid (Below w.heap.size w w12) := Lib.hid (B1.out.trans (L12.out.bel.mono B1.out.size))
        have GFW : Hid (w12.heap[w.heap.size + 1]? = some (.cells flawC0 29 (0, 0))) := Lib.hid ((L12.out.bel.block _ (by have := Z1.out; omega)).trans GF1.out)
        rcases HBIG.out with hbig | hbig
        · have hb1 : decide ((262144 : Int) < ((treeT t).length : Int)) = true := decide_eq_true (by omega)
          have hb2 : (262144 : Int) < ((treeT t).length : Int) := by omega
          have HB := Lib.hid hbig
          clear hbig
          rw [hb1]
          have tk4 : True := trivial
          go_wp2_with (first
            | (have _t := tk4; refine run_event rfl (.box 111 _) rfl (.pointer (some ⟨w12.heap.size, 0, none⟩)) (w12.alloc (.cells #[.slice none 0 0, .iface 109 (.int .i64 24)] 111)) (by kernel_rfl) ?_; intro w14 hw14; have B14 : Hid (Below w12.heap.size w12 w14) := Lib.hid (by rw [hw14]; exact alloc_below _ _); have G14 : Hid (w14.heap[w12.heap.size]? = some (.cells #[.slice none 0 0, .iface 109 (.int .i64 24)] 111 (0, 0))) := Lib.hid (by rw [hw14]; exact heap_alloc_new _ _); have BW14 : Hid (Below w.heap.size w w14) := Lib.hid (BW.out.trans (B14.out.mono BW.out.size)); clear hw14 tk4 _t)
            | (go_at_call 36; refine (told_24 w12.heap.size none 0 0 w14 G14.out (HG.out.below BW14.out)).mono ?_; rintro e w15 ⟨rfl, hB15⟩; have B15 := Lib.hid (BW14.out.trans (hB15.mono BW14.out.size)); have G15 : Hid (w15.heap[w.heap.size + 1]? = some (.cells flawC0 29 (0, 0))) := Lib.hid (((B14.out.trans (hB15.mono B14.out.size)).block _ (Array.getElem?_eq_some_iff.1 GFW.out).1).trans GFW.out); clear hB15)
            | ((with_reducible refine gate_store (t := 29) (p := 3) rfl ?_); refine put_event rfl 29 _ _ rfl (w.heap.size + 1) #[.int .i64 24, .slice none 0 0] rfl rfl 29 flawC0 G15.out (by kernel_rfl) rfl (flaw_all _ _ _ _) (w.heap.size + 1) (Nat.le_refl _) ?_; intro w16 hb16 hB16 hs16 ho16; have G16 := Lib.hid hb16; have B16 : Hid (Below w.heap.size w w16) := Lib.hid (B15.out.trans (hB16.mono (by omega))); clear hb16 hB16 hs16 ho16))
          refine bodyPost_ret (results_list (rs := [.tmp 2, .cell 3 29]) rfl (by simp) (.tmp (.cell (w.heap.size + 1) 29 #[.int .i64 24, .slice none 0 0] (0, 0) _ rfl G16.out Tryz.underlying29 rfl (by kernel_rfl) .nil))) rfl ?_
          exact HE.out _ _ B16.out (by show (if (treeT t).length > 262144 then _ else _); rw [if_pos HB.out]; rfl)
        · have hb1 : decide ((262144 : Int) < ((treeT t).length : Int)) = false := decide_eq_false (by omega)
          have hb2 : ¬ (262144 : Int) < ((treeT t).length : Int) := by omega
          have HB := Lib.hid hbig
          have HNE : Hid (treeT t ≠ []) := Lib.hid (by rw [treeT_eq]; simp [lineT])
          clear hbig
          rw [hb1]
          go_wp2_with (first
            | (go_at_call 50; refine (ln_text _ w1.heap.size _ w12 L12.out.is HNE.out).mono ?_; rintro e w14 ⟨rfl, hB14⟩; have B14 : Hid (Below w.heap.size w w14) := Lib.hid (B1.out.trans ((L12.out.bel.trans hB14).mono B1.out.size)); have G14 : Hid (w14.heap[w.heap.size + 1]? = some (.cells flawC0 29 (0, 0))) := Lib.hid (((L12.out.bel.trans hB14).block _ (by have := Z1.out; omega)).trans GF1.out); clear hB14)
            | ((with_reducible refine gate_store (t := 29) (p := 3) rfl ?_); refine put_event rfl 29 _ _ rfl (w.heap.size + 1) #[.int .i64 0, .slice none 0 0] rfl rfl 29 flawC0 G14.out (by kernel_rfl) rfl (flaw_all _ _ _ _) (w.heap.size + 1) (Nat.le_refl _) ?_; intro w16 hb16 hB16 hs16 ho16; have G16 := Lib.hid hb16; have B16 : Hid (Below w.heap.size w w16) := Lib.hid (B14.out.trans (hB16.mono (by omega))); clear hb16 hB16 hs16 ho16))
          refine bodyPost_ret (results_list (rs := [.tmp 2, .cell 3 29]) rfl (by simp) (.tmp (.cell (w.heap.size + 1) 29 #[.int .i64 0, .slice none 0 0] (0, 0) _ rfl G16.out Tryz.underlying29 rfl (by kernel_rfl) .nil))) rfl ?_
          exact HE.out _ _ B16.out (by show (if (treeT t).length > 262144 then _ else _); rw [if_neg (by have := HB.out; omega)]; rfl)
end Go.Proofs.YtmfejjlmflgnbaaGreatDoor.Tok

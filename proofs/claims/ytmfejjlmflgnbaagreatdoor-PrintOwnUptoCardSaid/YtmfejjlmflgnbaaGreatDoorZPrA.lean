/- CONTRACT: package printer's (*lines).attr, by induction on how many attributes stand in one. -/
import Derived.Test.YtmfejjlmflgnbaaGreatDoorZLine
import Derived.Test.YtmfejjlmflgnbaaGreatDoorZOpens
import Derived.Test.YtmfejjlmflgnbaaGreatDoorZPrF
namespace Go.Proofs.YtmfejjlmflgnbaaGreatDoor.Tok
open Go.RowKit Go.Proofs.YtmfejjlmflgnbaaGreatDoor.PA Go.Proofs.YtmfejjlmflgnbaaGreatDoorW.PrintWords Go.Proofs.YtmfejjlmflgnbaaGreatDoorW.PrintLast Go.Proofs.YtmfejjlmflgnbaaGreatDoor.Sp Go.Proofs.YtmfejjlmflgnbaaGreatDoor.Tr
set_option linter.unusedVariables false
set_option linter.unusedSimpArgs false
set_option maxRecDepth 100000

theorem attr_cells {w' : World} {g : Nat} {a : SA} {n : Int} {A9 : Option Addr} {c9 : Nat} (h2 : w'.heap[g]? = some (.cells (attrC a n A9 c9) 50 (0, 0))) :
    w'.cell? ⟨g, 0, none⟩ = some (.string a.f0) ∧ w'.cell? ⟨g, 1, none⟩ = some (.int .i64 a.f1.f0) ∧ w'.cell? ⟨g, 2, none⟩ = some (.int .i64 a.f1.f1) ∧ w'.cell? ⟨g, 3, none⟩ = some (.int .i64 a.f1.f2) ∧ w'.cell? ⟨g, 4, none⟩ = some (.int .i64 a.f2.f0) ∧ w'.cell? ⟨g, 5, none⟩ = some (.string a.f2.f1) ∧ w'.cell? ⟨g, 6, none⟩ = some (.int .u32 n) ∧ w'.cell? ⟨g, 7, none⟩ = some (.bool a.f2.f3) ∧ w'.cell? ⟨g, 8, none⟩ = some (.bool a.f3) ∧ w'.cell? ⟨g, 9, none⟩ = some (.slice A9 a.f4.length c9) ∧ w'.cell? ⟨g, 10, none⟩ = some (.bool a.f5) ∧ w'.cell? ⟨g, 11, none⟩ = some (.string a.f6) :=
  ⟨(cell_row h2 0).trans rfl, (cell_row h2 1).trans rfl, (cell_row h2 2).trans rfl, (cell_row h2 3).trans rfl, (cell_row h2 4).trans rfl, (cell_row h2 5).trans rfl, (cell_row h2 6).trans rfl, (cell_row h2 7).trans rfl, (cell_row h2 8).trans rfl, (cell_row h2 9).trans rfl, (cell_row h2 10).trans rfl, (cell_row h2 11).trans rfl⟩
theorem at_S {w' : World} {g h : Nat} {a : SA} {n : Int} {A9 : Option Addr} {c9 : Nat} {kk : Int} {t : ByteArray} {m : Int} {x : Bool} (h2 : w'.heap[g]? = some (.cells (attrC a n A9 c9) 50 (0, 0))) (h3 : w'.heap[h]? = some (.cells (tokCells kk 0 0 0 t m x) 104 (0, 0))) :
    w'.cell? ⟨g, 0, none⟩ = some (.string a.f0) ∧ w'.cell? ⟨g, 10, none⟩ = some (.bool a.f5) ∧ w'.cell? ⟨g, 11, none⟩ = some (.string a.f6) ∧ w'.cell? ⟨h, 0, none⟩ = some (.int .i64 kk) ∧ w'.cell? ⟨h, 1, none⟩ = some (.int .i64 0) ∧ w'.cell? ⟨h, 2, none⟩ = some (.int .i64 0) ∧ w'.cell? ⟨h, 3, none⟩ = some (.int .i64 0) ∧ w'.cell? ⟨h, 4, none⟩ = some (.string t) ∧ w'.cell? ⟨h, 5, none⟩ = some (.int .u32 m) ∧ w'.cell? ⟨h, 6, none⟩ = some (.bool x) :=
  ⟨(cell_row h2 0).trans rfl, (cell_row h2 10).trans rfl, (cell_row h2 11).trans rfl, (cell_row h3 0).trans rfl, (cell_row h3 1).trans rfl, (cell_row h3 2).trans rfl, (cell_row h3 3).trans rfl, (cell_row h3 4).trans rfl, (cell_row h3 5).trans rfl, (cell_row h3 6).trans rfl⟩
theorem at_S0 {w' : World} {g h : Nat} {a : SA} {n : Int} {A9 : Option Addr} {c9 : Nat} {kk : Int} {t : ByteArray} {m : Int} {x : Bool} (h2 : w'.heap[g]? = some (.cells (attrC a n A9 c9) 50 (0, 0))) (h3 : w'.heap[h]? = some (.cells (tokCells kk 0 0 0 t m x) 104 (0, 0))) :
    w'.cell? ⟨g, 0, none⟩ = some (.string a.f0) ∧ w'.cell? ⟨h, 0, none⟩ = some (.int .i64 kk) ∧ w'.cell? ⟨h, 1, none⟩ = some (.int .i64 0) ∧ w'.cell? ⟨h, 2, none⟩ = some (.int .i64 0) ∧ w'.cell? ⟨h, 3, none⟩ = some (.int .i64 0) ∧ w'.cell? ⟨h, 4, none⟩ = some (.string t) ∧ w'.cell? ⟨h, 5, none⟩ = some (.int .u32 m) ∧ w'.cell? ⟨h, 6, none⟩ = some (.bool x) :=
  ⟨(cell_row h2 0).trans rfl, (cell_row h3 0).trans rfl, (cell_row h3 1).trans rfl, (cell_row h3 2).trans rfl, (cell_row h3 3).trans rfl, (cell_row h3 4).trans rfl, (cell_row h3 5).trans rfl, (cell_row h3 6).trans rfl⟩
theorem blk_alloc {w : World} {k : Nat} {o : Obj} (h : w.heap[k]? = some o) (X : Obj) : (w.alloc X).heap[k]? = some o := ((alloc_below w X).block _ (Array.getElem?_eq_some_iff.1 h).1).trans h
theorem line_calls2 (b d bk : Nat) (acc : Bs) (xs : List ByteArray) (w0 wa w : World) (h : Ln b acc w0 wa w) (hx : w.heap[bk]? = some (.cells (wordsC xs) 9 (0, 0))) (hd : d ≤ 3000000) (hN : xs.length ≤ 100) (hlen : (acc ++ lineT d (xs.map bs)).length ≤ 140737488355328) :
    Calls Tryz.prog 45 #[.pointer (some ⟨b, 0, none⟩), .int .i64 (d : Int), .slice (some ⟨bk, 0, none⟩) xs.length xs.length] w fun e w' => e = .returned (.tuple #[]) ∧ Ln b (acc ++ lineT d (xs.map bs)) w0 wa w' :=
  (line_calls b d bk acc xs w0 w h.start hx hd hN hlen).mono fun e w' hp => by
    obtain ⟨he, hL⟩ := hp
    exact ⟨he, hL.is, hL.bel, h.kept.trans hL.kept⟩
theorem bs_app (x y : ByteArray) : bs (x ++ y) = bs x ++ bs y := by unfold bs; simp
theorem words_bare (d : Nat) (n z e : ByteArray) (V E : Bs) (hz : z.data.toList = V) (he : e.data.toList = E) : lineT d ([n, ⟨#[61]⟩, z ++ e].map bs) = lineT d [bs n, [61], V ++ E] := by
  subst hz he
  simp only [List.map_cons, List.map_nil, bs_app]
  rfl
theorem words_none (d : Nat) (n z e : ByteArray) (V E : Bs) (hz : z.data.toList = V) (he : e.data.toList = E) : lineT d ([n, ⟨#[61]⟩, z, ⟨#[123]⟩, ⟨#[125]⟩ ++ e].map bs) = lineT d [bs n, [61], V, [123], [125] ++ E] := by
  subst hz he
  simp only [List.map_cons, List.map_nil, bs_app]
  rfl
theorem words_some (d : Nat) (n z : ByteArray) (V : Bs) (hz : z.data.toList = V) : lineT d ([n, ⟨#[61]⟩, z, ⟨#[123]⟩].map bs) = lineT d [bs n, [61], V, [123]] := by
  subst hz
  simp only [List.map_cons, List.map_nil]
  rfl
theorem words_end (d : Nat) (e : ByteArray) (E : Bs) (he : e.data.toList = E) : lineT d ([⟨#[125]⟩ ++ e].map bs) = lineT d [[125] ++ E] := by
  subst he
  simp only [List.map_cons, List.map_nil, bs_app]
  rfl
theorem attrsT_app (d : Nat) : ∀ l r : List SA, attrsT d (l ++ r) = attrsT d l ++ attrsT d r
  | [], r => by simp [attrsT_nil]
  | a :: l, r => by rw [List.cons_append, attrsT_cons, attrsT_cons, attrsT_app d l r, List.append_assoc]
theorem attrs_some_len {d : Nat} {l : List SA} {acc L1 L2 : Bs} (h : (acc ++ (L1 ++ attrsT (d + 1) l ++ L2)).length ≤ 140737488355328) : (acc ++ L1).length ≤ 140737488355328 ∧ (∀ j a, l[j]? = some a → (acc ++ L1 ++ attrsT (d + 1) (l.take j) ++ attrT (d + 1) a).length ≤ 140737488355328) ∧ (acc ++ L1 ++ attrsT (d + 1) l ++ L2).length ≤ 140737488355328 := by
  simp only [List.length_append] at h ⊢
  refine ⟨by omega, fun j a hj => ?_, by omega⟩
  have h1 : attrsT (d + 1) l = attrsT (d + 1) (l.take (j + 1)) ++ attrsT (d + 1) (l.drop (j + 1)) := by rw [← attrsT_app, List.take_append_drop]
  rw [h1, attrsT_take l j a hj] at h
  simp only [List.length_append] at h
  omega
set_option maxHeartbeats 16000000 in
theorem pattr_calls (m : Nat) : ∀ (a : SA) (d b : Nat) (acc : Bs) (A9 : Option Addr) (c9 : Nat) (w0 w : World), cntA a ≤ m → Ln b acc w0 w w → Kd.C k50 w0 A9 a.f4.length a.f4 → a.f4.length ≤ c9 → wfA a → FitsA a → d + cntA a ≤ 2000000 → (acc ++ attrT d a).length ≤ 140737488355328 → Glob w0 →
    Calls Tryz.prog 48 #[.pointer (some ⟨b, 0, none⟩), .agg (attrC a a.f2.f2 A9 c9), .int .i64 (d : Int)] w fun e w' => e = .returned (.tuple #[]) ∧ Ln b (acc ++ attrT d a) w0 w w' := by
  induction m with
  | zero =>
    intro a d b acc A9 c9 w0 w hm
    have := cnt_eq a
    omega
  | succ m ih =>
    intro a d b acc A9 c9 w0 w hm hL hC hc hwf hfit hd hlen hG
    obtain ⟨⟨⟨hn1, hn2⟩, hs1, hs2⟩, hwp⟩ := (wf_eq _).1 hwf
    obtain ⟨n, hn⟩ : ∃ n : Nat, a.f2.f2 = (n : Int) := ⟨a.f2.f2.toNat, by omega⟩
    obtain ⟨hfn, hfv, hfo, hfb, hfp⟩ := fits_parts hfit
    obtain ⟨z, hz1, hz2, hzs⟩ := val_text a.f2 n hn hfv hs1
    obtain ⟨q, hq, hqs⟩ := end_text a.f5 a.f6 hs2
    rw [hn] at hn1 hn2 ⊢
    have hn3 : n < 4294967296 := by omega
    have HN := Lib.hid hn3
    have HNE := Lib.hid hn
    have HM := Lib.hid hm
    have HL := Lib.hid hL
    have HC := Lib.hid hC
    have HWP := Lib.hid hwp
    have HFB := Lib.hid hfb
    have HFP := Lib.hid hfp
    have HLEN := Lib.hid hlen
    have HG := Lib.hid hG
    have HZ := Lib.hid hz2
    have HQ := Lib.hid hq
    have HCN := Lib.hid (cnt_eq a)
    have HFV : Hid (valB ⟨a.f2.f0, a.f2.f1, (n : Int), a.f2.f3⟩ = true) := Lib.hid (by rw [← hn]; exact hfv)
    have HD := Lib.hid hd
    have hd3 : d ≤ 2000000 := by omega
    obtain ⟨kk, hkk⟩ : ∃ kk, kk = kindT a.f2.f0 := ⟨_, rfl⟩
    have HSP : Hid (∀ W, Glob W → Calls Tryz.prog 46 #[.agg #[.int .i64 kk, .int .i64 0, .int .i64 0, .int .i64 0, .string a.f2.f1, .int .u32 (n : Int), .bool a.f2.f3]] W fun e w' => e = .returned (.string z) ∧ Below W.heap.size W w') :=
      Lib.hid (fun W hW => pspell_calls kk 0 0 0 a.f2.f1 n a.f2.f3 W hn3 hW z (by rw [hkk]; exact hz1))
    have HEN : Hid (∀ W, Glob W → Calls Tryz.prog 47 #[.bool a.f5, .string a.f6] W fun e w' => e = .returned (.string q) ∧ Below W.heap.size W w') :=
      Lib.hid (fun W hW => pend_calls a.f5 a.f6 hs2 W hW hfo q hq)
    have HKK := Lib.hid hkk
    have hx61 : (⟨#[61]⟩ : ByteArray).size = 1 := rfl
    have hx125 : (⟨#[125]⟩ : ByteArray).size = 1 := rfl
    have hsz1 : ¬ 9223372036854775807 < z.size + q.size := by omega
    have hsz2 : ¬ 9223372036854775807 < 1 + q.size := by omega
    have hsz3 : ¬ 9223372036854775807 < (⟨#[125]⟩ : ByteArray).size + q.size := by omega
    clear hm hL hC hwf hfit hd hlen hG hn1 hn2 hs1 hs2 hwp hfn hfv hfo hfb hfp hz1 hz2 hq hn hn3 hkk
    unfold attrC
    go_enter Tryz.func48, Tryz.ntmps48
    go_wp2_with fail
    obtain ⟨w1, hw1⟩ : ∃ w1 : World, w1 = w.alloc (.cells #[.string a.f0, .int .i64 a.f1.f0, .int .i64 a.f1.f1, .int .i64 a.f1.f2, .int .i64 a.f2.f0, .string a.f2.f1, .int .u32 (n : Int), .bool a.f2.f3, .bool a.f3, .slice A9 a.f4.length c9, .bool a.f5, .string a.f6] 50) := ⟨_, rfl⟩
    rw [← hw1]
    have B1 : Hid (Below w.heap.size w w1) := Lib.hid (by rw [hw1]; exact alloc_below _ _)
    have GA1 : Hid (w1.heap[w.heap.size]? = some (.cells (attrC a n A9 c9) 50 (0, 0))) := Lib.hid (by rw [hw1]; exact heap_alloc_new _ _)
    clear hw1
    have L1 : Hid (Ln b acc w0 w w1) := Lib.hid (HL.out.step B1.out)
    refine ((valued_calls a.f2.f0 a.f2.f1 n a.f2.f3 w1 HN.out (HG.out.below L1.out.bel) true HFV.out).mono (fun e w' h => (show e = .returned (.tuple #[.agg #[.int .i64 (kindT a.f2.f0), .int .i64 0, .int .i64 0, .int .i64 0, .string a.f2.f1, .int .u32 (n : Int), .bool a.f2.f3], .bool true]) ∧ Below w1.heap.size w1 w' from ⟨h.2, h.1⟩))).mono ?_
    rintro e w2 ⟨rfl, hB2⟩
    rw [← HKK.out]
    have L2 : Hid (Ln b acc w0 w w2) := Lib.hid (L1.out.step hB2)
    have GA2 : Hid (w2.heap[w.heap.size]? = some (.cells (attrC a n A9 c9) 50 (0, 0))) := Lib.hid ((hB2.block _ (Array.getElem?_eq_some_iff.1 GA1.out).1).trans GA1.out)
    clear hB2
    have tk1 : True := trivial
    obtain ⟨bf, hbf⟩ : ∃ bf, a.f3 = bf := ⟨_, rfl⟩
    have HBF := Lib.hid hbf
    clear hbf
    go_upto_if 47 with (first
      | (have _t := tk1; refine run_event rfl (.alloc 104) rfl (.pointer (some ⟨w2.heap.size, 0, none⟩)) (w2.alloc (.cells tok0 104)) (by kernel_rfl) ?_; intro w3 hw3; have B3 : Hid (Below w2.heap.size w2 w3) := Lib.hid (by rw [hw3]; exact alloc_below _ _); have G3 : Hid (w3.heap[w2.heap.size]? = some (.cells tok0 104 (0, 0))) := Lib.hid (by rw [hw3]; exact heap_alloc_new _ _); clear hw3 tk1 _t)
      | ((with_reducible refine gate_store (t := 104) (p := 6) rfl ?_); refine put_event rfl 104 _ _ rfl w2.heap.size (tokCells kk 0 0 0 a.f2.f1 n a.f2.f3) rfl rfl 104 tok0 G3.out (by kernel_rfl) rfl (tok_all _ _ _ _ _ _ _) w2.heap.size (Nat.le_refl _) ?_; intro w4 hb4 hB4 hs4 ho4; have GT4 := Lib.hid hb4; have B24 : Hid (Below w2.heap.size w2 w4) := Lib.hid (B3.out.trans hB4); have GA4 : Hid (w4.heap[w.heap.size]? = some (.cells (attrC a n A9 c9) 50 (0, 0))) := Lib.hid ((B24.out.block _ (Array.getElem?_eq_some_iff.1 GA2.out).1).trans GA2.out); have L04 : Hid (Ln b acc w0 w w4) := Lib.hid (L2.out.step B24.out); obtain ⟨y0, y1, y2, y3, y4, y5, y6, y7, y8, y9, y10, y11⟩ := attr_cells GA4.out; clear hb4 hB4 hs4 ho4 y0 y1 y2 y3 y4 y5 y6 y7 y9 y10 y11))
    clear y8
    have L4 := Lib.hid L04.out.start
    have HNA : Hid (w.heap.size ≠ b) := Lib.hid (L04.out.ne GA4.out (by decide))
    have HNT : Hid (w2.heap.size ≠ b) := Lib.hid (L04.out.ne GT4.out (by decide))
    have HFIN : Hid (∀ w', Ln b (acc ++ attrT d a) w0 w4 w' → Ln b (acc ++ attrT d a) w0 w w') := Lib.hid (fun w' h => ⟨h.is, h.bel, L04.out.kept.trans h.kept⟩)
    cases bf with
    | false =>
      have HTX : Hid (attrT d a = lineT d [bs a.f0, [61], valT a.f2 ++ endB a.f5 a.f6]) := Lib.hid (attrT_bare HBF.out)
      rw [HBF.out, show (!false) = true from rfl]
      go_wp2_with fail
      go_region_held3 (fun W => W.cell? ⟨w.heap.size, 0, none⟩ = some (.string a.f0) ∧ W.cell? ⟨w.heap.size, 10, none⟩ = some (.bool a.f5) ∧ W.cell? ⟨w.heap.size, 11, none⟩ = some (.string a.f6) ∧ W.cell? ⟨w2.heap.size, 0, none⟩ = some (.int .i64 kk) ∧ W.cell? ⟨w2.heap.size, 1, none⟩ = some (.int .i64 0) ∧ W.cell? ⟨w2.heap.size, 2, none⟩ = some (.int .i64 0) ∧ W.cell? ⟨w2.heap.size, 3, none⟩ = some (.int .i64 0) ∧ W.cell? ⟨w2.heap.size, 4, none⟩ = some (.string a.f2.f1) ∧ W.cell? ⟨w2.heap.size, 5, none⟩ = some (.int .u32 (n : Int)) ∧ W.cell? ⟨w2.heap.size, 6, none⟩ = some (.bool a.f2.f3)) (first | exact at_S GA4.out GT4.out | exact at_S GA5.out GT5.out | exact at_S GA6.out GT6.out | exact at_S (blk_alloc GA6.out _) (blk_alloc GT6.out _) | exact at_S GA7.out GT7.out | assumption) (first
    | (go_at_call 46; refine (HSP.out _ (HG.out.below (show Below w0.heap.size w0 _ from (L4.out.step (Below.refl _ _).drew).bel))).mono ?_; rintro e w5 ⟨rfl, hB5⟩; have L5 : Hid (Ln b acc w0 w4 w5) := Lib.hid ((L4.out.step (Below.refl _ _).drew).step hB5); have GA5 : Hid (w5.heap[w.heap.size]? = some (.cells (attrC a n A9 c9) 50 (0, 0))) := Lib.hid ((hB5.block _ (Array.getElem?_eq_some_iff.1 GA4.out).1).trans GA4.out); have GT5 : Hid (w5.heap[w2.heap.size]? = some (.cells (tokCells kk 0 0 0 a.f2.f1 n a.f2.f3) 104 (0, 0))) := Lib.hid ((hB5.block _ (Array.getElem?_eq_some_iff.1 GT4.out).1).trans GT4.out); clear hB5)
    | (go_at_call 47; refine (HEN.out _ (HG.out.below (show Below w0.heap.size w0 _ from L5.out.bel))).mono ?_; rintro e w6 ⟨rfl, hB6⟩; have L6 : Hid (Ln b acc w0 w4 w6) := Lib.hid (L5.out.step hB6); have GA6 : Hid (w6.heap[w.heap.size]? = some (.cells (attrC a n A9 c9) 50 (0, 0))) := Lib.hid ((hB6.block _ (Array.getElem?_eq_some_iff.1 GA5.out).1).trans GA5.out); have GT6 : Hid (w6.heap[w2.heap.size]? = some (.cells (tokCells kk 0 0 0 a.f2.f1 n a.f2.f3) 104 (0, 0))) := Lib.hid ((hB6.block _ (Array.getElem?_eq_some_iff.1 GT5.out).1).trans GT5.out); clear hB6)
    | (go_at_call 47; refine (HEN.out _ (HG.out.below (show Below w0.heap.size w0 _ from (L4.out.step (Below.refl _ _).drew).bel))).mono ?_; rintro e w5 ⟨rfl, hB5⟩; have L5 : Hid (Ln b acc w0 w4 w5) := Lib.hid ((L4.out.step (Below.refl _ _).drew).step hB5); have GA5 : Hid (w5.heap[w.heap.size]? = some (.cells (attrC a n A9 c9) 50 (0, 0))) := Lib.hid ((hB5.block _ (Array.getElem?_eq_some_iff.1 GA4.out).1).trans GA4.out); have GT5 : Hid (w5.heap[w2.heap.size]? = some (.cells (tokCells kk 0 0 0 a.f2.f1 n a.f2.f3) 104 (0, 0))) := Lib.hid ((hB5.block _ (Array.getElem?_eq_some_iff.1 GT4.out).1).trans GT4.out); clear hB5)
    | (go_at_call 46; refine (HSP.out _ (HG.out.below (show Below w0.heap.size w0 _ from L5.out.bel))).mono ?_; rintro e w6 ⟨rfl, hB6⟩; have L6 : Hid (Ln b acc w0 w4 w6) := Lib.hid (L5.out.step hB6); have GA6 : Hid (w6.heap[w.heap.size]? = some (.cells (attrC a n A9 c9) 50 (0, 0))) := Lib.hid ((hB6.block _ (Array.getElem?_eq_some_iff.1 GA5.out).1).trans GA5.out); have GT6 : Hid (w6.heap[w2.heap.size]? = some (.cells (tokCells kk 0 0 0 a.f2.f1 n a.f2.f3) 104 (0, 0))) := Lib.hid ((hB6.block _ (Array.getElem?_eq_some_iff.1 GT5.out).1).trans GT5.out); clear hB6)
    | (go_at_call 45; refine (line_calls2 b d w6.heap.size acc [a.f0, ⟨#[61]⟩, z ++ q] w0 w4 (w6.alloc (.cells #[.string a.f0, .string ⟨#[61]⟩, .string (z ++ q)] 9)) (L6.out.step (alloc_below _ _)) (heap_alloc_new w6 _) (by omega) (by simp) (by rw [words_bare d a.f0 z q _ _ HZ.out HQ.out]; exact (by rw [← HTX.out]; exact HLEN.out))).mono ?_; rintro e w7 ⟨rfl, hL7⟩; rw [words_bare d a.f0 z q _ _ HZ.out HQ.out] at hL7; have L7 := Lib.hid hL7; have GA7 : Hid (w7.heap[w.heap.size]? = some (.cells (attrC a n A9 c9) 50 (0, 0))) := Lib.hid (hL7.block GA4.out (by decide) HNA.out); have GT7 : Hid (w7.heap[w2.heap.size]? = some (.cells (tokCells kk 0 0 0 a.f2.f1 n a.f2.f3) 104 (0, 0))) := Lib.hid (hL7.block GT4.out (by decide) HNT.out); clear hL7))

      all_goals
        go_wp2_with fail
        go_end0
        refine ⟨rfl, HFIN.out _ ?_⟩
        rw [HTX.out]
        exact L7.out
    | true =>
      rw [HBF.out, show (!true) = false from rfl]
      obtain ⟨y0, y1, y2, y3, y4, y5, y6, y7, y8, y9, y10, y11⟩ := attr_cells GA4.out
      by_cases hps : a.f4 = []
      · have HTX : Hid (attrT d a = lineT d [bs a.f0, [61], valT a.f2, [123], [125] ++ endB a.f5 a.f6]) := Lib.hid (attrT_none HBF.out hps)
        have hpl : (a.f4.length : Int) = 0 := by rw [hps]; rfl
        have hpl2 : ((a.f4.length : Int) == 0) = true := by rw [hpl]; rfl
        have hpl3 : a.f4.length = 0 := by rw [hps]; rfl
        clear hps y0 y1 y2 y3 y4 y5 y6 y7 y8 y10 y11
        go_wp2_with fail
        clear y9
        go_region_held3 (fun W => W.cell? ⟨w.heap.size, 0, none⟩ = some (.string a.f0) ∧ W.cell? ⟨w.heap.size, 10, none⟩ = some (.bool a.f5) ∧ W.cell? ⟨w.heap.size, 11, none⟩ = some (.string a.f6) ∧ W.cell? ⟨w2.heap.size, 0, none⟩ = some (.int .i64 kk) ∧ W.cell? ⟨w2.heap.size, 1, none⟩ = some (.int .i64 0) ∧ W.cell? ⟨w2.heap.size, 2, none⟩ = some (.int .i64 0) ∧ W.cell? ⟨w2.heap.size, 3, none⟩ = some (.int .i64 0) ∧ W.cell? ⟨w2.heap.size, 4, none⟩ = some (.string a.f2.f1) ∧ W.cell? ⟨w2.heap.size, 5, none⟩ = some (.int .u32 (n : Int)) ∧ W.cell? ⟨w2.heap.size, 6, none⟩ = some (.bool a.f2.f3)) (first | exact at_S GA4.out GT4.out | exact at_S GA5.out GT5.out | exact at_S GA6.out GT6.out | exact at_S (blk_alloc GA6.out _) (blk_alloc GT6.out _) | exact at_S GA7.out GT7.out | assumption) (first
    | (go_at_call 46; refine (HSP.out _ (HG.out.below (show Below w0.heap.size w0 _ from (L4.out.step (Below.refl _ _).drew).bel))).mono ?_; rintro e w5 ⟨rfl, hB5⟩; have L5 : Hid (Ln b acc w0 w4 w5) := Lib.hid ((L4.out.step (Below.refl _ _).drew).step hB5); have GA5 : Hid (w5.heap[w.heap.size]? = some (.cells (attrC a n A9 c9) 50 (0, 0))) := Lib.hid ((hB5.block _ (Array.getElem?_eq_some_iff.1 GA4.out).1).trans GA4.out); have GT5 : Hid (w5.heap[w2.heap.size]? = some (.cells (tokCells kk 0 0 0 a.f2.f1 n a.f2.f3) 104 (0, 0))) := Lib.hid ((hB5.block _ (Array.getElem?_eq_some_iff.1 GT4.out).1).trans GT4.out); clear hB5)
    | (go_at_call 47; refine (HEN.out _ (HG.out.below (show Below w0.heap.size w0 _ from L5.out.bel))).mono ?_; rintro e w6 ⟨rfl, hB6⟩; have L6 : Hid (Ln b acc w0 w4 w6) := Lib.hid (L5.out.step hB6); have GA6 : Hid (w6.heap[w.heap.size]? = some (.cells (attrC a n A9 c9) 50 (0, 0))) := Lib.hid ((hB6.block _ (Array.getElem?_eq_some_iff.1 GA5.out).1).trans GA5.out); have GT6 : Hid (w6.heap[w2.heap.size]? = some (.cells (tokCells kk 0 0 0 a.f2.f1 n a.f2.f3) 104 (0, 0))) := Lib.hid ((hB6.block _ (Array.getElem?_eq_some_iff.1 GT5.out).1).trans GT5.out); clear hB6)
    | (go_at_call 47; refine (HEN.out _ (HG.out.below (show Below w0.heap.size w0 _ from (L4.out.step (Below.refl _ _).drew).bel))).mono ?_; rintro e w5 ⟨rfl, hB5⟩; have L5 : Hid (Ln b acc w0 w4 w5) := Lib.hid ((L4.out.step (Below.refl _ _).drew).step hB5); have GA5 : Hid (w5.heap[w.heap.size]? = some (.cells (attrC a n A9 c9) 50 (0, 0))) := Lib.hid ((hB5.block _ (Array.getElem?_eq_some_iff.1 GA4.out).1).trans GA4.out); have GT5 : Hid (w5.heap[w2.heap.size]? = some (.cells (tokCells kk 0 0 0 a.f2.f1 n a.f2.f3) 104 (0, 0))) := Lib.hid ((hB5.block _ (Array.getElem?_eq_some_iff.1 GT4.out).1).trans GT4.out); clear hB5)
    | (go_at_call 46; refine (HSP.out _ (HG.out.below (show Below w0.heap.size w0 _ from L5.out.bel))).mono ?_; rintro e w6 ⟨rfl, hB6⟩; have L6 : Hid (Ln b acc w0 w4 w6) := Lib.hid (L5.out.step hB6); have GA6 : Hid (w6.heap[w.heap.size]? = some (.cells (attrC a n A9 c9) 50 (0, 0))) := Lib.hid ((hB6.block _ (Array.getElem?_eq_some_iff.1 GA5.out).1).trans GA5.out); have GT6 : Hid (w6.heap[w2.heap.size]? = some (.cells (tokCells kk 0 0 0 a.f2.f1 n a.f2.f3) 104 (0, 0))) := Lib.hid ((hB6.block _ (Array.getElem?_eq_some_iff.1 GT5.out).1).trans GT5.out); clear hB6)
    | (go_at_call 45; refine (line_calls2 b d w6.heap.size acc [a.f0, ⟨#[61]⟩, z, ⟨#[123]⟩, ⟨#[125]⟩ ++ q] w0 w4 (w6.alloc (.cells #[.string a.f0, .string ⟨#[61]⟩, .string z, .string ⟨#[123]⟩, .string (⟨#[125]⟩ ++ q)] 9)) (L6.out.step (alloc_below _ _)) (heap_alloc_new w6 _) (by omega) (by simp) (by rw [words_none d a.f0 z q _ _ HZ.out HQ.out]; exact (by rw [← HTX.out]; exact HLEN.out))).mono ?_; rintro e w7 ⟨rfl, hL7⟩; rw [words_none d a.f0 z q _ _ HZ.out HQ.out] at hL7; have L7 := Lib.hid hL7; have GA7 : Hid (w7.heap[w.heap.size]? = some (.cells (attrC a n A9 c9) 50 (0, 0))) := Lib.hid (hL7.block GA4.out (by decide) HNA.out); have GT7 : Hid (w7.heap[w2.heap.size]? = some (.cells (tokCells kk 0 0 0 a.f2.f1 n a.f2.f3) 104 (0, 0))) := Lib.hid (hL7.block GT4.out (by decide) HNT.out); clear hL7))

        all_goals
          go_wp2_with fail
          go_end0
          refine ⟨rfl, HFIN.out _ ?_⟩
          rw [HTX.out]
          exact L7.out
      · have HTX : Hid (attrT d a = lineT d [bs a.f0, [61], valT a.f2, [123]] ++ attrsT (d + 1) a.f4 ++ lineT d [[125] ++ endB a.f5 a.f6]) := Lib.hid (attrT_some HBF.out hps)
        have hlens := HLEN.out
        rw [HTX.out] at hlens
        obtain ⟨hle1, hle2, hle3⟩ := attrs_some_len hlens
        have HLE1 := Lib.hid hle1
        have HLE2 := Lib.hid hle2
        have HLE3 := Lib.hid hle3
        have hpl : ¬ (a.f4.length : Int) = 0 := fun e => hps (List.length_eq_zero_iff.1 (by omega))
        have hpl2 : ((a.f4.length : Int) == 0) = false := by rw [beq_eq_false_iff_ne]; exact hpl
        have hpl3 : ¬ a.f4.length = 0 := by omega
        clear hps y0 y1 y2 y3 y4 y5 y6 y7 y8 y10 y11 hlens hle1 hle2 hle3
        go_wp2_with fail
        clear y9
        go_region_held3 (fun W => W.cell? ⟨w.heap.size, 0, none⟩ = some (.string a.f0) ∧ W.cell? ⟨w2.heap.size, 0, none⟩ = some (.int .i64 kk) ∧ W.cell? ⟨w2.heap.size, 1, none⟩ = some (.int .i64 0) ∧ W.cell? ⟨w2.heap.size, 2, none⟩ = some (.int .i64 0) ∧ W.cell? ⟨w2.heap.size, 3, none⟩ = some (.int .i64 0) ∧ W.cell? ⟨w2.heap.size, 4, none⟩ = some (.string a.f2.f1) ∧ W.cell? ⟨w2.heap.size, 5, none⟩ = some (.int .u32 (n : Int)) ∧ W.cell? ⟨w2.heap.size, 6, none⟩ = some (.bool a.f2.f3)) (first | exact at_S0 GA4.out GT4.out | exact at_S0 GA5.out GT5.out | exact at_S0 (blk_alloc GA5.out _) (blk_alloc GT5.out _) | exact at_S0 GA7.out GT7.out | assumption) (first
    | (go_at_call 46; refine (HSP.out _ (HG.out.below (show Below w0.heap.size w0 _ from (L4.out.step (Below.refl _ _).drew).bel))).mono ?_; rintro e w5 ⟨rfl, hB5⟩; have L5 : Hid (Ln b acc w0 w4 w5) := Lib.hid ((L4.out.step (Below.refl _ _).drew).step hB5); have GA5 : Hid (w5.heap[w.heap.size]? = some (.cells (attrC a n A9 c9) 50 (0, 0))) := Lib.hid ((hB5.block _ (Array.getElem?_eq_some_iff.1 GA4.out).1).trans GA4.out); have GT5 : Hid (w5.heap[w2.heap.size]? = some (.cells (tokCells kk 0 0 0 a.f2.f1 n a.f2.f3) 104 (0, 0))) := Lib.hid ((hB5.block _ (Array.getElem?_eq_some_iff.1 GT4.out).1).trans GT4.out); clear hB5)
    | (go_at_call 45; refine (line_calls2 b d w5.heap.size acc [a.f0, ⟨#[61]⟩, z, ⟨#[123]⟩] w0 w4 (w5.alloc (.cells #[.string a.f0, .string ⟨#[61]⟩, .string z, .string ⟨#[123]⟩] 9)) (L5.out.step (alloc_below _ _)) (heap_alloc_new w5 _) (by omega) (by simp) (by rw [words_some d a.f0 z _ HZ.out]; exact HLE1.out)).mono ?_; rintro e w7 ⟨rfl, hL7⟩; rw [words_some d a.f0 z _ HZ.out] at hL7; have L7 := Lib.hid hL7; have GA7 : Hid (w7.heap[w.heap.size]? = some (.cells (attrC a n A9 c9) 50 (0, 0))) := Lib.hid (hL7.block GA4.out (by decide) HNA.out); have GT7 : Hid (w7.heap[w2.heap.size]? = some (.cells (tokCells kk 0 0 0 a.f2.f1 n a.f2.f3) 104 (0, 0))) := Lib.hid (hL7.block GT4.out (by decide) HNT.out); clear hL7))

        obtain ⟨y0, y1, y2, y3, y4, y5, y6, y7, y8, y9, y10, y11⟩ := attr_cells GA7.out
        clear y0 y1 y2 y3 y4 y5 y6 y7 y8 y10 y11
        obtain ⟨acc1, hacc1⟩ : ∃ acc1, acc1 = acc ++ lineT d [bs a.f0, [61], valT a.f2, [123]] := ⟨_, rfl⟩
        rw [← hacc1] at HLE2 HLE3
        have L7b : Hid (Ln b acc1 w0 w4 w7) := Lib.hid (by rw [hacc1]; exact L7.out)
        have HACC := Lib.hid hacc1
        clear hacc1
        have HLN := Lib.hid (show a.f4.length ≤ 2000000 by have := cnt_len a.f4; have := HCN.out; have := HD.out; omega)
        go_wp2_with fail
        clear y9
        go_loopw [27] (fun v wr => ∃ j : Nat, v = .int .i64 (j : Int) ∧ j ≤ a.f4.length ∧ Hid (Ln b (acc1 ++ attrsT (d + 1) (a.f4.take j)) w0 w4 wr)) (fun v _ => a.f4.length - (intOf v).toNat)
        case atStart => exact ⟨0, by go_num, by omega, Lib.hid (by rw [List.take_zero, attrsT_nil, List.append_nil]; exact L7b.out)⟩
        case round =>
          obtain ⟨j, rfl, hj, LR⟩ := hrel
          have hl9 := HLN.out
          by_cases hlt : j < a.f4.length
          · have hx : a.f4[j]? = some a.f4[j] := List.getElem?_eq_getElem hlt
            obtain ⟨ad, A8, c8, eA, x0, x1, x2, x3, x4, x5, x6, x7, x8, x9, x10, x11, l8, C8⟩ := at_T50 HC.out (j : Int) (by omega) (by omega)
            rw [rd_at a.f4 j _ hx] at x0 x1 x2 x3 x4 x5 x6 x7 x8 x9 x10 x11 l8 C8
            have hcn := cnt_get a.f4 j _ hx
            have hwf := wf_get a.f4 j _ HWP.out hx
            generalize a.f4[j] = p at hx x0 x1 x2 x3 x4 x5 x6 x7 x8 x9 x10 x11 l8 C8 hcn hwf
            cases eA
            simp only [Int.toNat_natCast] at x0 x1 x2 x3 x4 x5 x6 x7 x8 x9 x10 x11
            replace x0 := (LR.out.bel.cell (World.block_lt_of_cell? w0 _ x0)).trans x0
            replace x1 := (LR.out.bel.cell (World.block_lt_of_cell? w0 _ x1)).trans x1
            replace x2 := (LR.out.bel.cell (World.block_lt_of_cell? w0 _ x2)).trans x2
            replace x3 := (LR.out.bel.cell (World.block_lt_of_cell? w0 _ x3)).trans x3
            replace x4 := (LR.out.bel.cell (World.block_lt_of_cell? w0 _ x4)).trans x4
            replace x5 := (LR.out.bel.cell (World.block_lt_of_cell? w0 _ x5)).trans x5
            replace x6 := (LR.out.bel.cell (World.block_lt_of_cell? w0 _ x6)).trans x6
            replace x7 := (LR.out.bel.cell (World.block_lt_of_cell? w0 _ x7)).trans x7
            replace x8 := (LR.out.bel.cell (World.block_lt_of_cell? w0 _ x8)).trans x8
            replace x9 := (LR.out.bel.cell (World.block_lt_of_cell? w0 _ x9)).trans x9
            replace x10 := (LR.out.bel.cell (World.block_lt_of_cell? w0 _ x10)).trans x10
            replace x11 := (LR.out.bel.cell (World.block_lt_of_cell? w0 _ x11)).trans x11
            have HX := Lib.hid hx
            have HCNP := Lib.hid hcn
            have HWFP := Lib.hid hwf
            have HC8 := Lib.hid C8
            have hdw : IntKind.i64.wrap ((d : Int) + 1) = (d : Int) + 1 := by unfold IntKind.wrap; simp [IntKind.bits]; omega
            clear hx hcn hwf C8
            have tk1 : True := trivial
            go_wp2_with (first
              | (have _t := tk1; refine run_event rfl (.alloc 50) rfl (.pointer (some ⟨wr.heap.size, 0, none⟩)) (wr.alloc (.cells attr0 50)) (by kernel_rfl) ?_; intro w8 hw8; have B8 : Hid (Below wr.heap.size wr w8) := Lib.hid (by rw [hw8]; exact alloc_below _ _); have G8 : Hid (w8.heap[wr.heap.size]? = some (.cells attr0 50 (0, 0))) := Lib.hid (by rw [hw8]; exact heap_alloc_new _ _); clear hw8 tk1 _t)
              | ((with_reducible refine gate_store (t := 50) (p := 9) rfl ?_); refine put_event rfl 50 _ _ rfl wr.heap.size (attrC p p.f2.f2 A8 c8) rfl rfl 50 attr0 G8.out (by kernel_rfl) rfl (attr_all _ _ _ _) wr.heap.size (Nat.le_refl _) ?_; intro w9 hb9 hB9 hs9 ho9; have L9 : Hid (Ln b (acc1 ++ attrsT (d + 1) (a.f4.take j)) w0 w4 w9) := Lib.hid (LR.out.step (B8.out.trans hB9)); obtain ⟨t0, t1, t2, t3, t4, t5, t6, t7, t8, t9, t10, t11⟩ := attr_cells hb9; clear hb9 hB9 hs9 ho9 x0 x1 x2 x3 x4 x5 x6 x7 x8 x9 x10 x11))
            refine (ih p (d + 1) b _ A8 c8 w0 w9 (by have := HCNP.out; have := HM.out; have := HCN.out; omega) L9.out.start HC8.out l8 HWFP.out (HFP.out j p HX.out) (by have := HCNP.out; have := HCN.out; have := HD.out; omega) (HLE2.out j p HX.out) HG.out).mono ?_
            rintro e w10 ⟨rfl, hL10⟩
            have LN : Hid (Ln b (acc1 ++ attrsT (d + 1) (a.f4.take (j + 1))) w0 w4 w10) := Lib.hid (by
              rw [attrsT_take a.f4 j p HX.out, ← List.append_assoc]
              exact ⟨hL10.is, hL10.bel, L9.out.kept.trans hL10.kept⟩)
            clear hL10 t0 t1 t2 t3 t4 t5 t6 t7 t8 t9 t10 t11
            go_wp2_with fail
            exact ⟨⟨j + 1, by go_num, by omega, LN⟩, by simp [intOf]; omega⟩
          · obtain rfl : j = a.f4.length := by omega
            have LE : Hid (Ln b (acc1 ++ attrsT (d + 1) a.f4) w0 w4 wr) := Lib.hid (by
              have := LR.out
              rwa [List.take_of_length_le (Nat.le_refl _)] at this)
            have GAR : Hid (wr.heap[w.heap.size]? = some (.cells (attrC a n A9 c9) 50 (0, 0))) := Lib.hid (LE.out.block GA4.out (by decide) HNA.out)
            obtain ⟨y0, y1, y2, y3, y4, y5, y6, y7, y8, y9, y10, y11⟩ := attr_cells GAR.out
            clear y0 y1 y2 y3 y4 y5 y6 y7 y8 y9 LR
            go_wp2_with (first
              | (go_at_call 47; refine (HEN.out _ (HG.out.below (show Below w0.heap.size w0 _ from LE.out.bel))).mono ?_; rintro e w11 ⟨rfl, hB11⟩; have L11 : Hid (Ln b (acc1 ++ attrsT (d + 1) a.f4) w0 w4 w11) := Lib.hid (LE.out.step hB11); clear hB11 y10 y11)
              | (refine run_event rfl (.buildSlice 51 1 _) rfl (.slice (some ⟨w11.heap.size, 0, none⟩) 1 1) (w11.alloc (.cells #[.string (⟨#[125]⟩ ++ q)] 9)) (by kernel_rfl) ?_; intro wb hwb; have LB : Hid (Ln b (acc1 ++ attrsT (d + 1) a.f4) w0 w4 wb) := Lib.hid (by rw [hwb]; exact L11.out.step (alloc_below _ _)); have GB : Hid (wb.heap[w11.heap.size]? = some (.cells #[.string (⟨#[125]⟩ ++ q)] 9 (0, 0))) := Lib.hid (by rw [hwb]; exact heap_alloc_new _ _); clear hwb)
              | (go_at_call 45; refine (line_calls2 b d w11.heap.size _ [(⟨#[125]⟩ : ByteArray) ++ q] w0 w4 wb LB.out GB.out (by omega) (by simp) (by rw [words_end d q _ HQ.out]; exact HLE3.out)).mono ?_; rintro e w12 ⟨rfl, hL12⟩; rw [words_end d q _ HQ.out] at hL12; have L12 := Lib.hid hL12; clear hL12))
            go_end0
            refine ⟨rfl, HFIN.out _ ?_⟩
            rw [HTX.out]
            have := L12.out
            rw [HACC.out] at this
            simpa only [List.append_assoc] using this
end Go.Proofs.YtmfejjlmflgnbaaGreatDoor.Tok

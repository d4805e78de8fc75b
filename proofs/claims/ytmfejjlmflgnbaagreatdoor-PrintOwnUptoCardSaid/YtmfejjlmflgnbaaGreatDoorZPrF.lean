/- CONTRACT: package printer's fits: the closure that goes through attributes, by induction on how many they are. -/
import Derived.Test.YtmfejjlmflgnbaaGreatDoorZTold
import Derived.Test.YtmfejjlmflgnbaaGreatDoorZTree
namespace Go.Proofs.YtmfejjlmflgnbaaGreatDoor.Tok
open Go.RowKit Go.Proofs.YtmfejjlmflgnbaaGreatDoor.PA Go.Proofs.YtmfejjlmflgnbaaGreatDoorW.PrintWords Go.Proofs.YtmfejjlmflgnbaaGreatDoorW.PrintLast Go.Proofs.YtmfejjlmflgnbaaGreatDoor.Sp Go.Proofs.YtmfejjlmflgnbaaGreatDoor.Tr
set_option linter.unusedVariables false
set_option linter.unusedSimpArgs false
set_option maxRecDepth 100000

def FitsPost (r : Option (List Int)) (w : World) (e : Ending) (w' : World) : Prop :=
  Below w.heap.size w w' ∧ match r with
    | none => e = .returned .nilIface
    | some q => ∃ g, e = .returned (flawV g) ∧ FlawAt w' w.heap.size g q 40
theorem FitsPost.bad {w wr w' : World} {q : List Int} {e : Ending} (hB : Below w.heap.size w wr) (h : BadPost q wr e w') : FitsPost (some q) w e w' := by
  obtain ⟨h1, g, h2, h3⟩ := h
  exact ⟨hB.trans (h1.mono hB.size), g, h2, h3.lower hB.size⟩
/-- The cells of an attribute. -/
def attrC (a : SA) (n : Int) (A9 : Option Addr) (c9 : Nat) : Array Value := #[.string a.f0, .int .i64 a.f1.f0, .int .i64 a.f1.f1, .int .i64 a.f1.f2, .int .i64 a.f2.f0, .string a.f2.f1, .int .u32 n, .bool a.f2.f3, .bool a.f3, .slice A9 a.f4.length c9, .bool a.f5, .string a.f6]
def attr0 : Array Value := #[.string ⟨#[]⟩, .int .i64 0, .int .i64 0, .int .i64 0, .int .i64 0, .string ⟨#[]⟩, .int .u32 0, .bool false, .bool false, .slice none 0 0, .bool false, .string ⟨#[]⟩]
theorem attr_all (a : SA) (n : Int) (A9 : Option Addr) (c9 : Nat) : (attrC a n A9 c9).all (·.oneCell') = true := by simp [attrC, Value.oneCell']
theorem attr_read {w w' : World} {g : Nat} {a : SA} {n : Int} {A9 : Option Addr} {c9 : Nat} (h : w.heap[g]? = some (.cells (attrC a n A9 c9) 50 (0, 0))) (hB : Below w.heap.size w w') :
    w'.cell? ⟨g, 0, none⟩ = some (.string a.f0) ∧ w'.cell? ⟨g, 4, none⟩ = some (.int .i64 a.f2.f0) ∧ w'.cell? ⟨g, 5, none⟩ = some (.string a.f2.f1) ∧ w'.cell? ⟨g, 6, none⟩ = some (.int .u32 n) ∧ w'.cell? ⟨g, 7, none⟩ = some (.bool a.f2.f3) ∧ w'.cell? ⟨g, 8, none⟩ = some (.bool a.f3) ∧ w'.cell? ⟨g, 9, none⟩ = some (.slice A9 a.f4.length c9) ∧ w'.cell? ⟨g, 10, none⟩ = some (.bool a.f5) ∧ w'.cell? ⟨g, 11, none⟩ = some (.string a.f6) := by
  have h2 : w'.heap[g]? = some (.cells (attrC a n A9 c9) 50 (0, 0)) := (hB.block _ (Array.getElem?_eq_some_iff.1 h).1).trans h
  exact ⟨(cell_row h2 0).trans rfl, (cell_row h2 4).trans rfl, (cell_row h2 5).trans rfl, (cell_row h2 6).trans rfl, (cell_row h2 7).trans rfl, (cell_row h2 8).trans rfl, (cell_row h2 9).trans rfl, (cell_row h2 10).trans rfl, (cell_row h2 11).trans rfl⟩
theorem rd_at (l : List SA) (j : Nat) (a : SA) (h : l[j]? = some a) : rd_T50 l (j : Int) = a := by
  simp [rd_T50, h]
def funV (a : Nat) : Value := .func (.func 86) #[] #[.pointer (some ⟨a, 0, none⟩)]
set_option maxHeartbeats 16000000 in
theorem fits1_calls (m : Nat) : ∀ (l : List SA) (p : List Int) (A P : Option Addr) (c pc g0 : Nat) (w : World), cntL l ≤ m → Kd.C k50 w A l.length l → l.length ≤ c → Kd.C (Kd.int .i64) w P p.length p → p.length ≤ pc → p.length + cntL l ≤ 1000000000 → wfL l → Glob w → w.cell? ⟨g0, 0, none⟩ = some (funV g0) →
    Calls Tryz.prog 86 #[.slice A l.length c, .slice P p.length pc, .pointer (some ⟨g0, 0, none⟩)] w (FitsPost (badL l p 0 p.length) w) := by
  induction m with
  | zero =>
    intro l p A P c pc g0 w hm hC hc hP hpc hb hwf hG hf
    obtain rfl : l = [] := by
      have := cnt_len l
      exact List.length_eq_zero_iff.1 (by omega)
    have HR : Hid (∀ e w', e = .returned .nilIface → Below w.heap.size w w' → FitsPost (badL [] p 0 p.length) w e w') := Lib.hid (fun e w' h1 h2 => ⟨h2, by rw [badL_nil]; exact h1⟩)
    clear hm hC hP hb hwf hG hf
    go_enter Tryz.func86, Tryz.ntmps86
    go_wp2_with fail
    go_loopw [14] (fun v wr => v = .int .i64 0 ∧ wr = w) (fun v _ => 0)
    case atStart => exact ⟨rfl, rfl⟩
    case round =>
      obtain ⟨rfl, rfl⟩ := hrel
      go_wp2_with fail
      go_ret
      exact HR.out _ _ rfl (Below.refl _ _)
  | succ m ih =>
    intro l p A P c pc g0 w hm hC hc hP hpc hb hwf hG hf
    have HM := Lib.hid hm
    have HC := Lib.hid hC
    have HP := Lib.hid hP
    have HB := Lib.hid hb
    have HW := Lib.hid hwf
    have HG := Lib.hid hG
    have HF := Lib.hid hf
    have HPC := Lib.hid hpc
    have hlen := cnt_len l
    have HL := Lib.hid (show l.length ≤ 1000000000 by omega)
    clear hm hC hP hb hwf hG hf hlen hpc
    go_enter Tryz.func86, Tryz.ntmps86
    go_wp2_with fail
    go_loopw [14] (fun v wr => ∃ j : Nat, v = .int .i64 (j : Int) ∧ j ≤ l.length ∧ Hid (badL (l.drop j) p j p.length = badL l p 0 p.length) ∧ Hid (Below w.heap.size w wr)) (fun v _ => l.length - (intOf v).toNat)
    case atStart => exact ⟨0, by go_num, by omega, Lib.hid rfl, Lib.hid (Below.refl _ _)⟩
    case round =>
      obtain ⟨j, rfl, hj, RL, B⟩ := hrel
      have hl9 := HL.out
      by_cases hlt : j < l.length
      · have hx : l[j]? = some l[j] := List.getElem?_eq_getElem hlt
        obtain ⟨ad, A9, c9, eA, x0, x1, x2, x3, x4, x5, x6, x7, x8, x9, x10, x11, l9, C9⟩ := at_T50 HC.out (j : Int) (by omega) (by omega)
        rw [rd_at l j _ hx] at x0 x1 x2 x3 x4 x5 x6 x7 x8 x9 x10 x11 l9 C9
        have hwa := (wf_eq _).1 (wf_get l j _ HW.out hx)
        have hcn := cnt_get l j _ hx
        rw [cnt_eq] at hcn
        generalize l[j] = a at hx x0 x1 x2 x3 x4 x5 x6 x7 x8 x9 x10 x11 l9 C9 hwa hcn
        cases eA
        obtain ⟨⟨⟨hn1, hn2⟩, _, _⟩, hwp⟩ := hwa
        obtain ⟨n, hn⟩ : ∃ n : Nat, a.f2.f2 = (n : Int) := ⟨a.f2.f2.toNat, by omega⟩
        rw [hn] at x6 hn1 hn2
        have HN := Lib.hid (show n < 4294967296 by omega)
        have HX := Lib.hid hx
        have HCN := Lib.hid hcn
        have HWP := Lib.hid hwp
        have HC9 := Lib.hid C9
        have HNE := Lib.hid hn
        simp only [Int.toNat_natCast] at x0 x1 x2 x3 x4 x5 x6 x7 x8 x9 x10 x11
        replace x0 := (B.out.cell (World.block_lt_of_cell? w _ x0)).trans x0
        replace x1 := (B.out.cell (World.block_lt_of_cell? w _ x1)).trans x1
        replace x2 := (B.out.cell (World.block_lt_of_cell? w _ x2)).trans x2
        replace x3 := (B.out.cell (World.block_lt_of_cell? w _ x3)).trans x3
        replace x4 := (B.out.cell (World.block_lt_of_cell? w _ x4)).trans x4
        replace x5 := (B.out.cell (World.block_lt_of_cell? w _ x5)).trans x5
        replace x6 := (B.out.cell (World.block_lt_of_cell? w _ x6)).trans x6
        replace x7 := (B.out.cell (World.block_lt_of_cell? w _ x7)).trans x7
        replace x8 := (B.out.cell (World.block_lt_of_cell? w _ x8)).trans x8
        replace x9 := (B.out.cell (World.block_lt_of_cell? w _ x9)).trans x9
        replace x10 := (B.out.cell (World.block_lt_of_cell? w _ x10)).trans x10
        replace x11 := (B.out.cell (World.block_lt_of_cell? w _ x11)).trans x11
        clear hx hcn hwp C9 hn hn1 hn2
        have tk1 : True := trivial
        go_wp2_with (first
          | (have _t := tk1; refine run_event rfl (.alloc 50) rfl (.pointer (some ⟨wr.heap.size, 0, none⟩)) (wr.alloc (.cells attr0 50)) (by kernel_rfl) ?_; intro w1 hw1; have B1 : Hid (Below wr.heap.size wr w1) := Lib.hid (by rw [hw1]; exact alloc_below _ _); have G1 : Hid (w1.heap[wr.heap.size]? = some (.cells attr0 50 (0, 0))) := Lib.hid (by rw [hw1]; exact heap_alloc_new _ _); clear hw1 tk1 _t)
          | ((with_reducible refine gate_store (t := 50) (p := 7) rfl ?_); refine put_event rfl 50 _ _ rfl wr.heap.size (attrC a (n : Int) A9 c9) rfl rfl 50 attr0 G1.out (by kernel_rfl) rfl (attr_all _ _ _ _) wr.heap.size (Nat.le_refl _) ?_; intro w2 hb2 hB2 hs2 ho2; have G2 := Lib.hid hb2; have B2 : Hid (Below w.heap.size w w2) := Lib.hid (B.out.trans ((B1.out.trans hB2).mono B.out.size)); clear hb2 hB2 hs2 ho2 x0 x1 x2 x3 x4 x5 x6 x7 x8 x9 x10 x11)
          | (at_builtin; refine Kd.R_append_rows (Kd.int .i64) (w0 := w2) w2.heap.size rfl (.const (.slice none 0 0)) (.tmp 19) 27 3 (.int .i64 0) 8 rfl Tryz.underlying27 info3 rfl (by decide) (by omega) (.slice none 0 0) ([] : List Int) p _ _ _ (fun _ => True) (fun _ => False) rfl rfl (Kd.R_nil _ _ _ _ (fun _ => True)) (Kd.C_below HP.out B2.out) (fun _ _ h => h) (fun _ h => h.elim) (fun _ _ => trivial) (Below.refl _ _) (Nat.le_refl _) (by have := HB.out; simp; omega) ?_; intro v3 w3 ho hb hg hat; rw [List.nil_append] at ho; obtain ⟨A3, c3, hv3⟩ := ints_form ho; subst hv3; have V3 := Lib.hid ho; have B3 := Lib.hid hb; clear ho hb hg hat)
          | (at_builtin; refine Kd.R_append (Kd.int .i64) (w0 := w2) w2.heap.size rfl (.tmp 20) (.tmp 22) 27 3 (.int .i64 0) 8 rfl Tryz.underlying27 info3 rfl (by decide) (by omega) _ p (j : Int) [.int .i64 (j : Int)] (fun _ => True) (fun _ => False) rfl rfl rfl (fun _ hk => hk.elim) (fun _ _ => trivial) V3.out B3.out B3.out.size (by have := HB.out; omega) ?_; intro v4 w4 ho hb hg hat; obtain ⟨q, hq⟩ : ∃ q, q = p ++ [(j : Int)] := ⟨_, rfl⟩; rw [← hq] at ho; have HQ := Lib.hid hq; have hqa : q.length ≤ p.length + 1 := (by rw [hq]; simp); have hqb : p.length + 1 ≤ q.length := (by rw [hq]; simp); clear hq; obtain ⟨A4, c4, hv4, hl4, hC4⟩ := Kd.R_reads ho; subst hv4; have C4 := Lib.hid hC4; have L4 := Lib.hid hl4; have B4 := Lib.hid hb; clear ho hb hg hat hC4 hl4; obtain ⟨y0, y4, y5, y6, y7, y8, y9, y10, y11⟩ := attr_read G2.out B4.out))
        have B4w := Lib.hid (B2.out.trans (B4.out.mono B2.out.size))
        have HBL : Hid (∀ qq, badA a (p ++ [(j : Int)]) p.length = some qq → badL l p 0 p.length = some qq) := Lib.hid (fun qq h => by rw [← RL.out, badL_hit HX.out h])
        have HBN : Hid (badA a (p ++ [(j : Int)]) p.length = none → badL (l.drop (j + 1)) p (j + 1) p.length = badL l p 0 p.length) := Lib.hid (fun h => by rw [← RL.out, badL_miss HX.out h])
        obtain ⟨rv, hrv⟩ : ∃ rv, valB a.f2 = rv := ⟨_, rfl⟩
        have HRV := Lib.hid hrv
        obtain ⟨rn, hrn⟩ : ∃ rn, nameB (bs a.f0) = rn := ⟨_, rfl⟩
        have HRN := Lib.hid hrn
        clear hrv hrn
        have hqb2 := HB.out
        refine ((valued_calls a.f2.f0 a.f2.f1 n a.f2.f3 w4 HN.out (HG.out.below B4w.out) rv (by rw [← HNE.out]; exact HRV.out)).mono (fun e w' h => (show e = .returned (.tuple #[.agg #[.int .i64 (kindT a.f2.f0), .int .i64 0, .int .i64 0, .int .i64 0, .string a.f2.f1, .int .u32 (n : Int), .bool a.f2.f3], .bool rv]) ∧ Below w4.heap.size w4 w' from ⟨h.2, h.1⟩))).mono ?_
        rintro e w5 ⟨rfl, hB5⟩
        generalize kindT a.f2.f0 = kk
        have B45 := Lib.hid hB5
        have B5w := Lib.hid (B4w.out.trans (hB5.mono B4w.out.size))
        clear hB5 y0 y4 y5 y6 y7 y8 y9 y10 y11
        go_wp2_with (first
          | (refine run_event rfl (.alloc 104) rfl (.pointer (some ⟨w5.heap.size, 0, none⟩)) (w5.alloc (.cells tok0 104)) (by kernel_rfl) ?_; intro w6 hw6; have B6 : Hid (Below w5.heap.size w5 w6) := Lib.hid (by rw [hw6]; exact alloc_below _ _); have G6 : Hid (w6.heap[w5.heap.size]? = some (.cells tok0 104 (0, 0))) := Lib.hid (by rw [hw6]; exact heap_alloc_new _ _); clear hw6)
          | ((with_reducible refine gate_store (t := 104) (p := 9) rfl ?_); refine put_event rfl 104 _ _ rfl w5.heap.size (tokCells kk 0 0 0 a.f2.f1 (n : Int) a.f2.f3) rfl rfl 104 tok0 G6.out (by kernel_rfl) rfl (tok_all _ _ _ _ _ _ _) w5.heap.size (Nat.le_refl _) ?_; intro w7 hb7 hB7 hs7 ho7; have B57 : Hid (Below w5.heap.size w5 w7) := Lib.hid (B6.out.trans hB7); have B7w : Hid (Below w.heap.size w w7) := Lib.hid (B5w.out.trans (B57.out.mono B5w.out.size)); have B47 : Hid (Below w4.heap.size w4 w7) := Lib.hid (B45.out.trans (B57.out.mono B45.out.size)); have B27 : Hid (Below w2.heap.size w2 w7) := Lib.hid (B4.out.trans (B47.out.mono B4.out.size)); obtain ⟨y0, _, _, _, _, _, _, _, _⟩ := attr_read G2.out B27.out; clear hb7 hB7 hs7 ho7))
        refine (pname_calls a.f0 w7 (HG.out.below B7w.out) rn HRN.out).mono ?_
        rintro e w8 ⟨rfl, hB8⟩
        have B8w := Lib.hid (B7w.out.trans (hB8.mono B7w.out.size))
        have B48 := Lib.hid (B47.out.trans (hB8.mono B47.out.size))
        have B28 := Lib.hid (B27.out.trans (hB8.mono B27.out.size))
        obtain ⟨_, _, _, _, _, y8, y9, _, _⟩ := attr_read G2.out B28.out
        clear hB8 y0
        cases rn with
        | false =>
          go_wp2_with (first
            | (go_at_call 85; refine (bad_calls A4 c4 q w8 (Kd.C_below C4.out B48.out) L4.out (by omega)).mono ?_; rintro e w9 hBad; obtain ⟨hB9, gg, rfl, hFl⟩ := hBad; have BD : Hid (BadPost q w8 (.returned (flawV gg)) w9) := Lib.hid ⟨hB9, gg, rfl, hFl⟩; clear hB9 hFl))
          go_ret
          have hA := HBL.out q (by rw [HQ.out]; exact badA_wrong (by unfold wrongA; rw [HRN.out]; rfl))
          rw [hA]
          exact FitsPost.bad B8w.out BD.out
        | true =>
          cases rv with
          | false =>
            go_wp2_with (first
              | (go_at_call 85; refine (bad_calls A4 c4 q w8 (Kd.C_below C4.out B48.out) L4.out (by omega)).mono ?_; rintro e w9 hBad; obtain ⟨hB9, gg, rfl, hFl⟩ := hBad; have BD : Hid (BadPost q w8 (.returned (flawV gg)) w9) := Lib.hid ⟨hB9, gg, rfl, hFl⟩; clear hB9 hFl))
            go_ret
            have hA := HBL.out q (by rw [HQ.out]; exact badA_wrong (by unfold wrongA; rw [HRN.out, HRV.out]; rfl))
            rw [hA]
            exact FitsPost.bad B8w.out BD.out
          | true =>
            obtain ⟨br, hbr⟩ : ∃ br, a.f3 = br := ⟨_, rfl⟩
            rw [hbr] at y8
            have HBR := Lib.hid hbr
            clear hbr
            cases br with
            | false =>
              by_cases hps : 0 < a.f4.length
              · have dp : decide ((0 : Int) < (a.f4.length : Int)) = true := decide_eq_true (by omega)
                have dpn : decide (0 < a.f4.length) = true := decide_eq_true hps
                go_wp2_with (first
                  | (go_at_call 85; refine (bad_calls A4 c4 q w8 (Kd.C_below C4.out B48.out) L4.out (by omega)).mono ?_; rintro e w9 hBad; obtain ⟨hB9, gg, rfl, hFl⟩ := hBad; have BD : Hid (BadPost q w8 (.returned (flawV gg)) w9) := Lib.hid ⟨hB9, gg, rfl, hFl⟩; clear hB9 hFl))
                go_ret
                have hA := HBL.out q (by rw [HQ.out]; exact badA_wrong (by unfold wrongA; rw [HRN.out, HRV.out, HBR.out]; cases hz : a.f4 with | nil => rw [hz] at hps; simp at hps | cons _ _ => rfl))
                rw [hA]
                exact FitsPost.bad B8w.out BD.out
              · have dp : decide ((0 : Int) < (a.f4.length : Int)) = false := decide_eq_false (by omega)
                have dpn : decide (0 < a.f4.length) = false := decide_eq_false hps
                have HWR : Hid (wrongA a p.length = false) := Lib.hid (by unfold wrongA; rw [HRN.out, HRV.out, HBR.out]; cases hz : a.f4 with | nil => rfl | cons _ _ => rw [hz] at hps; simp at hps)
                have y12 : w8.cell? ⟨g0, 0, none⟩ = some (.func (.func 86) #[] #[.pointer (some ⟨g0, 0, none⟩)]) := (B8w.out.cell (World.block_lt_of_cell? w _ HF.out)).trans HF.out
                go_wp2_with fail
                refine (ih a.f4 q A9 A4 c9 c4 g0 w8 (by have := HCN.out; have := HM.out; omega) (Kd.C_below HC9.out B8w.out) l9 (Kd.C_below C4.out B48.out) L4.out (by have := HCN.out; have := HB.out; omega) HWP.out (HG.out.below B8w.out) y12).mono ?_
                rintro e w9 hF9
                obtain ⟨rb, hrb⟩ : ∃ rb, badL a.f4 q 0 q.length = rb := ⟨_, rfl⟩
                rw [hrb] at hF9
                have HRB : Hid (badL a.f4 q 0 (p.length + 1) = rb) := Lib.hid (by rw [← hrb]; congr 1; omega)
                clear hrb y8 y9 y12
                cases rb with
                | some qq =>
                  obtain ⟨hB9, gg, rfl, hFl⟩ := hF9
                  have HFl := Lib.hid hFl
                  have B9 := Lib.hid hB9
                  clear hFl hB9
                  unfold flawV
                  go_wp2_with fail
                  go_ret
                  have hA := HBL.out qq (by rw [HQ.out] at HRB; exact badA_in HWR.out HRB.out)
                  unfold FitsPost
                  rw [hA]
                  exact ⟨B8w.out.trans (B9.out.mono B8w.out.size), gg, rfl, HFl.out.lower B8w.out.size⟩
                | none =>
                  obtain ⟨hB9, rfl⟩ := hF9
                  have B9w := Lib.hid (B8w.out.trans (hB9.mono B8w.out.size))
                  have B49 := Lib.hid (B48.out.trans (hB9.mono B48.out.size))
                  obtain ⟨_, _, _, _, _, _, _, y10, y11⟩ := attr_read G2.out (B28.out.trans (hB9.mono B28.out.size))
                  clear hB9
                  obtain ⟨rt, hrt⟩ : ∃ rt, noteB a.f5 a.f6 = rt := ⟨_, rfl⟩
                  have HRT := Lib.hid hrt
                  clear hrt
                  go_wp2_with fail
                  refine (pnote_calls a.f5 a.f6 w9 (HG.out.below B9w.out) rt HRT.out).mono ?_
                  rintro e w10 ⟨rfl, hB10⟩
                  have B10w := Lib.hid (B9w.out.trans (hB10.mono B9w.out.size))
                  have B410 := Lib.hid (B49.out.trans (hB10.mono B49.out.size))
                  clear hB10 y10 y11
                  cases rt with
                  | false =>
                    go_wp2_with (first
                      | (go_at_call 85; refine (bad_calls A4 c4 q w10 (Kd.C_below C4.out B410.out) L4.out (by omega)).mono ?_; rintro e w11 hBad; obtain ⟨hB9, gg, rfl, hFl⟩ := hBad; have BD : Hid (BadPost q w10 (.returned (flawV gg)) w11) := Lib.hid ⟨hB9, gg, rfl, hFl⟩; clear hB9 hFl))
                    go_ret
                    have hA := HBL.out q (by rw [HQ.out] at HRB ⊢; exact badA_note HWR.out HRB.out HRT.out)
                    rw [hA]
                    exact FitsPost.bad B10w.out BD.out
                  | true =>
                    have HNX := Lib.hid (HBN.out (by rw [HQ.out] at HRB; exact badA_none HWR.out HRB.out HRT.out))
                    go_wp2_with fail
                    exact ⟨⟨j + 1, by go_num, by omega, HNX, B10w⟩, by simp [intOf]; omega⟩
            | true =>
              by_cases hd : 4 < p.length
              · have dd : decide ((4 : Int) < (q.length : Int) - 1) = true := decide_eq_true (by omega)
                go_wp2_with (first
                  | (go_at_call 85; refine (bad_calls A4 c4 q w8 (Kd.C_below C4.out B48.out) L4.out (by omega)).mono ?_; rintro e w9 hBad; obtain ⟨hB9, gg, rfl, hFl⟩ := hBad; have BD : Hid (BadPost q w8 (.returned (flawV gg)) w9) := Lib.hid ⟨hB9, gg, rfl, hFl⟩; clear hB9 hFl))
                go_ret
                have hA := HBL.out q (by rw [HQ.out]; exact badA_wrong (by unfold wrongA; rw [HRN.out, HRV.out, HBR.out]; simp [hd]))
                rw [hA]
                exact FitsPost.bad B8w.out BD.out
              · have dd : decide ((4 : Int) < (q.length : Int) - 1) = false := decide_eq_false (by omega)
                have HWR : Hid (wrongA a p.length = false) := Lib.hid (by unfold wrongA; rw [HRN.out, HRV.out, HBR.out]; simp [hd])
                have y12 : w8.cell? ⟨g0, 0, none⟩ = some (.func (.func 86) #[] #[.pointer (some ⟨g0, 0, none⟩)]) := (B8w.out.cell (World.block_lt_of_cell? w _ HF.out)).trans HF.out
                go_wp2_with fail
                refine (ih a.f4 q A9 A4 c9 c4 g0 w8 (by have := HCN.out; have := HM.out; omega) (Kd.C_below HC9.out B8w.out) l9 (Kd.C_below C4.out B48.out) L4.out (by have := HCN.out; have := HB.out; omega) HWP.out (HG.out.below B8w.out) y12).mono ?_
                rintro e w9 hF9
                obtain ⟨rb, hrb⟩ : ∃ rb, badL a.f4 q 0 q.length = rb := ⟨_, rfl⟩
                rw [hrb] at hF9
                have HRB : Hid (badL a.f4 q 0 (p.length + 1) = rb) := Lib.hid (by rw [← hrb]; congr 1; omega)
                clear hrb y8 y9 y12
                cases rb with
                | some qq =>
                  obtain ⟨hB9, gg, rfl, hFl⟩ := hF9
                  have HFl := Lib.hid hFl
                  have B9 := Lib.hid hB9
                  clear hFl hB9
                  unfold flawV
                  go_wp2_with fail
                  go_ret
                  have hA := HBL.out qq (by rw [HQ.out] at HRB; exact badA_in HWR.out HRB.out)
                  unfold FitsPost
                  rw [hA]
                  exact ⟨B8w.out.trans (B9.out.mono B8w.out.size), gg, rfl, HFl.out.lower B8w.out.size⟩
                | none =>
                  obtain ⟨hB9, rfl⟩ := hF9
                  have B9w := Lib.hid (B8w.out.trans (hB9.mono B8w.out.size))
                  have B49 := Lib.hid (B48.out.trans (hB9.mono B48.out.size))
                  obtain ⟨_, _, _, _, _, _, _, y10, y11⟩ := attr_read G2.out (B28.out.trans (hB9.mono B28.out.size))
                  clear hB9
                  obtain ⟨rt, hrt⟩ : ∃ rt, noteB a.f5 a.f6 = rt := ⟨_, rfl⟩
                  have HRT := Lib.hid hrt
                  clear hrt
                  go_wp2_with fail
                  refine (pnote_calls a.f5 a.f6 w9 (HG.out.below B9w.out) rt HRT.out).mono ?_
                  rintro e w10 ⟨rfl, hB10⟩
                  have B10w := Lib.hid (B9w.out.trans (hB10.mono B9w.out.size))
                  have B410 := Lib.hid (B49.out.trans (hB10.mono B49.out.size))
                  clear hB10 y10 y11
                  cases rt with
                  | false =>
                    go_wp2_with (first
                      | (go_at_call 85; refine (bad_calls A4 c4 q w10 (Kd.C_below C4.out B410.out) L4.out (by omega)).mono ?_; rintro e w11 hBad; obtain ⟨hB9, gg, rfl, hFl⟩ := hBad; have BD : Hid (BadPost q w10 (.returned (flawV gg)) w11) := Lib.hid ⟨hB9, gg, rfl, hFl⟩; clear hB9 hFl))
                    go_ret
                    have hA := HBL.out q (by rw [HQ.out] at HRB ⊢; exact badA_note HWR.out HRB.out HRT.out)
                    rw [hA]
                    exact FitsPost.bad B10w.out BD.out
                  | true =>
                    have HNX := Lib.hid (HBN.out (by rw [HQ.out] at HRB; exact badA_none HWR.out HRB.out HRT.out))
                    go_wp2_with fail
                    exact ⟨⟨j + 1, by go_num, by omega, HNX, B10w⟩, by simp [intOf]; omega⟩
      · obtain rfl : j = l.length := by omega
        have HR : Hid (∀ e w', e = .returned .nilIface → Below w.heap.size w w' → FitsPost (badL l p 0 p.length) w e w') := Lib.hid (fun e w' h1 h2 => ⟨h2, by rw [← RL.out, List.drop_eq_nil_of_le (Nat.le_refl _), badL_nil]; exact h1⟩)
        clear RL
        go_wp2_with fail
        go_ret
        exact HR.out _ _ rfl B.out
end Go.Proofs.YtmfejjlmflgnbaaGreatDoor.Tok

/- CONTRACTS: the document's note, right, with, Name, String, as the spec says them. -/
import Derived.Test.YtmfejjlmflgnbaaGreatDoorZPure
import Derived.Test.YtmfejjlmflgnbaaGreatDoorZPAy5
import Derived.Test.YtmfejjlmflgnbaaGreatDoorZPrG
import Derived.Test.YtmfejjlmflgnbaaGreatDoorZPrH
namespace Go.Proofs.YtmfejjlmflgnbaaGreatDoor.Tok
open Go.RowKit Go.Proofs.YtmfejjlmflgnbaaGreatDoor.PA Go.Proofs.YtmfejjlmflgnbaaGreatDoorW.PrintWords Go.Proofs.YtmfejjlmflgnbaaGreatDoorW.PrintLast Go.Proofs.YtmfejjlmflgnbaaGreatDoor.Sp Go.Proofs.YtmfejjlmflgnbaaGreatDoor.Tr
set_option linter.unusedVariables false
set_option linter.unusedSimpArgs false
set_option maxRecDepth 100000

theorem drawn_below {w w' : World} (h : Drawn0 w w') : Below w.heap.size w w' := by
  obtain ⟨n, hn⟩ := h
  rw [hn]
  exact ⟨rfl, rfl, rfl, Nat.le_refl _, fun _ _ => rfl⟩
theorem rname_calls (t : ByteArray) (w : World) (r : Bool) (hr : nameB (bs t) = r) : Calls Tryz.prog 39 #[.string t] w fun e w' => e = .returned (.bool r) ∧ Below w.heap.size w w' :=
  (tappetref02_Name.calls (t.size + 1) t r w ((rname_spec t).trans (by rw [← hr]; rfl))).mono fun e w' ⟨he, hd⟩ => ⟨he, drawn_below hd⟩
theorem rstring_calls (t : ByteArray) (ht : t.size ≤ 1000000000) (w : World) (r : Bool) (hr : stringB (bs t) = r) : Calls Tryz.prog 38 #[.string t] w fun e w' => e = .returned (.bool r) ∧ Below w.heap.size w w' :=
  (tappetref02_String.calls (t.size + 1) t r w ((rstring_spec t (by omega)).trans (by rw [← hr]; rfl))).mono fun e w' ⟨he, hd⟩ => ⟨he, drawn_below hd⟩
theorem rnote_calls (noted : Bool) (t : ByteArray) (ht : t.size ≤ 1000000000) (w : World) (r : Bool) (hr : noteB noted t = r) : Calls Tryz.prog 41 #[.bool noted, .string t] w fun e w' => e = .returned (.bool r) ∧ Below w.heap.size w w' := by
  refine (tappetref04_note.calls (t.size + 1) noted t r w ?_).mono fun e w' ⟨he, hd⟩ => ⟨he, drawn_below hd⟩
  unfold tappetref04_note.f
  unfold noteB at hr
  cases noted with
  | true =>
    rw [if_pos rfl, rstring_spec t (by omega)]
    rw [if_pos rfl] at hr
    unfold bs at hr
    cases r <;> simp [hr]
  | false =>
    rw [if_neg (by decide)]
    rw [if_neg (by decide)] at hr
    rw [← hr, ByteArray.toList_eq]
    unfold bs
    cases t.data.toList <;> rfl
theorem rright_calls (k : Int) (t : ByteArray) (n : Int) (h : Bool) (ht : t.size ≤ 1000000000) (w : World) (r : Bool) (hr : valB ⟨k, t, n, h⟩ = r) : Calls Tryz.prog 121 #[.agg #[.int .i64 k, .string t, .int .u32 n, .bool h]] w fun e w' => e = .returned (.bool r) ∧ Below w.heap.size w w' := by
  refine tappetref04_right.calls (t.size + 1) k t n h r w ?_
  unfold tappetref04_right.f
  unfold valB at hr
  simp only at hr
  by_cases h1 : k = 1
  · rw [if_pos h1, rname_spec t]
    rw [if_pos h1] at hr
    unfold bs at hr
    rw [← hr]
    cases nameB t.data.toList <;> by_cases hn : n = 0 <;> cases h <;> simp [hn]
  · by_cases h2 : k = 2
    · rw [if_neg h1, if_pos h2]
      rw [if_neg h1, if_pos h2] at hr
      rw [← hr, ByteArray.toList_eq]
      unfold bs
      cases t.data.toList <;> rfl
    · by_cases h3 : k = 3
      · rw [if_neg h1, if_neg h2, if_pos h3, rstring_spec t (by omega)]
        rw [if_neg h1, if_neg h2, if_pos h3] at hr
        unfold bs at hr
        rw [← hr]
        cases stringB t.data.toList <;> by_cases hn : n = 0 <;> cases h <;> simp [hn]
      · rw [if_neg h1, if_neg h2, if_neg h3]
        rw [if_neg h1, if_neg h2, if_neg h3] at hr
        rw [hr]
/-- A slice of whole numbers that is read; where it lies. -/
structure AtQ (w : World) (B : Nat) (A : Option Addr) (c : Nat) (q : List Int) : Prop where
  cap : q.length ≤ c
  rd : Kd.C (Kd.int .i64) w A q.length q
  lo : ∀ ad, A = some ad → B ≤ ad.block
theorem AtQ.below {w w1 : World} {B c : Nat} {A : Option Addr} {q : List Int} (h : AtQ w B A c q) (hB : Below w.heap.size w w1) : AtQ w1 B A c q := ⟨h.cap, Kd.C_below h.rd hB, h.lo⟩
theorem rwith_calls (A : Option Addr) (c : Nat) (p : List Int) (j : Int) (w : World) (B : Nat) (h : AtQ w B A c p) (hB : B ≤ w.heap.size) (hp : p.length ≤ 1000000000) :
    Calls Tryz.prog 92 #[.slice A p.length c, .int .i64 j] w fun e w' => (∃ A' c', e = .returned (.slice A' (p ++ [j]).length c') ∧ AtQ w' B A' c' (p ++ [j])) ∧ Below w.heap.size w w' := by
  refine (tappetref04_with.calls A c p j (p ++ [j]) w h.rd h.cap ?_).mono fun e w' ⟨v, he, hR, hb⟩ => ?_
  · unfold tappetref04_with.f
    rw [if_pos (by simp; omega)]
    simp only [List.nil_append, Option.bind_some]
    rw [if_pos (by omega)]
  · obtain ⟨A', c', hv, hl, hC⟩ := Kd.R_reads hR
    have hbase : ∀ ad, A' = some ad → B ≤ ad.block := by
      intro ad had
      obtain ⟨g, cap, hv2, hg, _⟩ := Kd.R_form hR (by simp)
      rw [hv2] at hv
      injection hv with e1 e2 e3
      rw [← e1] at had
      injection had with had
      subst had
      exact Nat.le_trans hB hg
    exact ⟨⟨A', c', by rw [he, hv], hl, hC, hbase⟩, hb⟩
end Go.Proofs.YtmfejjlmflgnbaaGreatDoor.Tok
/- CONTRACT: the document's attr: where an attribute is at fault, by induction on how many stand in it. -/
namespace Go.Proofs.YtmfejjlmflgnbaaGreatDoor.Tok
open Go.RowKit Go.Proofs.YtmfejjlmflgnbaaGreatDoor.PA Go.Proofs.YtmfejjlmflgnbaaGreatDoorW.PrintWords Go.Proofs.YtmfejjlmflgnbaaGreatDoorW.PrintLast Go.Proofs.YtmfejjlmflgnbaaGreatDoor.Sp Go.Proofs.YtmfejjlmflgnbaaGreatDoor.Tr
set_option linter.unusedVariables false
set_option linter.unusedSimpArgs false
set_option maxRecDepth 100000

def RefA (r : Option (List Int)) (B : Nat) (A : Option Addr) (c : Nat) (p : List Int) (w : World) (e : Ending) (w' : World) : Prop :=
  match r with
    | none => e = .returned (.tuple #[.slice A p.length c, .bool false]) ∧ Below w.heap.size w w'
    | some q => (∃ A' c', e = .returned (.tuple #[.slice A' q.length c', .bool true]) ∧ AtQ w' B A' c' q) ∧ Below w.heap.size w w'
theorem wrong_parts (a : SA) (d : Nat) (r1 r2 : Bool) (h1 : nameB (bs a.f0) = r1) (h2 : valB a.f2 = r2) : wrongA a d = (!r1 || !r2 || (!a.f3 && !a.f4.isEmpty) || (a.f3 && decide (4 < d))) := by
  unfold wrongA; rw [h1, h2]
set_option maxHeartbeats 16000000 in
theorem rattr_calls (m : Nat) : ∀ (a : SA) (n : Nat) (A9 A : Option Addr) (c9 c : Nat) (p : List Int) (d B : Nat) (w : World), cntA a ≤ m → a.f2.f2 = (n : Int) → Kd.C k50 w A9 a.f4.length a.f4 → a.f4.length ≤ c9 → AtQ w B A c p → B ≤ w.heap.size → p.length + cntA a ≤ 1000000000 → d + cntA a ≤ 1000000000 → wfA a →
    Calls Tryz.prog 91 #[.agg (attrC a (n : Int) A9 c9), .slice A p.length c, .int .i64 (d : Int)] w (RefA (badA a p d) B A c p w) := by
  induction m with
  | zero =>
    intro a n A9 A c9 c p d B w hm
    rw [cnt_eq] at hm
    omega
  | succ m ih =>
    intro a n A9 A c9 c p d B w hm hn hC9 l9 hQ hBw hp hd hwf
    rw [cnt_eq] at hm hp hd
    obtain ⟨⟨_, hs1, hs2⟩, hwp⟩ := (wf_eq a).1 hwf
    have HM := Lib.hid hm
    have HNE := Lib.hid hn
    have HC9 := Lib.hid hC9
    have HQ := Lib.hid hQ
    have HBW := Lib.hid hBw
    have HP := Lib.hid (show p.length + cntL a.f4 + 1 ≤ 1000000000 ∧ d + cntL a.f4 + 1 ≤ 1000000000 from ⟨by omega, by omega⟩)
    have HWP := Lib.hid hwp
    have HS1 := Lib.hid hs1
    have HS2 := Lib.hid hs2
    have hlen := cnt_len a.f4
    have HL := Lib.hid (show a.f4.length ≤ 1000000000 by omega)
    obtain ⟨rn, hrn⟩ : ∃ rn, nameB (bs a.f0) = rn := ⟨_, rfl⟩
    have HRN := Lib.hid hrn
    obtain ⟨rv, hrv⟩ : ∃ rv, valB a.f2 = rv := ⟨_, rfl⟩
    have HRV := Lib.hid hrv
    have HWR := Lib.hid (wrong_parts a d rn rv hrn hrv)
    clear hm hn hC9 hQ hBw hp hd hwf hs1 hs2 hwp hlen hrn hrv
    unfold attrC
    go_enter Tryz.func91, Tryz.ntmps91
    go_wp2_with fail
    obtain ⟨w0, hw0⟩ : ∃ w0 : World, w0 = w.alloc (.cells #[.string a.f0, .int .i64 a.f1.f0, .int .i64 a.f1.f1, .int .i64 a.f1.f2, .int .i64 a.f2.f0, .string a.f2.f1, .int .u32 (n : Int), .bool a.f2.f3, .bool a.f3, .slice A9 a.f4.length c9, .bool a.f5, .string a.f6] 50) := ⟨_, rfl⟩
    rw [← hw0]
    have B0 : Hid (Below w.heap.size w w0) := Lib.hid (by rw [hw0]; exact alloc_below _ _)
    have G0 : Hid (w0.heap[w.heap.size]? = some (.cells (attrC a (n : Int) A9 c9) 50 (0, 0))) := Lib.hid (by rw [hw0]; exact heap_alloc_new _ _)
    clear hw0
    refine (rname_calls a.f0 w0 rn HRN.out).mono ?_
    rintro e w1 ⟨rfl, hB1⟩
    have B01 := Lib.hid hB1
    have B1 := Lib.hid (B0.out.trans (hB1.mono B0.out.size))
    clear hB1
    obtain ⟨y0, y4, y5, y6, y7, y8, y9, y10, y11⟩ := attr_read G0.out B01.out
    have HEND : Hid (∀ w', Below w.heap.size w w' → wrongA a d = true → RefA (badA a p d) B A c p w (.returned (.tuple #[.slice A p.length c, .bool true])) w') := Lib.hid (fun w' hB h => by
      rw [badA_wrong h]
      exact ⟨⟨A, c, rfl, HQ.out.below hB⟩, hB⟩)
    cases rn with
    | false =>
      have HW : Hid (wrongA a d = true) := Lib.hid (by rw [HWR.out]; rfl)
      go_wp2_with fail
      refine bodyPost_ret (results_list (rs := [.tmp 6, .tmp 7]) rfl (by simp) (.tmp (.tmp .nil))) rfl ?_
      exact HEND.out _ B1.out HW.out
    | true =>
      go_wp2_with fail
      refine (rright_calls a.f2.f0 a.f2.f1 (n : Int) a.f2.f3 HS1.out w1 rv (by rw [← HNE.out]; exact HRV.out)).mono ?_
      rintro e w2 ⟨rfl, hB2⟩
      have B02 := Lib.hid (B01.out.trans (hB2.mono B01.out.size))
      have B2 := Lib.hid (B1.out.trans (hB2.mono B1.out.size))
      clear hB2 y0 y4 y5 y6 y7 y8 y9 y10 y11
      obtain ⟨y0, y4, y5, y6, y7, y8, y9, y10, y11⟩ := attr_read G0.out B02.out
      cases rv with
      | false =>
        have HW : Hid (wrongA a d = true) := Lib.hid (by rw [HWR.out]; rfl)
        go_wp2_with fail
        refine bodyPost_ret (results_list (rs := [.tmp 6, .tmp 7]) rfl (by simp) (.tmp (.tmp .nil))) rfl ?_
        exact HEND.out _ B2.out HW.out
      | true =>
        obtain ⟨br, hbr⟩ : ∃ br, a.f3 = br := ⟨_, rfl⟩
        rw [hbr] at y8
        have HBR := Lib.hid hbr
        clear hbr
        have hcase : (br = false ∧ 0 < a.f4.length ∨ br = true ∧ 4 < d) ∨ ((br = false ∧ ¬ 0 < a.f4.length) ∨ br = true ∧ ¬ 4 < d) := by
          cases br
          · by_cases h : 0 < a.f4.length
            · exact .inl (.inl ⟨rfl, h⟩)
            · exact .inr (.inl ⟨rfl, h⟩)
          · by_cases h : 4 < d
            · exact .inl (.inr ⟨rfl, h⟩)
            · exact .inr (.inr ⟨rfl, h⟩)
        rcases hcase with (⟨hb, hps⟩ | ⟨hb, hd4⟩) | hgood
        · subst hb
          have HW : Hid (wrongA a d = true) := Lib.hid (by rw [HWR.out, HBR.out]; cases hz : a.f4 with | nil => rw [hz] at hps; simp at hps | cons _ _ => rfl)
          have dp : decide ((0 : Int) < (a.f4.length : Int)) = true := decide_eq_true (by omega)
          have dpn : decide (0 < a.f4.length) = true := decide_eq_true hps
          go_wp2_with fail
          refine bodyPost_ret (results_list (rs := [.tmp 6, .tmp 7]) rfl (by simp) (.tmp (.tmp .nil))) rfl ?_
          exact HEND.out _ B2.out HW.out
        · subst hb
          have HW : Hid (wrongA a d = true) := Lib.hid (by rw [HWR.out, HBR.out]; simp [hd4])
          have dd : decide ((4 : Int) < (d : Int)) = true := decide_eq_true (by omega)
          have ddn : decide (4 < d) = true := decide_eq_true hd4
          go_wp2_with fail
          refine bodyPost_ret (results_list (rs := [.tmp 6, .tmp 7]) rfl (by simp) (.tmp (.tmp .nil))) rfl ?_
          exact HEND.out _ B2.out HW.out
        · have HW : Hid (wrongA a d = false) := Lib.hid (by
            rw [HWR.out, HBR.out]
            rcases hgood with ⟨rfl, h⟩ | ⟨rfl, h⟩
            · cases hz : a.f4 with | nil => rfl | cons _ _ => rw [hz] at h; simp at h
            · simp [h])
          have hfacts : (br = false ∧ decide ((0 : Int) < (a.f4.length : Int)) = false ∧ decide (0 < a.f4.length) = false) ∨ (br = true ∧ decide ((4 : Int) < (d : Int)) = false ∧ decide (4 < d) = false) := by
            rcases hgood with ⟨h1, h⟩ | ⟨h1, h⟩
            · exact .inl ⟨h1, decide_eq_false (by omega), decide_eq_false h⟩
            · exact .inr ⟨h1, decide_eq_false (by omega), decide_eq_false h⟩
          clear hgood
          rcases hfacts with ⟨rfl, dp, dpn⟩ | ⟨rfl, dd, ddn⟩
          all_goals
            go_wp2_with fail
            clear y0 y4 y5 y6 y7 y8 y9 y10 y11
            go_loopw [8] (fun v wr => ∃ j : Nat, v = .int .i64 (j : Int) ∧ j ≤ a.f4.length ∧ Hid (badL (a.f4.drop j) p j (d + 1) = badL a.f4 p 0 (d + 1)) ∧ Hid (Below w2.heap.size w2 wr)) (fun v _ => a.f4.length - (intOf v).toNat)
            case atStart => exact ⟨0, by go_num, by omega, Lib.hid rfl, Lib.hid (Below.refl _ _)⟩
            case round =>
              obtain ⟨j, rfl, hj, RL, BL⟩ := hrel
              have hl9 := HL.out
              have BR := Lib.hid (B2.out.trans (BL.out.mono B2.out.size))
              have B0R := Lib.hid (B02.out.trans (BL.out.mono B02.out.size))
              obtain ⟨_, _, _, _, _, _, x0, z10, z11⟩ := attr_read G0.out B0R.out
              by_cases hlt : j < a.f4.length
              · clear z10 z11
                have hx : a.f4[j]? = some a.f4[j] := List.getElem?_eq_getElem hlt
                obtain ⟨ad, A8, c8, eA, x1, x2, x3, x4, x5, x6, x7, x8, x9, x10, x11, x12, l8, C8⟩ := at_T50 HC9.out (j : Int) (by omega) (by omega)
                rw [rd_at a.f4 j _ hx] at x1 x2 x3 x4 x5 x6 x7 x8 x9 x10 x11 x12 l8 C8
                have hwb := wf_get a.f4 j _ HWP.out hx
                have hcn := cnt_get a.f4 j _ hx
                generalize a.f4[j] = b at hx x1 x2 x3 x4 x5 x6 x7 x8 x9 x10 x11 x12 l8 C8 hwb hcn
                cases eA
                obtain ⟨nb, hnb⟩ : ∃ nb : Nat, b.f2.f2 = (nb : Int) := ⟨b.f2.f2.toNat, by have := ((wf_eq b).1 hwb).1.1; omega⟩
                rw [hnb] at x7
                obtain ⟨q, hq⟩ : ∃ q, q = p ++ [(j : Int)] := ⟨_, rfl⟩
                have hql : q.length = p.length + 1 := by rw [hq]; simp
                simp only [Int.toNat_natCast] at x1 x2 x3 x4 x5 x6 x7 x8 x9 x10 x11 x12
                replace x1 := (BR.out.cell (World.block_lt_of_cell? w _ x1)).trans x1
                replace x2 := (BR.out.cell (World.block_lt_of_cell? w _ x2)).trans x2
                replace x3 := (BR.out.cell (World.block_lt_of_cell? w _ x3)).trans x3
                replace x4 := (BR.out.cell (World.block_lt_of_cell? w _ x4)).trans x4
                replace x5 := (BR.out.cell (World.block_lt_of_cell? w _ x5)).trans x5
                replace x6 := (BR.out.cell (World.block_lt_of_cell? w _ x6)).trans x6
                replace x7 := (BR.out.cell (World.block_lt_of_cell? w _ x7)).trans x7
                replace x8 := (BR.out.cell (World.block_lt_of_cell? w _ x8)).trans x8
                replace x9 := (BR.out.cell (World.block_lt_of_cell? w _ x9)).trans x9
                replace x10 := (BR.out.cell (World.block_lt_of_cell? w _ x10)).trans x10
                replace x11 := (BR.out.cell (World.block_lt_of_cell? w _ x11)).trans x11
                replace x12 := (BR.out.cell (World.block_lt_of_cell? w _ x12)).trans x12
                have HW2 : Hid (∀ W, Below wr.heap.size wr W → Calls Tryz.prog 92 #[.slice A p.length c, .int .i64 (j : Int)] W fun e w' => (∃ A' c', e = .returned (.slice A' q.length c') ∧ AtQ w' B A' c' q) ∧ Below W.heap.size W w') := Lib.hid (fun W hB => by
                  rw [hq]
                  exact rwith_calls A c p j W B (HQ.out.below (BR.out.trans (hB.mono BR.out.size))) (by have := HBW.out; have := BR.out.size; have := hB.size; omega) (by have := HP.out; omega))
                obtain ⟨rb, hrb⟩ : ∃ rb, badA b q (d + 1) = rb := ⟨_, rfl⟩
                have HA2 : Hid (∀ W A' c', Below wr.heap.size wr W → AtQ W B A' c' q → Calls Tryz.prog 91 #[.agg #[.string b.f0, .int .i64 b.f1.f0, .int .i64 b.f1.f1, .int .i64 b.f1.f2, .int .i64 b.f2.f0, .string b.f2.f1, .int .u32 (nb : Int), .bool b.f2.f3, .bool b.f3, .slice A8 b.f4.length c8, .bool b.f5, .string b.f6], .slice A' q.length c', .int .i64 ((d : Int) + 1)] W (RefA rb B A' c' q W)) := Lib.hid (fun W A' c' hB hQ => by
                  have h := ih b nb A8 A' c8 c' q (d + 1) B W (by have := HM.out; omega) hnb (Kd.C_below C8 (BR.out.trans (hB.mono BR.out.size))) l8 hQ (by have := HBW.out; have := BR.out.size; have := hB.size; omega) (by have := HP.out; omega) (by have := HP.out; omega) hwb
                  rw [hrb] at h
                  exact h)
                have HHIT : Hid (∀ qq, rb = some qq → badL a.f4 p 0 (d + 1) = some qq) := Lib.hid (fun qq h => by rw [← RL.out]; exact badL_hit hx (by rw [← hq, hrb, h]))
                have HMISS : Hid (rb = none → badL (a.f4.drop (j + 1)) p (j + 1) (d + 1) = badL a.f4 p 0 (d + 1)) := Lib.hid (fun h => by rw [← RL.out]; exact (badL_miss hx (by rw [← hq, hrb, h])).symm)
                have hdw : IntKind.i64.wrap ((d : Int) + 1) = (d : Int) + 1 := by have := HP.out; unfold IntKind.wrap; simp [IntKind.bits]; omega
                clear hx hwb hcn hnb hq hql C8 hrb RL
                cases rb with
                | none =>
                  go_wp2_with fail
                  go_region_held3 (fun W => W.cell? ⟨w.heap.size, 9, none⟩ = some (.slice (some ad) a.f4.length c9) ∧ W.cell? (ad.add (j * 12)) = some (.string b.f0) ∧ W.cell? ⟨(ad.add (j * 12)).block, (ad.add (j * 12)).off + 1, none⟩ = some (.int .i64 b.f1.f0) ∧ W.cell? ⟨(ad.add (j * 12)).block, (ad.add (j * 12)).off + 2, none⟩ = some (.int .i64 b.f1.f1) ∧ W.cell? ⟨(ad.add (j * 12)).block, (ad.add (j * 12)).off + 3, none⟩ = some (.int .i64 b.f1.f2) ∧ W.cell? ⟨(ad.add (j * 12)).block, (ad.add (j * 12)).off + 4, none⟩ = some (.int .i64 b.f2.f0) ∧ W.cell? ⟨(ad.add (j * 12)).block, (ad.add (j * 12)).off + 5, none⟩ = some (.string b.f2.f1) ∧ W.cell? ⟨(ad.add (j * 12)).block, (ad.add (j * 12)).off + 6, none⟩ = some (.int .u32 (nb : Int)) ∧ W.cell? ⟨(ad.add (j * 12)).block, (ad.add (j * 12)).off + 7, none⟩ = some (.bool b.f2.f3) ∧ W.cell? ⟨(ad.add (j * 12)).block, (ad.add (j * 12)).off + 8, none⟩ = some (.bool b.f3) ∧ W.cell? ⟨(ad.add (j * 12)).block, (ad.add (j * 12)).off + 9, none⟩ = some (.slice A8 b.f4.length c8) ∧ W.cell? ⟨(ad.add (j * 12)).block, (ad.add (j * 12)).off + 10, none⟩ = some (.bool b.f5) ∧ W.cell? ⟨(ad.add (j * 12)).block, (ad.add (j * 12)).off + 11, none⟩ = some (.string b.f6)) (first | exact ⟨x0, x1, x2, x3, x4, x5, x6, x7, x8, x9, x10, x11, x12⟩ | exact ⟨y0, y1, y2, y3, y4, y5, y6, y7, y8, y9, y10, y11, y12⟩ | exact ⟨t0, t1, t2, t3, t4, t5, t6, t7, t8, t9, t10, t11, t12⟩ | assumption) (first
                    | (go_at_call 92; refine (HW2.out _ (Below.refl _ _).drew).mono ?_; rintro e w4 ⟨⟨A', c', rfl, hQ4⟩, hB4⟩; have Q4 := Lib.hid hQ4; have B4 : Hid (Below wr.heap.size wr w4) := Lib.hid ((Below.refl _ _).drew.trans hB4); have y0 := (hB4.cell (World.block_lt_of_cell? wr _ x0)).trans x0; have y1 := (hB4.cell (World.block_lt_of_cell? wr _ x1)).trans x1; have y2 := (hB4.cell (World.block_lt_of_cell? wr _ x2)).trans x2; have y3 := (hB4.cell (World.block_lt_of_cell? wr _ x3)).trans x3; have y4 := (hB4.cell (World.block_lt_of_cell? wr _ x4)).trans x4; have y5 := (hB4.cell (World.block_lt_of_cell? wr _ x5)).trans x5; have y6 := (hB4.cell (World.block_lt_of_cell? wr _ x6)).trans x6; have y7 := (hB4.cell (World.block_lt_of_cell? wr _ x7)).trans x7; have y8 := (hB4.cell (World.block_lt_of_cell? wr _ x8)).trans x8; have y9 := (hB4.cell (World.block_lt_of_cell? wr _ x9)).trans x9; have y10 := (hB4.cell (World.block_lt_of_cell? wr _ x10)).trans x10; have y11 := (hB4.cell (World.block_lt_of_cell? wr _ x11)).trans x11; have y12 := (hB4.cell (World.block_lt_of_cell? wr _ x12)).trans x12; clear hQ4 hB4)
                    | (go_at_call 91; refine (HA2.out _ A' c' B4.out Q4.out).mono ?_; rintro e w5 ⟨rfl, hB5⟩; have B5 : Hid (Below wr.heap.size wr w5) := Lib.hid (B4.out.trans (hB5.mono B4.out.size)); have t0 := (hB5.cell (World.block_lt_of_cell? w4 _ y0)).trans y0; have t1 := (hB5.cell (World.block_lt_of_cell? w4 _ y1)).trans y1; have t2 := (hB5.cell (World.block_lt_of_cell? w4 _ y2)).trans y2; have t3 := (hB5.cell (World.block_lt_of_cell? w4 _ y3)).trans y3; have t4 := (hB5.cell (World.block_lt_of_cell? w4 _ y4)).trans y4; have t5 := (hB5.cell (World.block_lt_of_cell? w4 _ y5)).trans y5; have t6 := (hB5.cell (World.block_lt_of_cell? w4 _ y6)).trans y6; have t7 := (hB5.cell (World.block_lt_of_cell? w4 _ y7)).trans y7; have t8 := (hB5.cell (World.block_lt_of_cell? w4 _ y8)).trans y8; have t9 := (hB5.cell (World.block_lt_of_cell? w4 _ y9)).trans y9; have t10 := (hB5.cell (World.block_lt_of_cell? w4 _ y10)).trans y10; have t11 := (hB5.cell (World.block_lt_of_cell? w4 _ y11)).trans y11; have t12 := (hB5.cell (World.block_lt_of_cell? w4 _ y12)).trans y12; clear hB5))
                  clear x0 x1 x2 x3 x4 x5 x6 x7 x8 x9 x10 x11 x12 y0 y1 y2 y3 y4 y5 y6 y7 y8 y9 y10 y11 y12 t0 t1 t2 t3 t4 t5 t6 t7 t8 t9 t10 t11 t12
                  have HN := Lib.hid (HMISS.out (by first | rfl | trivial))
                  go_wp2_with fail
                  exact ⟨⟨j + 1, by go_num, by omega, HN, Lib.hid (BL.out.trans (B5.out.mono BL.out.size))⟩, by simp [intOf]; omega⟩
                | some qq =>
                  go_wp2_with fail
                  go_region_held3 (fun W => W.cell? ⟨w.heap.size, 9, none⟩ = some (.slice (some ad) a.f4.length c9) ∧ W.cell? (ad.add (j * 12)) = some (.string b.f0) ∧ W.cell? ⟨(ad.add (j * 12)).block, (ad.add (j * 12)).off + 1, none⟩ = some (.int .i64 b.f1.f0) ∧ W.cell? ⟨(ad.add (j * 12)).block, (ad.add (j * 12)).off + 2, none⟩ = some (.int .i64 b.f1.f1) ∧ W.cell? ⟨(ad.add (j * 12)).block, (ad.add (j * 12)).off + 3, none⟩ = some (.int .i64 b.f1.f2) ∧ W.cell? ⟨(ad.add (j * 12)).block, (ad.add (j * 12)).off + 4, none⟩ = some (.int .i64 b.f2.f0) ∧ W.cell? ⟨(ad.add (j * 12)).block, (ad.add (j * 12)).off + 5, none⟩ = some (.string b.f2.f1) ∧ W.cell? ⟨(ad.add (j * 12)).block, (ad.add (j * 12)).off + 6, none⟩ = some (.int .u32 (nb : Int)) ∧ W.cell? ⟨(ad.add (j * 12)).block, (ad.add (j * 12)).off + 7, none⟩ = some (.bool b.f2.f3) ∧ W.cell? ⟨(ad.add (j * 12)).block, (ad.add (j * 12)).off + 8, none⟩ = some (.bool b.f3) ∧ W.cell? ⟨(ad.add (j * 12)).block, (ad.add (j * 12)).off + 9, none⟩ = some (.slice A8 b.f4.length c8) ∧ W.cell? ⟨(ad.add (j * 12)).block, (ad.add (j * 12)).off + 10, none⟩ = some (.bool b.f5) ∧ W.cell? ⟨(ad.add (j * 12)).block, (ad.add (j * 12)).off + 11, none⟩ = some (.string b.f6)) (first | exact ⟨x0, x1, x2, x3, x4, x5, x6, x7, x8, x9, x10, x11, x12⟩ | exact ⟨y0, y1, y2, y3, y4, y5, y6, y7, y8, y9, y10, y11, y12⟩ | exact ⟨t0, t1, t2, t3, t4, t5, t6, t7, t8, t9, t10, t11, t12⟩ | assumption) (first
                    | (go_at_call 92; refine (HW2.out _ (Below.refl _ _).drew).mono ?_; rintro e w4 ⟨⟨A', c', rfl, hQ4⟩, hB4⟩; have Q4 := Lib.hid hQ4; have B4 : Hid (Below wr.heap.size wr w4) := Lib.hid ((Below.refl _ _).drew.trans hB4); have y0 := (hB4.cell (World.block_lt_of_cell? wr _ x0)).trans x0; have y1 := (hB4.cell (World.block_lt_of_cell? wr _ x1)).trans x1; have y2 := (hB4.cell (World.block_lt_of_cell? wr _ x2)).trans x2; have y3 := (hB4.cell (World.block_lt_of_cell? wr _ x3)).trans x3; have y4 := (hB4.cell (World.block_lt_of_cell? wr _ x4)).trans x4; have y5 := (hB4.cell (World.block_lt_of_cell? wr _ x5)).trans x5; have y6 := (hB4.cell (World.block_lt_of_cell? wr _ x6)).trans x6; have y7 := (hB4.cell (World.block_lt_of_cell? wr _ x7)).trans x7; have y8 := (hB4.cell (World.block_lt_of_cell? wr _ x8)).trans x8; have y9 := (hB4.cell (World.block_lt_of_cell? wr _ x9)).trans x9; have y10 := (hB4.cell (World.block_lt_of_cell? wr _ x10)).trans x10; have y11 := (hB4.cell (World.block_lt_of_cell? wr _ x11)).trans x11; have y12 := (hB4.cell (World.block_lt_of_cell? wr _ x12)).trans x12; clear hQ4 hB4)
                    | (go_at_call 91; refine (HA2.out _ A' c' B4.out Q4.out).mono ?_; rintro e w5 ⟨⟨A5, c5, rfl, hQ5⟩, hB5⟩; have Q5 := Lib.hid hQ5; have B5 : Hid (Below wr.heap.size wr w5) := Lib.hid (B4.out.trans (hB5.mono B4.out.size)); have t0 := (hB5.cell (World.block_lt_of_cell? w4 _ y0)).trans y0; have t1 := (hB5.cell (World.block_lt_of_cell? w4 _ y1)).trans y1; have t2 := (hB5.cell (World.block_lt_of_cell? w4 _ y2)).trans y2; have t3 := (hB5.cell (World.block_lt_of_cell? w4 _ y3)).trans y3; have t4 := (hB5.cell (World.block_lt_of_cell? w4 _ y4)).trans y4; have t5 := (hB5.cell (World.block_lt_of_cell? w4 _ y5)).trans y5; have t6 := (hB5.cell (World.block_lt_of_cell? w4 _ y6)).trans y6; have t7 := (hB5.cell (World.block_lt_of_cell? w4 _ y7)).trans y7; have t8 := (hB5.cell (World.block_lt_of_cell? w4 _ y8)).trans y8; have t9 := (hB5.cell (World.block_lt_of_cell? w4 _ y9)).trans y9; have t10 := (hB5.cell (World.block_lt_of_cell? w4 _ y10)).trans y10; have t11 := (hB5.cell (World.block_lt_of_cell? w4 _ y11)).trans y11; have t12 := (hB5.cell (World.block_lt_of_cell? w4 _ y12)).trans y12; clear hB5 hQ5))
                  clear x0 x1 x2 x3 x4 x5 x6 x7 x8 x9 x10 x11 x12 y0 y1 y2 y3 y4 y5 y6 y7 y8 y9 y10 y11 y12 t0 t1 t2 t3 t4 t5 t6 t7 t8 t9 t10 t11 t12
                  go_wp2_with fail
                  refine bodyPost_ret (results_list (rs := [.tmp 6, .tmp 7]) rfl (by simp) (.tmp (.tmp .nil))) rfl ?_
                  rw [badA_in HW.out (HHIT.out qq rfl)]
                  exact ⟨⟨A5, c5, rfl, Q5.out⟩, BR.out.trans (B5.out.mono BR.out.size)⟩
              · obtain rfl : j = a.f4.length := by omega
                have HN : Hid (badL a.f4 p 0 (d + 1) = none) := Lib.hid (by rw [← RL.out, List.drop_eq_nil_of_le (Nat.le_refl _), badL_nil])
                obtain ⟨rt, hrt⟩ : ∃ rt, noteB a.f5 a.f6 = rt := ⟨_, rfl⟩
                have HRT := Lib.hid hrt
                clear hrt RL
                go_wp2_with fail
                refine (rnote_calls a.f5 a.f6 HS2.out wr rt HRT.out).mono ?_
                rintro e w4 ⟨rfl, hB4⟩
                have B4 := Lib.hid (BR.out.trans (hB4.mono BR.out.size))
                clear hB4
                cases rt with
                | false =>
                  go_wp2_with fail
                  refine bodyPost_ret (results_list (rs := [.tmp 6, .tmp 7]) rfl (by simp) (.tmp (.tmp .nil))) rfl ?_
                  rw [badA_note HW.out HN.out HRT.out]
                  exact ⟨⟨A, c, rfl, HQ.out.below B4.out⟩, B4.out⟩
                | true =>
                  go_wp2_with fail
                  refine bodyPost_ret (results_list (rs := [.tmp 6, .tmp 7]) rfl (by simp) (.tmp (.tmp .nil))) rfl ?_
                  rw [badA_none HW.out HN.out HRT.out]
                  exact ⟨rfl, B4.out⟩
end Go.Proofs.YtmfejjlmflgnbaaGreatDoor.Tok
/- CONTRACTS: the document's object and Fits. -/
namespace Go.Proofs.YtmfejjlmflgnbaaGreatDoor.Tok
open Go.RowKit Go.Proofs.YtmfejjlmflgnbaaGreatDoor.PA Go.Proofs.YtmfejjlmflgnbaaGreatDoorW.PrintWords Go.Proofs.YtmfejjlmflgnbaaGreatDoorW.PrintLast Go.Proofs.YtmfejjlmflgnbaaGreatDoor.Sp Go.Proofs.YtmfejjlmflgnbaaGreatDoor.Tr
set_option linter.unusedVariables false
set_option linter.unusedSimpArgs false
set_option maxRecDepth 100000

def RefO (r : Option (List Int)) (w : World) (e : Ending) (w' : World) : Prop :=
  match r with
    | none => (∃ v, e = .returned (.tuple #[v, .bool false])) ∧ Below w.heap.size w w'
    | some q => (∃ A' c', e = .returned (.tuple #[.slice A' q.length c', .bool true]) ∧ AtQ w' w.heap.size A' c' q) ∧ Below w.heap.size w w'
theorem atq_one (w w' : World) (B g : Nat) (k : Int) (h : w.heap[g]? = some (.cells #[.int .i64 k] 3 (0, 0))) (hB : B ≤ g) (hb : Below w.heap.size w w') : AtQ w' B (some ⟨g, 0, none⟩) 1 [k] :=
  ⟨by simp, C_one _ _ _ ((cell_row ((hb.block _ (Array.getElem?_eq_some_iff.1 h).1).trans h) 0).trans rfl), fun ad e => by injection e with e; subst e; exact hB⟩
set_option maxHeartbeats 16000000 in
theorem robject_calls (a : SO) (A5 : Option Addr) (c5 : Nat) (k : Nat) (w : World) (hC : Kd.C k50 w A5 a.f3.length a.f3) (l5 : a.f3.length ≤ c5) (hn : cntL a.f3 ≤ 100000000) (hwf : wfL a.f3) (hs : a.f5.size ≤ 1000000000) :
    Calls Tryz.prog 40 #[.agg (objC a A5 c5), .int .i64 (k : Int)] w (RefO (badO a k) w) := by
  have HC5 := Lib.hid hC
  have HCN := Lib.hid hn
  have HWP := Lib.hid hwf
  have HS2 := Lib.hid hs
  have hlen := cnt_len a.f3
  have HL := Lib.hid (show a.f3.length ≤ 100000000 by omega)
  obtain ⟨rn, hrn⟩ : ∃ rn, nameB (bs a.f0) = rn := ⟨_, rfl⟩
  have HRN := Lib.hid hrn
  obtain ⟨ro, hro⟩ : ∃ ro, nameB (bs a.f1) = ro := ⟨_, rfl⟩
  have HRO := Lib.hid hro
  clear hC hn hwf hs hlen hrn hro
  unfold objC
  go_enter Tryz.func40, Tryz.ntmps40
  go_wp2_with fail
  obtain ⟨w0, hw0⟩ : ∃ w0 : World, w0 = ((w.alloc (.cells #[.string a.f0, .string a.f1, .int .i64 a.f2.f0, .int .i64 a.f2.f1, .int .i64 a.f2.f2, .slice A5 a.f3.length c5, .bool a.f4, .string a.f5] 44)).alloc (.cells #[.int .i64 (k : Int)] 3)) := ⟨_, rfl⟩
  rw [← hw0]
  obtain ⟨B0, GK, Z0⟩ := two_worlds hw0
  have G0 : Hid (w0.heap[w.heap.size]? = some (.cells (objC a A5 c5) 44 (0, 0))) := Lib.hid (by
    rw [hw0]
    have g := heap_alloc_new w (.cells #[.string a.f0, .string a.f1, .int .i64 a.f2.f0, .int .i64 a.f2.f1, .int .i64 a.f2.f2, .slice A5 a.f3.length c5, .bool a.f4, .string a.f5] 44)
    exact ((alloc_below _ _).block _ (by simp)).trans g)
  clear hw0
  refine (rname_calls a.f0 w0 rn HRN.out).mono ?_
  rintro e w1 ⟨rfl, hB1⟩
  have B01 := Lib.hid hB1
  have B1 := Lib.hid (B0.out.trans (hB1.mono B0.out.size))
  clear hB1
  obtain ⟨_, y1, _, _, _⟩ := obj_read G0.out B01.out
  have hz := Z0.out
  have HEND : Hid (∀ w', Below w0.heap.size w0 w' → badO a k = some [(k : Int)] → RefO (badO a k) w (.returned (.tuple #[.slice (some ⟨w.heap.size + 1, 0, none⟩) 1 1, .bool true])) w') := Lib.hid (fun w' hB h => by
    rw [h]
    exact ⟨⟨_, _, rfl, atq_one w0 w' w.heap.size (w.heap.size + 1) (k : Int) GK.out (by omega) hB⟩, B0.out.trans (hB.mono B0.out.size)⟩)
  cases rn with
  | false =>
    go_wp2_with fail
    refine bodyPost_ret (results_list (rs := [.tmp 4, .tmp 5]) rfl (by simp) (.tmp (.tmp .nil))) rfl ?_
    exact HEND.out _ B01.out (badO_kind HRN.out)
  | true =>
    go_wp2_with fail
    refine (rname_calls a.f1 w1 ro HRO.out).mono ?_
    rintro e w2 ⟨rfl, hB2⟩
    have B02 := Lib.hid (B01.out.trans (hB2.mono B01.out.size))
    have B2 := Lib.hid (B1.out.trans (hB2.mono B1.out.size))
    clear hB2 y1
    cases ro with
    | false =>
      go_wp2_with fail
      refine bodyPost_ret (results_list (rs := [.tmp 4, .tmp 5]) rfl (by simp) (.tmp (.tmp .nil))) rfl ?_
      exact HEND.out _ B02.out (badO_name HRO.out)
    | true =>
      go_wp2_with fail
      go_loopw [7] (fun v wr => ∃ j : Nat, v = .int .i64 (j : Int) ∧ j ≤ a.f3.length ∧ Hid (badL (a.f3.drop j) [(k : Int)] j 1 = badL a.f3 [(k : Int)] 0 1) ∧ Hid (Below w2.heap.size w2 wr)) (fun v _ => a.f3.length - (intOf v).toNat)
      case atStart => exact ⟨0, by go_num, by omega, Lib.hid rfl, Lib.hid (Below.refl _ _)⟩
      case round =>
        obtain ⟨j, rfl, hj, RL, BL⟩ := hrel
        have hl9 := HL.out
        have BR := Lib.hid (B2.out.trans (BL.out.mono B2.out.size))
        have B0R := Lib.hid (B02.out.trans (BL.out.mono B02.out.size))
        obtain ⟨_, _, x0, z10, z11⟩ := obj_read G0.out B0R.out
        by_cases hlt : j < a.f3.length
        · clear z10 z11
          have hx : a.f3[j]? = some a.f3[j] := List.getElem?_eq_getElem hlt
          obtain ⟨ad, A8, c8, eA, x1, x2, x3, x4, x5, x6, x7, x8, x9, x10, x11, x12, l8, C8⟩ := at_T50 HC5.out (j : Int) (by omega) (by omega)
          rw [rd_at a.f3 j _ hx] at x1 x2 x3 x4 x5 x6 x7 x8 x9 x10 x11 x12 l8 C8
          have hwb := wf_get a.f3 j _ HWP.out hx
          have hcn := cnt_get a.f3 j _ hx
          generalize a.f3[j] = b at hx x1 x2 x3 x4 x5 x6 x7 x8 x9 x10 x11 x12 l8 C8 hwb hcn
          cases eA
          obtain ⟨nb, hnb⟩ : ∃ nb : Nat, b.f2.f2 = (nb : Int) := ⟨b.f2.f2.toNat, by have := ((wf_eq b).1 hwb).1.1; omega⟩
          rw [hnb] at x7
          obtain ⟨q, hq⟩ : ∃ q, q = [(k : Int)] ++ [(j : Int)] := ⟨_, rfl⟩
          have hql : q.length = 2 := by rw [hq]; rfl
          simp only [Int.toNat_natCast] at x1 x2 x3 x4 x5 x6 x7 x8 x9 x10 x11 x12
          replace x1 := (BR.out.cell (World.block_lt_of_cell? w _ x1)).trans x1
          replace x2 := (BR.out.cell (World.block_lt_of_cell? w _ x2)).trans x2
          replace x3 := (BR.out.cell (World.block_lt_of_cell? w _ x3)).trans x3
          replace x4 := (BR.out.cell (World.block_lt_of_cell? w _ x4)).trans x4
          replace x5 := (BR.out.cell (World.block_lt_of_cell? w _ x5)).trans x5
          replace x6 := (BR.out.cell (World.block_lt_of_cell? w _ x6)).trans x6
          replace x7 := (BR.out.cell (World.block_lt_of_cell? w _ x7)).trans x7
          replace x8 := (BR.out.cell (World.block_lt_of_cell? w _ x8)).trans x8
          replace x9 := (BR.out.cell (World.block_lt_of_cell? w _ x9)).trans x9
          replace x10 := (BR.out.cell (World.block_lt_of_cell? w _ x10)).trans x10
          replace x11 := (BR.out.cell (World.block_lt_of_cell? w _ x11)).trans x11
          replace x12 := (BR.out.cell (World.block_lt_of_cell? w _ x12)).trans x12
          have HW2 : Hid (∀ W, Below wr.heap.size wr W → Calls Tryz.prog 92 #[.slice (some ⟨w.heap.size + 1, 0, none⟩) 1 1, .int .i64 (j : Int)] W fun e w' => (∃ A' c', e = .returned (.slice A' q.length c') ∧ AtQ w' w.heap.size A' c' q) ∧ Below W.heap.size W w') := Lib.hid (fun W hB => by
            rw [hq]
            exact rwith_calls (some ⟨w.heap.size + 1, 0, none⟩) 1 [(k : Int)] j W w.heap.size (atq_one w0 W w.heap.size (w.heap.size + 1) (k : Int) GK.out (by omega) (B0R.out.trans (hB.mono B0R.out.size))) (by have := BR.out.size; have := hB.size; omega) (by simp))
          obtain ⟨rb, hrb⟩ : ∃ rb, badA b q 1 = rb := ⟨_, rfl⟩
          have HA2 : Hid (∀ W A' c', Below wr.heap.size wr W → AtQ W w.heap.size A' c' q → Calls Tryz.prog 91 #[.agg #[.string b.f0, .int .i64 b.f1.f0, .int .i64 b.f1.f1, .int .i64 b.f1.f2, .int .i64 b.f2.f0, .string b.f2.f1, .int .u32 (nb : Int), .bool b.f2.f3, .bool b.f3, .slice A8 b.f4.length c8, .bool b.f5, .string b.f6], .slice A' q.length c', .int .i64 1] W (RefA rb w.heap.size A' c' q W)) := Lib.hid (fun W A' c' hB hQ => by
            have h := rattr_calls (cntA b) b nb A8 A' c8 c' q 1 w.heap.size W (Nat.le_refl _) hnb (Kd.C_below C8 (BR.out.trans (hB.mono BR.out.size))) l8 hQ (by have := BR.out.size; have := hB.size; omega) (by have := HCN.out; omega) (by have := HCN.out; omega) hwb
            rw [hrb] at h
            exact h)
          have HHIT : Hid (∀ qq, rb = some qq → badL a.f3 [(k : Int)] 0 1 = some qq) := Lib.hid (fun qq h => by rw [← RL.out]; exact badL_hit hx (by rw [← hq, hrb, h]))
          have HMISS : Hid (rb = none → badL (a.f3.drop (j + 1)) [(k : Int)] (j + 1) 1 = badL a.f3 [(k : Int)] 0 1) := Lib.hid (fun h => by rw [← RL.out]; exact (badL_miss hx (by rw [← hq, hrb, h])).symm)
          clear hx hwb hcn hnb hq hql C8 hrb RL hz
          cases rb with
          | none =>
            go_wp2_with fail
            go_region_held3 (fun W => W.cell? ⟨w.heap.size, 5, none⟩ = some (.slice (some ad) a.f3.length c5) ∧ W.cell? (ad.add (j * 12)) = some (.string b.f0) ∧ W.cell? ⟨(ad.add (j * 12)).block, (ad.add (j * 12)).off + 1, none⟩ = some (.int .i64 b.f1.f0) ∧ W.cell? ⟨(ad.add (j * 12)).block, (ad.add (j * 12)).off + 2, none⟩ = some (.int .i64 b.f1.f1) ∧ W.cell? ⟨(ad.add (j * 12)).block, (ad.add (j * 12)).off + 3, none⟩ = some (.int .i64 b.f1.f2) ∧ W.cell? ⟨(ad.add (j * 12)).block, (ad.add (j * 12)).off + 4, none⟩ = some (.int .i64 b.f2.f0) ∧ W.cell? ⟨(ad.add (j * 12)).block, (ad.add (j * 12)).off + 5, none⟩ = some (.string b.f2.f1) ∧ W.cell? ⟨(ad.add (j * 12)).block, (ad.add (j * 12)).off + 6, none⟩ = some (.int .u32 (nb : Int)) ∧ W.cell? ⟨(ad.add (j * 12)).block, (ad.add (j * 12)).off + 7, none⟩ = some (.bool b.f2.f3) ∧ W.cell? ⟨(ad.add (j * 12)).block, (ad.add (j * 12)).off + 8, none⟩ = some (.bool b.f3) ∧ W.cell? ⟨(ad.add (j * 12)).block, (ad.add (j * 12)).off + 9, none⟩ = some (.slice A8 b.f4.length c8) ∧ W.cell? ⟨(ad.add (j * 12)).block, (ad.add (j * 12)).off + 10, none⟩ = some (.bool b.f5) ∧ W.cell? ⟨(ad.add (j * 12)).block, (ad.add (j * 12)).off + 11, none⟩ = some (.string b.f6)) (first | exact ⟨x0, x1, x2, x3, x4, x5, x6, x7, x8, x9, x10, x11, x12⟩ | exact ⟨y0, y1, y2, y3, y4, y5, y6, y7, y8, y9, y10, y11, y12⟩ | exact ⟨t0, t1, t2, t3, t4, t5, t6, t7, t8, t9, t10, t11, t12⟩ | assumption) (first
              | (go_at_call 92; refine (HW2.out _ (Below.refl _ _).drew).mono ?_; rintro e w4 ⟨⟨A', c', rfl, hQ4⟩, hB4⟩; have Q4 := Lib.hid hQ4; have B4 : Hid (Below wr.heap.size wr w4) := Lib.hid ((Below.refl _ _).drew.trans hB4); have y0 := (hB4.cell (World.block_lt_of_cell? wr _ x0)).trans x0; have y1 := (hB4.cell (World.block_lt_of_cell? wr _ x1)).trans x1; have y2 := (hB4.cell (World.block_lt_of_cell? wr _ x2)).trans x2; have y3 := (hB4.cell (World.block_lt_of_cell? wr _ x3)).trans x3; have y4 := (hB4.cell (World.block_lt_of_cell? wr _ x4)).trans x4; have y5 := (hB4.cell (World.block_lt_of_cell? wr _ x5)).trans x5; have y6 := (hB4.cell (World.block_lt_of_cell? wr _ x6)).trans x6; have y7 := (hB4.cell (World.block_lt_of_cell? wr _ x7)).trans x7; have y8 := (hB4.cell (World.block_lt_of_cell? wr _ x8)).trans x8; have y9 := (hB4.cell (World.block_lt_of_cell? wr _ x9)).trans x9; have y10 := (hB4.cell (World.block_lt_of_cell? wr _ x10)).trans x10; have y11 := (hB4.cell (World.block_lt_of_cell? wr _ x11)).trans x11; have y12 := (hB4.cell (World.block_lt_of_cell? wr _ x12)).trans x12; clear hQ4 hB4)
              | (go_at_call 91; refine (HA2.out _ A' c' B4.out Q4.out).mono ?_; rintro e w5 ⟨rfl, hB5⟩; have B5 : Hid (Below wr.heap.size wr w5) := Lib.hid (B4.out.trans (hB5.mono B4.out.size)); have t0 := (hB5.cell (World.block_lt_of_cell? w4 _ y0)).trans y0; have t1 := (hB5.cell (World.block_lt_of_cell? w4 _ y1)).trans y1; have t2 := (hB5.cell (World.block_lt_of_cell? w4 _ y2)).trans y2; have t3 := (hB5.cell (World.block_lt_of_cell? w4 _ y3)).trans y3; have t4 := (hB5.cell (World.block_lt_of_cell? w4 _ y4)).trans y4; have t5 := (hB5.cell (World.block_lt_of_cell? w4 _ y5)).trans y5; have t6 := (hB5.cell (World.block_lt_of_cell? w4 _ y6)).trans y6; have t7 := (hB5.cell (World.block_lt_of_cell? w4 _ y7)).trans y7; have t8 := (hB5.cell (World.block_lt_of_cell? w4 _ y8)).trans y8; have t9 := (hB5.cell (World.block_lt_of_cell? w4 _ y9)).trans y9; have t10 := (hB5.cell (World.block_lt_of_cell? w4 _ y10)).trans y10; have t11 := (hB5.cell (World.block_lt_of_cell? w4 _ y11)).trans y11; have t12 := (hB5.cell (World.block_lt_of_cell? w4 _ y12)).trans y12; clear hB5))
            clear x0 x1 x2 x3 x4 x5 x6 x7 x8 x9 x10 x11 x12 y0 y1 y2 y3 y4 y5 y6 y7 y8 y9 y10 y11 y12 t0 t1 t2 t3 t4 t5 t6 t7 t8 t9 t10 t11 t12
            have HN := Lib.hid (HMISS.out (by first | rfl | trivial))
            go_wp2_with fail
            exact ⟨⟨j + 1, by go_num, by omega, HN, Lib.hid (BL.out.trans (B5.out.mono BL.out.size))⟩, by simp [intOf]; omega⟩
          | some qq =>
            go_wp2_with fail
            go_region_held3 (fun W => W.cell? ⟨w.heap.size, 5, none⟩ = some (.slice (some ad) a.f3.length c5) ∧ W.cell? (ad.add (j * 12)) = some (.string b.f0) ∧ W.cell? ⟨(ad.add (j * 12)).block, (ad.add (j * 12)).off + 1, none⟩ = some (.int .i64 b.f1.f0) ∧ W.cell? ⟨(ad.add (j * 12)).block, (ad.add (j * 12)).off + 2, none⟩ = some (.int .i64 b.f1.f1) ∧ W.cell? ⟨(ad.add (j * 12)).block, (ad.add (j * 12)).off + 3, none⟩ = some (.int .i64 b.f1.f2) ∧ W.cell? ⟨(ad.add (j * 12)).block, (ad.add (j * 12)).off + 4, none⟩ = some (.int .i64 b.f2.f0) ∧ W.cell? ⟨(ad.add (j * 12)).block, (ad.add (j * 12)).off + 5, none⟩ = some (.string b.f2.f1) ∧ W.cell? ⟨(ad.add (j * 12)).block, (ad.add (j * 12)).off + 6, none⟩ = some (.int .u32 (nb : Int)) ∧ W.cell? ⟨(ad.add (j * 12)).block, (ad.add (j * 12)).off + 7, none⟩ = some (.bool b.f2.f3) ∧ W.cell? ⟨(ad.add (j * 12)).block, (ad.add (j * 12)).off + 8, none⟩ = some (.bool b.f3) ∧ W.cell? ⟨(ad.add (j * 12)).block, (ad.add (j * 12)).off + 9, none⟩ = some (.slice A8 b.f4.length c8) ∧ W.cell? ⟨(ad.add (j * 12)).block, (ad.add (j * 12)).off + 10, none⟩ = some (.bool b.f5) ∧ W.cell? ⟨(ad.add (j * 12)).block, (ad.add (j * 12)).off + 11, none⟩ = some (.string b.f6)) (first | exact ⟨x0, x1, x2, x3, x4, x5, x6, x7, x8, x9, x10, x11, x12⟩ | exact ⟨y0, y1, y2, y3, y4, y5, y6, y7, y8, y9, y10, y11, y12⟩ | exact ⟨t0, t1, t2, t3, t4, t5, t6, t7, t8, t9, t10, t11, t12⟩ | assumption) (first
              | (go_at_call 92; refine (HW2.out _ (Below.refl _ _).drew).mono ?_; rintro e w4 ⟨⟨A', c', rfl, hQ4⟩, hB4⟩; have Q4 := Lib.hid hQ4; have B4 : Hid (Below wr.heap.size wr w4) := Lib.hid ((Below.refl _ _).drew.trans hB4); have y0 := (hB4.cell (World.block_lt_of_cell? wr _ x0)).trans x0; have y1 := (hB4.cell (World.block_lt_of_cell? wr _ x1)).trans x1; have y2 := (hB4.cell (World.block_lt_of_cell? wr _ x2)).trans x2; have y3 := (hB4.cell (World.block_lt_of_cell? wr _ x3)).trans x3; have y4 := (hB4.cell (World.block_lt_of_cell? wr _ x4)).trans x4; have y5 := (hB4.cell (World.block_lt_of_cell? wr _ x5)).trans x5; have y6 := (hB4.cell (World.block_lt_of_cell? wr _ x6)).trans x6; have y7 := (hB4.cell (World.block_lt_of_cell? wr _ x7)).trans x7; have y8 := (hB4.cell (World.block_lt_of_cell? wr _ x8)).trans x8; have y9 := (hB4.cell (World.block_lt_of_cell? wr _ x9)).trans x9; have y10 := (hB4.cell (World.block_lt_of_cell? wr _ x10)).trans x10; have y11 := (hB4.cell (World.block_lt_of_cell? wr _ x11)).trans x11; have y12 := (hB4.cell (World.block_lt_of_cell? wr _ x12)).trans x12; clear hQ4 hB4)
              | (go_at_call 91; refine (HA2.out _ A' c' B4.out Q4.out).mono ?_; rintro e w5 ⟨⟨A7, c7, rfl, hQ5⟩, hB5⟩; have Q5 := Lib.hid hQ5; have B5 : Hid (Below wr.heap.size wr w5) := Lib.hid (B4.out.trans (hB5.mono B4.out.size)); have t0 := (hB5.cell (World.block_lt_of_cell? w4 _ y0)).trans y0; have t1 := (hB5.cell (World.block_lt_of_cell? w4 _ y1)).trans y1; have t2 := (hB5.cell (World.block_lt_of_cell? w4 _ y2)).trans y2; have t3 := (hB5.cell (World.block_lt_of_cell? w4 _ y3)).trans y3; have t4 := (hB5.cell (World.block_lt_of_cell? w4 _ y4)).trans y4; have t5 := (hB5.cell (World.block_lt_of_cell? w4 _ y5)).trans y5; have t6 := (hB5.cell (World.block_lt_of_cell? w4 _ y6)).trans y6; have t7 := (hB5.cell (World.block_lt_of_cell? w4 _ y7)).trans y7; have t8 := (hB5.cell (World.block_lt_of_cell? w4 _ y8)).trans y8; have t9 := (hB5.cell (World.block_lt_of_cell? w4 _ y9)).trans y9; have t10 := (hB5.cell (World.block_lt_of_cell? w4 _ y10)).trans y10; have t11 := (hB5.cell (World.block_lt_of_cell? w4 _ y11)).trans y11; have t12 := (hB5.cell (World.block_lt_of_cell? w4 _ y12)).trans y12; clear hB5 hQ5))
            clear x0 x1 x2 x3 x4 x5 x6 x7 x8 x9 x10 x11 x12 y0 y1 y2 y3 y4 y5 y6 y7 y8 y9 y10 y11 y12 t0 t1 t2 t3 t4 t5 t6 t7 t8 t9 t10 t11 t12
            go_wp2_with fail
            refine bodyPost_ret (results_list (rs := [.tmp 4, .tmp 5]) rfl (by simp) (.tmp (.tmp .nil))) rfl ?_
            rw [badO_in HRN.out HRO.out (HHIT.out qq rfl)]
            exact ⟨⟨A7, c7, rfl, Q5.out⟩, BR.out.trans (B5.out.mono BR.out.size)⟩
        · obtain rfl : j = a.f3.length := by omega
          have HN : Hid (badL a.f3 [(k : Int)] 0 1 = none) := Lib.hid (by rw [← RL.out, List.drop_eq_nil_of_le (Nat.le_refl _), badL_nil])
          obtain ⟨rt, hrt⟩ : ∃ rt, noteB a.f4 a.f5 = rt := ⟨_, rfl⟩
          have HRT := Lib.hid hrt
          clear hrt RL
          go_wp2_with fail
          refine (rnote_calls a.f4 a.f5 HS2.out wr rt HRT.out).mono ?_
          rintro e w4 ⟨rfl, hB4⟩
          have B04 := Lib.hid (B0R.out.trans (hB4.mono B0R.out.size))
          clear hB4
          cases rt with
          | false =>
            go_wp2_with fail
            refine bodyPost_ret (results_list (rs := [.tmp 4, .tmp 5]) rfl (by simp) (.tmp (.tmp .nil))) rfl ?_
            exact HEND.out _ B04.out (badO_note HRN.out HRO.out HN.out HRT.out)
          | true =>
            go_wp2_with fail
            refine bodyPost_ret (results_list (rs := [.tmp 4, .tmp 5]) rfl (by simp) (.tmp (.tmp .nil))) rfl ?_
            rw [badO_none HRN.out HRO.out HN.out HRT.out]
            exact ⟨⟨_, rfl⟩, B0.out.trans (B04.out.mono B0.out.size)⟩
end Go.Proofs.YtmfejjlmflgnbaaGreatDoor.Tok
/- CONTRACT: the document's Fits. -/
namespace Go.Proofs.YtmfejjlmflgnbaaGreatDoor.Tok
open Go.RowKit Go.Proofs.YtmfejjlmflgnbaaGreatDoor.PA Go.Proofs.YtmfejjlmflgnbaaGreatDoorW.PrintWords Go.Proofs.YtmfejjlmflgnbaaGreatDoorW.PrintLast Go.Proofs.YtmfejjlmflgnbaaGreatDoor.Sp Go.Proofs.YtmfejjlmflgnbaaGreatDoor.Tr
set_option linter.unusedVariables false
set_option linter.unusedSimpArgs false
set_option maxRecDepth 100000

def FlawRef (r : Option (List Int)) (w : World) (e : Ending) (w' : World) : Prop :=
  Below w.heap.size w w' ∧ match r with
    | none => e = .returned (.agg #[.int .i64 0, .slice none 0 0])
    | some q => ∃ A c, e = .returned (.agg #[.int .i64 40, .slice A q.length c]) ∧ AtQ w' w.heap.size A c q
theorem atq_nil (w : World) (B : Nat) : AtQ w B none 0 [] := ⟨Nat.le_refl _, C_nil w none, fun ad e => by cases e⟩
theorem flaw_nil {r : Option (List Int)} {w w' : World} (h : r = some []) (hB : Below w.heap.size w w') : FlawRef r w (.returned (.agg #[.int .i64 40, .slice none 0 0])) w' := by
  rw [h]; exact ⟨hB, none, 0, rfl, atq_nil _ _⟩
theorem flaw_none {r : Option (List Int)} {w w' : World} (h : r = none) (hB : Below w.heap.size w w') : FlawRef r w (.returned (.agg #[.int .i64 0, .slice none 0 0])) w' := by
  rw [h]; exact ⟨hB, rfl⟩
theorem AtQ.other {w w1 : World} {B c g : Nat} {A : Option Addr} {q : List Int} (h : AtQ w B A c q) (hne : ∀ ad, A = some ad → ad.block ≠ g) (hk : ∀ k, k ≠ g → w1.heap[k]? = w.heap[k]?) : AtQ w1 B A c q := by
  refine ⟨h.cap, ?_, h.lo⟩
  obtain ⟨h1, h2, h3⟩ := h.rd
  refine ⟨h1, h2, fun h0 => ?_⟩
  obtain ⟨ad, ea, hc⟩ := h3 h0
  refine ⟨ad, ea, fun j p hp => ?_⟩
  obtain ⟨cs, e1, e2, e3⟩ := hc j p hp
  refine ⟨cs, e1, e2, fun i u hu => ?_⟩
  have hb : (ad.add (j * (Kd.int .i64).sz + i)).block = ad.block := by unfold Addr.add; split <;> rfl
  rw [← e3 i u hu]
  exact World.cell?_of_block (hk _ (by rw [hb]; exact hne ad ea))
set_option maxHeartbeats 16000000 in
theorem rfits_calls (t : ST) (A : Option Addr) (c : Nat) (w : World) (hC : Kd.C k44 w A t.f2.length t.f2) (hc : t.f2.length ≤ c) (hT : TreeOk t) :
    Calls Tryz.prog 14 #[treeV t A c] w (FlawRef (badT t) w) := by
  have HC := Lib.hid hC
  have HT := Lib.hid hT
  have hs1 := hT.str.1
  have HS1 := Lib.hid hs1
  have hs2 := hT.str.2
  have HS2 := Lib.hid hs2
  have HLEN := Lib.hid hT.len
  obtain ⟨rs, hrs⟩ : ∃ rs, stringB (bs t.f0) = rs := ⟨_, rfl⟩
  have HRS := Lib.hid hrs
  obtain ⟨rn, hrn⟩ : ∃ rn, nameB (bs t.f1) = rn := ⟨_, rfl⟩
  have HRN := Lib.hid hrn
  clear hC hT hrs hrn hs1 hs2
  unfold treeV treeC
  go_enter Tryz.func14, Tryz.ntmps14
  go_wp2_with fail
  obtain ⟨w0, hw0⟩ : ∃ w0 : World, w0 = ((w.alloc (.cells #[.string t.f0, .string t.f1, .slice A t.f2.length c, .bool t.f3, .string t.f4] 24)).alloc (.cells #[.int .i64 0, .slice none 0 0] 29)) := ⟨_, rfl⟩
  rw [← hw0]
  obtain ⟨B0, GK0, Z0⟩ := two_worlds hw0
  have GK : Hid (w0.heap[w.heap.size + 1]? = some (.cells flawC0 29 (0, 0))) := GK0
  have G0 : Hid (w0.heap[w.heap.size]? = some (.cells (treeC t A c) 24 (0, 0))) := Lib.hid (by
    rw [hw0]
    have g := heap_alloc_new w (.cells #[.string t.f0, .string t.f1, .slice A t.f2.length c, .bool t.f3, .string t.f4] 24)
    exact ((alloc_below _ _).block _ (by simp)).trans g)
  clear hw0 GK0
  refine (rstring_calls t.f0 HS1.out w0 rs HRS.out).mono ?_
  rintro e w1 ⟨rfl, hB1⟩
  have B01 := Lib.hid hB1
  have B1 := Lib.hid (B0.out.trans (hB1.mono B0.out.size))
  clear hB1
  obtain ⟨_, y1, _, _, _⟩ := tree_read G0.out B01.out
  cases rs with
  | false =>
    clear y1
    go_wp2_with (first
      | ((with_reducible refine gate_store (t := 29) (p := 2) rfl ?_); refine put_event rfl 29 _ _ rfl (w.heap.size + 1) #[.int .i64 40, .slice none 0 0] rfl rfl 29 flawC0 ((B01.out.block _ (Array.getElem?_eq_some_iff.1 GK.out).1).trans GK.out) (by kernel_rfl) rfl (flaw_all _ _ _ _) (w.heap.size + 1) (Nat.le_refl _) ?_; intro w9 hb9 hB9 hs9 ho9; have O9 := Lib.hid ho9; have B9 : Hid (Below w.heap.size w w9) := Lib.hid (B1.out.trans (hB9.mono (by omega))); clear hB9 hs9 ho9))
    have c0 : w9.cell? ⟨w.heap.size + 1, 0, none⟩ = some (.int .i64 40) := (cell_row hb9 0).trans rfl
    have c1 : w9.cell? ⟨w.heap.size + 1, 1, none⟩ = some (.slice none 0 0) := (cell_row hb9 1).trans rfl
    exact bodyPost_ret (v := .agg #[.int .i64 40, .slice none 0 0]) (by simp [results, Tryz.results14, go_sem, c0, c1]) rfl (flaw_nil (badT_ver HRS.out) B9.out)
  | true =>
    go_wp2_with fail
    refine (rname_calls t.f1 w1 rn HRN.out).mono ?_
    rintro e w2 ⟨rfl, hB2⟩
    have B02 := Lib.hid (B01.out.trans (hB2.mono B01.out.size))
    have B2 := Lib.hid (B1.out.trans (hB2.mono B1.out.size))
    clear hB2 y1
    cases rn with
    | false =>
      go_wp2_with (first
        | ((with_reducible refine gate_store (t := 29) (p := 2) rfl ?_); refine put_event rfl 29 _ _ rfl (w.heap.size + 1) #[.int .i64 40, .slice none 0 0] rfl rfl 29 flawC0 ((B02.out.block _ (Array.getElem?_eq_some_iff.1 GK.out).1).trans GK.out) (by kernel_rfl) rfl (flaw_all _ _ _ _) (w.heap.size + 1) (Nat.le_refl _) ?_; intro w9 hb9 hB9 hs9 ho9; have O9 := Lib.hid ho9; have B9 : Hid (Below w.heap.size w w9) := Lib.hid (B2.out.trans (hB9.mono (by omega))); clear hB9 hs9 ho9))
      have c0 : w9.cell? ⟨w.heap.size + 1, 0, none⟩ = some (.int .i64 40) := (cell_row hb9 0).trans rfl
      have c1 : w9.cell? ⟨w.heap.size + 1, 1, none⟩ = some (.slice none 0 0) := (cell_row hb9 1).trans rfl
      exact bodyPost_ret (v := .agg #[.int .i64 40, .slice none 0 0]) (by simp [results, Tryz.results14, go_sem, c0, c1]) rfl (flaw_nil (badT_cpu HRN.out) B9.out)
    | true =>
      go_wp2_with fail
      go_loopw [3] (fun v wr => ∃ j : Nat, v = .int .i64 (j : Int) ∧ j ≤ t.f2.length ∧ Hid (badOs (t.f2.drop j) j = badOs t.f2 0) ∧ Hid (Below w2.heap.size w2 wr)) (fun v _ => t.f2.length - (intOf v).toNat)
      case atStart => exact ⟨0, by go_num, by omega, Lib.hid rfl, Lib.hid (Below.refl _ _)⟩
      case round =>
        obtain ⟨j, rfl, hj, RL, BL⟩ := hrel
        have hl9 := HLEN.out
        have BR := Lib.hid (B2.out.trans (BL.out.mono B2.out.size))
        have B0R := Lib.hid (B02.out.trans (BL.out.mono B02.out.size))
        obtain ⟨_, _, y2, y3, y4⟩ := tree_read G0.out B0R.out
        by_cases hlt : j < t.f2.length
        · clear y3 y4
          have hx : t.f2[j]? = some t.f2[j] := List.getElem?_eq_getElem hlt
          obtain ⟨ad, A5, c5, eA, x0, x1, x2, x3, x4, x5, x6, x7, l5, C5⟩ := at_T44 HC.out (j : Int) (by omega) (by omega)
          rw [rdo_at t.f2 j _ hx] at x0 x1 x2 x3 x4 x5 x6 x7 l5 C5
          generalize t.f2[j] = a at hx x0 x1 x2 x3 x4 x5 x6 x7 l5 C5
          cases eA
          simp only [Int.toNat_natCast] at x0 x1 x2 x3 x4 x5 x6 x7
          replace x0 := (BR.out.cell (World.block_lt_of_cell? w _ x0)).trans x0
          replace x1 := (BR.out.cell (World.block_lt_of_cell? w _ x1)).trans x1
          replace x2 := (BR.out.cell (World.block_lt_of_cell? w _ x2)).trans x2
          replace x3 := (BR.out.cell (World.block_lt_of_cell? w _ x3)).trans x3
          replace x4 := (BR.out.cell (World.block_lt_of_cell? w _ x4)).trans x4
          replace x5 := (BR.out.cell (World.block_lt_of_cell? w _ x5)).trans x5
          replace x6 := (BR.out.cell (World.block_lt_of_cell? w _ x6)).trans x6
          replace x7 := (BR.out.cell (World.block_lt_of_cell? w _ x7)).trans x7
          obtain ⟨rb, hrb⟩ : ∃ rb, badO a j = rb := ⟨_, rfl⟩
          have HO2 : Hid (Calls Tryz.prog 40 #[.agg #[.string a.f0, .string a.f1, .int .i64 a.f2.f0, .int .i64 a.f2.f1, .int .i64 a.f2.f2, .slice A5 a.f3.length c5, .bool a.f4, .string a.f5], .int .i64 (j : Int)] wr (RefO rb wr)) := Lib.hid (by
            have h := robject_calls a A5 c5 j wr (Kd.C_below C5 BR.out) l5 (HT.out.cnt j a hx) (HT.out.wf j a hx) (HT.out.note j a hx)
            rw [hrb] at h
            exact h)
          have HHIT : Hid (∀ qq, rb = some qq → badOs t.f2 0 = some qq) := Lib.hid (fun qq h => by rw [← RL.out]; exact badOs_hit hx (by rw [hrb, h]))
          have HMISS : Hid (rb = none → badOs (t.f2.drop (j + 1)) (j + 1) = badOs t.f2 0) := Lib.hid (fun h => by rw [← RL.out]; exact (badOs_miss hx (by rw [hrb, h])).symm)
          clear hx C5 hrb RL
          go_wp2_with fail
          refine HO2.out.mono ?_
          rintro e w3 hO3
          clear x0 x1 x2 x3 x4 x5 x6 x7 y2
          cases rb with
          | none =>
            obtain ⟨⟨v3, rfl⟩, hB3⟩ := hO3
            have BL3 := Lib.hid (BL.out.trans (hB3.mono BL.out.size))
            have HN := Lib.hid (HMISS.out (by first | rfl | trivial))
            clear hB3
            go_wp2_with fail
            exact ⟨⟨j + 1, by go_num, by omega, HN, BL3⟩, by simp [intOf]; omega⟩
          | some qq =>
            obtain ⟨⟨A7, c7, rfl, hQ7⟩, hB3⟩ := hO3
            have Q7 := Lib.hid hQ7
            have B3 := Lib.hid (BR.out.trans (hB3.mono BR.out.size))
            have B03 := Lib.hid (B0R.out.trans (hB3.mono B0R.out.size))
            have hz1 := BR.out.size
            have hz2 := B0R.out.size
            have hz3 := Z0.out
            clear hB3 hQ7
            go_wp2_with (first
              | ((with_reducible refine gate_store (t := 29) (p := 2) rfl ?_); refine put_event rfl 29 _ _ rfl (w.heap.size + 1) #[.int .i64 40, .slice A7 qq.length c7] rfl rfl 29 flawC0 ((B03.out.block _ (Array.getElem?_eq_some_iff.1 GK.out).1).trans GK.out) (by kernel_rfl) rfl (flaw_all _ _ _ _) (w.heap.size + 1) (Nat.le_refl _) ?_; intro w9 hb9 hB9 hs9 ho9; have O9 := Lib.hid ho9; have B9 : Hid (Below w.heap.size w w9) := Lib.hid (B3.out.trans (hB9.mono (by omega))); clear hB9 hs9 ho9))
            have c0 : w9.cell? ⟨w.heap.size + 1, 0, none⟩ = some (.int .i64 40) := (cell_row hb9 0).trans rfl
            have c1 : w9.cell? ⟨w.heap.size + 1, 1, none⟩ = some (.slice A7 qq.length c7) := (cell_row hb9 1).trans rfl
            exact bodyPost_ret (v := .agg #[.int .i64 40, .slice A7 qq.length c7]) (by simp [results, Tryz.results14, go_sem, c0, c1]) rfl (by rw [badT_in HRS.out HRN.out (HHIT.out qq rfl)]; exact ⟨B9.out, A7, c7, rfl, by have h := Q7.out.other (g := w.heap.size + 1) (fun ad e => by have := Q7.out.lo ad e; omega) O9.out; exact ⟨h.cap, h.rd, fun ad e => by have := h.lo ad e; omega⟩⟩)
        · obtain rfl : j = t.f2.length := by omega
          have HN : Hid (badOs t.f2 0 = none) := Lib.hid (by rw [← RL.out, List.drop_eq_nil_of_le (Nat.le_refl _)]; rfl)
          obtain ⟨rt, hrt⟩ : ∃ rt, noteB t.f3 t.f4 = rt := ⟨_, rfl⟩
          have HRT := Lib.hid hrt
          clear hrt RL
          go_wp2_with fail
          refine (rnote_calls t.f3 t.f4 HS2.out wr rt HRT.out).mono ?_
          rintro e w4 ⟨rfl, hB4⟩
          have B4 := Lib.hid (BR.out.trans (hB4.mono BR.out.size))
          have B04 := Lib.hid (B0R.out.trans (hB4.mono B0R.out.size))
          clear hB4 y2 y3 y4
          cases rt with
          | false =>
            go_wp2_with (first
              | ((with_reducible refine gate_store (t := 29) (p := 2) rfl ?_); refine put_event rfl 29 _ _ rfl (w.heap.size + 1) #[.int .i64 40, .slice none 0 0] rfl rfl 29 flawC0 ((B04.out.block _ (Array.getElem?_eq_some_iff.1 GK.out).1).trans GK.out) (by kernel_rfl) rfl (flaw_all _ _ _ _) (w.heap.size + 1) (Nat.le_refl _) ?_; intro w9 hb9 hB9 hs9 ho9; have O9 := Lib.hid ho9; have B9 : Hid (Below w.heap.size w w9) := Lib.hid (B4.out.trans (hB9.mono (by omega))); clear hB9 hs9 ho9))
            have c0 : w9.cell? ⟨w.heap.size + 1, 0, none⟩ = some (.int .i64 40) := (cell_row hb9 0).trans rfl
            have c1 : w9.cell? ⟨w.heap.size + 1, 1, none⟩ = some (.slice none 0 0) := (cell_row hb9 1).trans rfl
            exact bodyPost_ret (v := .agg #[.int .i64 40, .slice none 0 0]) (by simp [results, Tryz.results14, go_sem, c0, c1]) rfl (flaw_nil (badT_note HRS.out HRN.out HN.out HRT.out) B9.out)
          | true =>
            go_wp2_with (first
              | ((with_reducible refine gate_store (t := 29) (p := 2) rfl ?_); refine put_event rfl 29 _ _ rfl (w.heap.size + 1) #[.int .i64 0, .slice none 0 0] rfl rfl 29 flawC0 ((B04.out.block _ (Array.getElem?_eq_some_iff.1 GK.out).1).trans GK.out) (by kernel_rfl) rfl (flaw_all _ _ _ _) (w.heap.size + 1) (Nat.le_refl _) ?_; intro w9 hb9 hB9 hs9 ho9; have O9 := Lib.hid ho9; have B9 : Hid (Below w.heap.size w w9) := Lib.hid (B4.out.trans (hB9.mono (by omega))); clear hB9 hs9 ho9))
            have c0 : w9.cell? ⟨w.heap.size + 1, 0, none⟩ = some (.int .i64 0) := (cell_row hb9 0).trans rfl
            have c1 : w9.cell? ⟨w.heap.size + 1, 1, none⟩ = some (.slice none 0 0) := (cell_row hb9 1).trans rfl
            exact bodyPost_ret (v := .agg #[.int .i64 0, .slice none 0 0]) (by simp [results, Tryz.results14, go_sem, c0, c1]) rfl (flaw_none (badT_none HRS.out HRN.out HN.out HRT.out) B9.out)
end Go.Proofs.YtmfejjlmflgnbaaGreatDoor.Tok

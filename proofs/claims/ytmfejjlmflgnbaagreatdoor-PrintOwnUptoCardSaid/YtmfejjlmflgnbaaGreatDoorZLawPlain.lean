/- THE LAWS' WALKS: PrintPlain answers true, of every two trees of small bulk. -/
import Derived.Test.YtmfejjlmflgnbaaGreatDoorZLawB
import Derived.Test.YtmfejjlmflgnbaaGreatDoorZPlainP
namespace Go.Proofs.YtmfejjlmflgnbaaGreatDoor.Tok
open Go.RowKit Go.Proofs.YtmfejjlmflgnbaaGreatDoor.PA Go.Proofs.YtmfejjlmflgnbaaGreatDoorW.PrintWords Go.Proofs.YtmfejjlmflgnbaaGreatDoorW.PrintLast Go.Proofs.YtmfejjlmflgnbaaGreatDoor.Sp Go.Proofs.YtmfejjlmflgnbaaGreatDoor.Tr
set_option linter.unusedVariables false
set_option linter.unusedSimpArgs false
set_option maxRecDepth 100000

/-! ### alike: the other way round, and with what is bare -/
theorem dec_comm {α : Type} [DecidableEq α] (x y : α) : decide (x = y) = decide (y = x) := by
  by_cases h : x = y
  · subst h; rfl
  · rw [decide_eq_false h, decide_eq_false (fun e => h e.symm)]
theorem bool_comm (x y : Bool) : (x == y) = (y == x) := by cases x <;> cases y <;> rfl
theorem int_comm (x y : Int) : (x == y) = (y == x) := by
  by_cases h : x = y
  · subst h; rfl
  · rw [beq_eq_false_iff_ne.2 h, beq_eq_false_iff_ne.2 (fun e => h e.symm)]
theorem sameV_comm (x y : SV) : sameV x y = sameV y x := by
  unfold sameV
  rw [int_comm x.f0, dec_comm x.f1, int_comm x.f2, bool_comm x.f3]
mutual
theorem sameA_comm : ∀ a b : SA, sameA false a b = sameA false b a
  | ⟨n, sp, v, br, ps, noted, note⟩, ⟨n', sp', v', br', ps', noted', note'⟩ => by
    have := sameL_comm ps ps'
    simp only [sameA, Bool.not_false, Bool.true_or, Bool.and_true]
    rw [this, dec_comm n, sameV_comm v, bool_comm br, bool_comm noted, dec_comm note]
theorem sameL_comm : ∀ l l' : List SA, sameL false l l' = sameL false l' l
  | [], [] => rfl
  | [], b :: r' => by simp only [sameL]
  | a :: r, [] => by simp only [sameL]
  | a :: r, b :: r' => by
    simp only [sameL]
    rw [sameA_comm a b, sameL_comm r r']
end
theorem sameO_comm (a b : SO) : sameO false a b = sameO false b a := by
  simp only [sameO, Bool.not_false, Bool.true_or, Bool.and_true]
  rw [dec_comm a.f0, dec_comm a.f1, bool_comm a.f4, dec_comm a.f5, sameL_comm]
theorem sameOs_comm : ∀ l l' : List SO, sameOs false l l' = sameOs false l' l
  | [], [] => rfl
  | [], b :: r' => rfl
  | a :: r, [] => rfl
  | a :: r, b :: r' => by
    show (sameO false a b && sameOs false r r') = (sameO false b a && sameOs false r' r)
    rw [sameO_comm a b, sameOs_comm r r']
theorem sameT_comm (t u : ST) : sameT false t u = sameT false u t := by
  simp only [sameT]
  rw [dec_comm t.f0, dec_comm t.f1, bool_comm t.f3, dec_comm t.f4, sameOs_comm]
mutual
theorem sameA_bare : ∀ a : SA, sameA false a (bareA a) = true
  | ⟨n, sp, v, br, ps, noted, note⟩ => by
    have := sameL_bare ps
    simp [bareA, sameA, sameV_self, this]
theorem sameL_bare : ∀ l : List SA, sameL false l (bareL l) = true
  | [] => by simp only [bareL, sameL]
  | a :: r => by
    simp [bareL, sameL, sameA_bare a, sameL_bare r]
end
theorem sameOs_bare : ∀ l : List SO, sameOs false l (l.map bareO) = true
  | [] => rfl
  | o :: l => by
    show (sameO false o (bareO o) && sameOs false l (l.map bareO)) = true
    rw [sameOs_bare l]
    simp [sameO, bareO, sameL_bare]
theorem sameT_bare (t : ST) : sameT false t (bareT t) = true := by
  simp [sameT, bareT, sameOs_bare]
/-- The document's Copy without spots. -/
theorem copyF_calls (t : ST) (A : Option Addr) (c : Nat) (w : World) (hC : Kd.C k44 w A t.f2.length t.f2) (hc : t.f2.length ≤ c) (hT : TreeOk t) :
    Calls Tryz.prog 12 #[.agg #[.string t.f0, .string t.f1, .slice A t.f2.length c, .bool t.f3, .string t.f4], .bool false] w fun e w' => (∃ A' c', e = .returned (.agg #[.string t.f0, .string t.f1, .slice A' t.f2.length c', .bool t.f3, .string t.f4]) ∧ Kd.C k44 w' A' (bareT t).f2.length (bareT t).f2 ∧ t.f2.length ≤ c') ∧ Below w.heap.size w w' :=
  (copy_calls t false A c w hC hc hT).mono fun e w' hp => by
    obtain ⟨⟨A', c', he, h1, h2, _⟩, hB⟩ := hp
    have hl : (bareT t).f2.length = t.f2.length := by simp [bareT]
    rw [cpT_false] at he h1 h2
    refine ⟨⟨A', c', ?_, h1, by omega⟩, hB⟩
    rw [he, ← hl]
    rfl
theorem plainC_calls (t : ST) (A : Option Addr) (c : Nat) (w : World) (hC : Kd.C k44 w A t.f2.length t.f2) (hc : t.f2.length ≤ c) (hT : TreeOk t) :
    Calls Tryz.prog 20 #[.agg #[.string t.f0, .string t.f1, .slice A t.f2.length c, .bool t.f3, .string t.f4]] w fun e w' => (∃ A' c', e = .returned (.agg #[.string t.f0, .string t.f1, .slice A' t.f2.length c', .bool t.f3, .string t.f4]) ∧ Kd.C k44 w' A' (bareT t).f2.length (bareT t).f2 ∧ t.f2.length ≤ c') ∧ Below w.heap.size w w' :=
  (pplain_calls t A c w hC hc hT).mono fun e w' hp => by
    obtain ⟨⟨A', c', he, hR⟩, hB⟩ := hp
    obtain ⟨A2, c2, hv, hl, hC2⟩ := Kd.R_reads hR
    injection hv with e1 e2 e3
    subst e1 e3
    have hl2 : (t.f2.map bareO).length = t.f2.length := by simp
    exact ⟨⟨A', c', he, hC2, by omega⟩, hB⟩
theorem bare_len (t : ST) : (bareT t).f2.length = t.f2.length := by simp [bareT]
/-- What the law's test reads: four trees. -/
theorem law_S2 {w : World} {b1 b2 b3 b4 : Nat} {t u : ST} {A1 A2 A3 A4 : Option Addr} {c1 c2 c3 c4 : Nat} (h1 : w.heap[b1]? = some (.cells (treeC t A1 c1) 24 (0, 0))) (h2 : w.heap[b2]? = some (.cells (treeC u A2 c2) 24 (0, 0))) (h3 : w.heap[b3]? = some (.cells (treeC t A3 c3) 24 (0, 0))) (h4 : w.heap[b4]? = some (.cells (treeC t A4 c4) 24 (0, 0))) :
    w.cell? ⟨b1, 0, none⟩ = some (.string t.f0) ∧ w.cell? ⟨b1, 1, none⟩ = some (.string t.f1) ∧ w.cell? ⟨b1, 2, none⟩ = some (.slice A1 t.f2.length c1) ∧ w.cell? ⟨b1, 3, none⟩ = some (.bool t.f3) ∧ w.cell? ⟨b1, 4, none⟩ = some (.string t.f4) ∧
    w.cell? ⟨b2, 0, none⟩ = some (.string u.f0) ∧ w.cell? ⟨b2, 1, none⟩ = some (.string u.f1) ∧ w.cell? ⟨b2, 2, none⟩ = some (.slice A2 u.f2.length c2) ∧ w.cell? ⟨b2, 3, none⟩ = some (.bool u.f3) ∧ w.cell? ⟨b2, 4, none⟩ = some (.string u.f4) ∧
    w.cell? ⟨b3, 0, none⟩ = some (.string t.f0) ∧ w.cell? ⟨b3, 1, none⟩ = some (.string t.f1) ∧ w.cell? ⟨b3, 2, none⟩ = some (.slice A3 t.f2.length c3) ∧ w.cell? ⟨b3, 3, none⟩ = some (.bool t.f3) ∧ w.cell? ⟨b3, 4, none⟩ = some (.string t.f4) ∧
    w.cell? ⟨b4, 0, none⟩ = some (.string t.f0) ∧ w.cell? ⟨b4, 1, none⟩ = some (.string t.f1) ∧ w.cell? ⟨b4, 2, none⟩ = some (.slice A4 t.f2.length c4) ∧ w.cell? ⟨b4, 3, none⟩ = some (.bool t.f3) ∧ w.cell? ⟨b4, 4, none⟩ = some (.string t.f4) :=
  ⟨(cell_row h1 0).trans rfl, (cell_row h1 1).trans rfl, (cell_row h1 2).trans rfl, (cell_row h1 3).trans rfl, (cell_row h1 4).trans rfl, (cell_row h2 0).trans rfl, (cell_row h2 1).trans rfl, (cell_row h2 2).trans rfl, (cell_row h2 3).trans rfl, (cell_row h2 4).trans rfl, (cell_row h3 0).trans rfl, (cell_row h3 1).trans rfl, (cell_row h3 2).trans rfl, (cell_row h3 3).trans rfl, (cell_row h3 4).trans rfl, (cell_row h4 0).trans rfl, (cell_row h4 1).trans rfl, (cell_row h4 2).trans rfl, (cell_row h4 3).trans rfl, (cell_row h4 4).trans rfl⟩
/-- The four trees in memory. -/
structure PL (w : World) (b1 b2 b3 b4 : Nat) (t u : ST) (A1 A2 A3 A4 : Option Addr) (c1 c2 c3 c4 : Nat) : Prop where
  h1 : w.heap[b1]? = some (.cells (treeC t A1 c1) 24 (0, 0))
  h2 : w.heap[b2]? = some (.cells (treeC u A2 c2) 24 (0, 0))
  h3 : w.heap[b3]? = some (.cells (treeC t A3 c3) 24 (0, 0))
  h4 : w.heap[b4]? = some (.cells (treeC t A4 c4) 24 (0, 0))
theorem PL.below {w w' : World} {b1 b2 b3 b4 : Nat} {t u : ST} {A1 A2 A3 A4 : Option Addr} {c1 c2 c3 c4 : Nat} (h : PL w b1 b2 b3 b4 t u A1 A2 A3 A4 c1 c2 c3 c4) (hB : Below w.heap.size w w') : PL w' b1 b2 b3 b4 t u A1 A2 A3 A4 c1 c2 c3 c4 :=
  ⟨blk_below h.h1 hB, blk_below h.h2 hB, blk_below h.h3 hB, blk_below h.h4 hB⟩
theorem PL.S {w : World} {b1 b2 b3 b4 : Nat} {t u : ST} {A1 A2 A3 A4 : Option Addr} {c1 c2 c3 c4 : Nat} (h : PL w b1 b2 b3 b4 t u A1 A2 A3 A4 c1 c2 c3 c4) :
    w.cell? ⟨b1, 0, none⟩ = some (.string t.f0) ∧ w.cell? ⟨b1, 1, none⟩ = some (.string t.f1) ∧ w.cell? ⟨b1, 2, none⟩ = some (.slice A1 t.f2.length c1) ∧ w.cell? ⟨b1, 3, none⟩ = some (.bool t.f3) ∧ w.cell? ⟨b1, 4, none⟩ = some (.string t.f4) ∧
    w.cell? ⟨b2, 0, none⟩ = some (.string u.f0) ∧ w.cell? ⟨b2, 1, none⟩ = some (.string u.f1) ∧ w.cell? ⟨b2, 2, none⟩ = some (.slice A2 u.f2.length c2) ∧ w.cell? ⟨b2, 3, none⟩ = some (.bool u.f3) ∧ w.cell? ⟨b2, 4, none⟩ = some (.string u.f4) ∧
    w.cell? ⟨b3, 0, none⟩ = some (.string t.f0) ∧ w.cell? ⟨b3, 1, none⟩ = some (.string t.f1) ∧ w.cell? ⟨b3, 2, none⟩ = some (.slice A3 t.f2.length c3) ∧ w.cell? ⟨b3, 3, none⟩ = some (.bool t.f3) ∧ w.cell? ⟨b3, 4, none⟩ = some (.string t.f4) ∧
    w.cell? ⟨b4, 0, none⟩ = some (.string t.f0) ∧ w.cell? ⟨b4, 1, none⟩ = some (.string t.f1) ∧ w.cell? ⟨b4, 2, none⟩ = some (.slice A4 t.f2.length c4) ∧ w.cell? ⟨b4, 3, none⟩ = some (.bool t.f3) ∧ w.cell? ⟨b4, 4, none⟩ = some (.string t.f4) := law_S2 h.h1 h.h2 h.h3 h.h4
mutual
theorem cnt_bare : ∀ a : SA, cntA (bareA a) = cntA a
  | ⟨n, sp, v, br, ps, noted, note⟩ => by
    have := cnt_bareL ps
    simp only [bareA, cntA, this]
theorem cnt_bareL : ∀ l : List SA, cntL (bareL l) = cntL l
  | [] => by simp only [bareL]
  | a :: r => by simp only [bareL, cntL, cnt_bare a, cnt_bareL r]
end
theorem bare_cnt {t : ST} (h : TreeOk t) : ∀ (j : Nat) (o : SO), (bareT t).f2[j]? = some o → cntL o.f3 ≤ 1000000000 := fun j o ho => by
  have ho' : (t.f2.map bareO)[j]? = some o := ho
  rw [List.getElem?_map] at ho'
  obtain ⟨x, hx, rfl⟩ := Option.map_eq_some_iff.1 ho'
  have := h.cnt j x hx
  show cntL (bareL x.f3) ≤ _
  rw [cnt_bareL]
  omega
def tV (t : ST) (A : Option Addr) (c : Nat) : Value := .agg #[.string t.f0, .string t.f1, .slice A t.f2.length c, .bool t.f3, .string t.f4]
theorem tV_bare (t : ST) (A : Option Addr) (c : Nat) : treeV (bareT t) A c = tV t A c := by
  unfold treeV treeC tV
  rw [bare_len]
  rfl
set_option maxHeartbeats 32000000 in
theorem law_plain (t u : ST) (A A' : Option Addr) (c c' : Nat) (w : World) (hC : Kd.C k44 w A t.f2.length t.f2) (hc : t.f2.length ≤ c) (hC' : Kd.C k44 w A' u.f2.length u.f2) (hc' : u.f2.length ≤ c') (hT : TreeSm t) (hU : TreeSm u) (hG : Glob w) :
    Calls Tryz.prog 5 #[treeV t A c, treeV u A' c'] w fun e w' => e = .returned (.bool true) ∧ Below w.heap.size w w' := by
  have HG := Lib.hid hG
  have HC := Lib.hid hC
  have HC' := Lib.hid hC'
  have HT := Lib.hid hT.ok
  have HU := Lib.hid hU.ok
  have HCC := Lib.hid hc
  have HCC' := Lib.hid hc'
  have hnt : ∀ (j : Nat) (o : SO), t.f2[j]? = some o → cntL o.f3 ≤ 1000000000 := fun j o ho => by have := hT.ok.cnt j o ho; omega
  have hnu : ∀ (j : Nat) (o : SO), u.f2[j]? = some o → cntL o.f3 ≤ 1000000000 := fun j o ho => by have := hU.ok.cnt j o ho; omega
  have hlt : t.f2.length ≤ 1000000000 := by have := hT.ok.len; omega
  have hlu : u.f2.length ≤ 1000000000 := by have := hU.ok.len; omega
  obtain ⟨r, hr⟩ : ∃ r, sameT false t u = r := ⟨_, rfl⟩
  have hr' : sameT false u t = r := by rw [sameT_comm, hr]
  -- the calls, in every world that lies behind this one
  have HTU : Hid (∀ W, Below w.heap.size w W → Calls Tryz.prog 21 #[.agg #[.string t.f0, .string t.f1, .slice A t.f2.length c, .bool t.f3, .string t.f4], .agg #[.string u.f0, .string u.f1, .slice A' u.f2.length c', .bool u.f3, .string u.f4]] W fun e w' => e = .returned (.bool r) ∧ Below W.heap.size W w') :=
    Lib.hid (fun W hB => by have := psame_calls t u A A' c c' W (Kd.C_below hC hB) hc (Kd.C_below hC' hB) hc' hnt hlt; rw [hr] at this; exact this)
  have HUT : Hid (∀ W, Below w.heap.size w W → Calls Tryz.prog 21 #[.agg #[.string u.f0, .string u.f1, .slice A' u.f2.length c', .bool u.f3, .string u.f4], .agg #[.string t.f0, .string t.f1, .slice A t.f2.length c, .bool t.f3, .string t.f4]] W fun e w' => e = .returned (.bool r) ∧ Below W.heap.size W w') :=
    Lib.hid (fun W hB => by have := psame_calls u t A' A c' c W (Kd.C_below hC' hB) hc' (Kd.C_below hC hB) hc hnu hlu; rw [hr'] at this; exact this)
  have HRTU : Hid (∀ W, Below w.heap.size w W → Calls Tryz.prog 16 #[.agg #[.string t.f0, .string t.f1, .slice A t.f2.length c, .bool t.f3, .string t.f4], .agg #[.string u.f0, .string u.f1, .slice A' u.f2.length c', .bool u.f3, .string u.f4], .bool false] W fun e w' => e = .returned (.bool r) ∧ Below W.heap.size W w') :=
    Lib.hid (fun W hB => by have := rsame_calls false t u A A' c c' W (Kd.C_below hC hB) hc (Kd.C_below hC' hB) hc' hnt hlt; rw [hr] at this; exact this)
  have HTP : Hid (∀ W Ap cp, Below w.heap.size w W → Kd.C k44 W Ap (bareT t).f2.length (bareT t).f2 → t.f2.length ≤ cp → Calls Tryz.prog 21 #[.agg #[.string t.f0, .string t.f1, .slice A t.f2.length c, .bool t.f3, .string t.f4], .agg #[.string t.f0, .string t.f1, .slice Ap t.f2.length cp, .bool t.f3, .string t.f4]] W fun e w' => e = .returned (.bool true) ∧ Below W.heap.size W w') :=
    Lib.hid (fun W Ap cp hB h1 h2 => by have := psame_calls t (bareT t) A Ap c cp W (Kd.C_below hC hB) hc h1 (by rw [bare_len]; exact h2) hnt hlt; rw [sameT_bare, tV_bare] at this; exact this)
  have HPT : Hid (∀ W Ap cp, Below w.heap.size w W → Kd.C k44 W Ap (bareT t).f2.length (bareT t).f2 → t.f2.length ≤ cp → Calls Tryz.prog 21 #[.agg #[.string t.f0, .string t.f1, .slice Ap t.f2.length cp, .bool t.f3, .string t.f4], .agg #[.string t.f0, .string t.f1, .slice A t.f2.length c, .bool t.f3, .string t.f4]] W fun e w' => e = .returned (.bool true) ∧ Below W.heap.size W w') :=
    Lib.hid (fun W Ap cp hB h1 h2 => by have := psame_calls (bareT t) t Ap A cp c W h1 (by rw [bare_len]; exact h2) (Kd.C_below hC hB) hc (bare_cnt hT.ok) (by rw [bare_len]; exact hlt); rw [sameT_comm, sameT_bare, tV_bare] at this; exact this)
  have HPQ : Hid (∀ W Ap cp Aq cq, Kd.C k44 W Ap (bareT t).f2.length (bareT t).f2 → t.f2.length ≤ cp → Kd.C k44 W Aq (bareT t).f2.length (bareT t).f2 → t.f2.length ≤ cq → Calls Tryz.prog 16 #[.agg #[.string t.f0, .string t.f1, .slice Ap t.f2.length cp, .bool t.f3, .string t.f4], .agg #[.string t.f0, .string t.f1, .slice Aq t.f2.length cq, .bool t.f3, .string t.f4], .bool true] W fun e w' => e = .returned (.bool true) ∧ Below W.heap.size W w') :=
    Lib.hid (fun W Ap cp Aq cq h1 h2 h3 h4 => by have := rsame_calls true (bareT t) (bareT t) Ap Aq cp cq W h1 (by rw [bare_len]; exact h2) h3 (by rw [bare_len]; exact h4) (bare_cnt hT.ok) (by rw [bare_len]; exact hlt); rw [sameT_self, tV_bare, tV_bare] at this; exact this)
  clear hG hC hC' hT hU hnt hnu hlt hlu hr hr'
  have tk1 : True := trivial
  have tk2 : True := trivial
  unfold treeV treeC
  go_enter Tryz.func5, Tryz.ntmps5
  go_upto_region 1 with fail
  obtain ⟨w1, hw1⟩ : ∃ w1 : World, w1 = ((w.alloc (.cells #[.string t.f0, .string t.f1, .slice A t.f2.length c, .bool t.f3, .string t.f4] 24)).alloc (.cells #[.string u.f0, .string u.f1, .slice A' u.f2.length c', .bool u.f3, .string u.f4] 24)) := ⟨_, rfl⟩
  rw [← hw1]
  obtain ⟨B1, GX1, GY1⟩ := two_box hw1
  clear hw1
  replace GX1 : Hid (w1.heap[w.heap.size]? = some (.cells (treeC t A c) 24 (0, 0))) := GX1
  replace GY1 : Hid (w1.heap[w.heap.size + 1]? = some (.cells (treeC u A' c') 24 (0, 0))) := GY1
  obtain ⟨y0, y1, y2, y3, y4⟩ := tree_read GX1.out (Below.refl _ _)
  go_upto_region 3 with (first
    | (go_at_call 20; refine (plainC_calls t A c _ (Kd.C_below HC.out B1.out) HCC.out HT.out).mono ?_; rintro e w2 ⟨⟨Ap, cp, rfl, hCp, hcp⟩, hB2⟩; have CP := Lib.hid hCp; have CCP := Lib.hid hcp; have B12 := Lib.hid hB2; clear hCp hcp hB2 y0 y1 y2 y3 y4)
    | (have _t := tk1; refine run_event rfl (.alloc 24) rfl (.pointer (some ⟨w2.heap.size, 0, none⟩)) (w2.alloc (.cells tree0 24)) (by kernel_rfl) ?_; intro w3 hw3; have B23 : Hid (Below w2.heap.size w2 w3) := Lib.hid (by rw [hw3]; exact alloc_below _ _); have G3 : Hid (w3.heap[w2.heap.size]? = some (.cells tree0 24 (0, 0))) := Lib.hid (by rw [hw3]; exact heap_alloc_new _ _); clear hw3 tk1 _t)
    | ((with_reducible refine gate_store (t := 24) (p := 5) rfl ?_); refine put_event rfl 24 _ _ rfl w2.heap.size (treeC t Ap cp) rfl rfl 24 tree0 G3.out (by kernel_rfl) rfl (tree_all _ _ _) w2.heap.size (Nat.le_refl _) ?_; intro w4 hb4 hB4 hs4 ho4; have G4 := Lib.hid hb4; have B24 : Hid (Below w2.heap.size w2 w4) := Lib.hid (B23.out.trans hB4); have B14 : Hid (Below w1.heap.size w1 w4) := Lib.hid (B12.out.trans (B24.out.mono B12.out.size)); have B4 : Hid (Below w.heap.size w w4) := Lib.hid (B1.out.trans (B14.out.mono B1.out.size)); obtain ⟨y0, y1, y2, y3, y4⟩ := tree_read GX1.out B14.out; clear hb4 hB4 hs4 ho4)
    | (go_at_call 12; refine (copyF_calls t A c _ (Kd.C_below HC.out B4.out) HCC.out HT.out).mono ?_; rintro e w5 ⟨⟨Aq, cq, rfl, hCq, hcq⟩, hB5⟩; have CQ := Lib.hid hCq; have CCQ := Lib.hid hcq; have B45 := Lib.hid hB5; clear hCq hcq hB5 y0 y1 y2 y3 y4)
    | (have _t := tk2; refine run_event rfl (.alloc 24) rfl (.pointer (some ⟨w5.heap.size, 0, none⟩)) (w5.alloc (.cells tree0 24)) (by kernel_rfl) ?_; intro w6 hw6; have B56 : Hid (Below w5.heap.size w5 w6) := Lib.hid (by rw [hw6]; exact alloc_below _ _); have G6 : Hid (w6.heap[w5.heap.size]? = some (.cells tree0 24 (0, 0))) := Lib.hid (by rw [hw6]; exact heap_alloc_new _ _); clear hw6 tk2 _t)
    | ((with_reducible refine gate_store (t := 24) (p := 6) rfl ?_); refine put_event rfl 24 _ _ rfl w5.heap.size (treeC t Aq cq) rfl rfl 24 tree0 G6.out (by kernel_rfl) rfl (tree_all _ _ _) w5.heap.size (Nat.le_refl _) ?_; intro w7 hb7 hB7 hs7 ho7; have G7 := Lib.hid hb7; have B57 : Hid (Below w5.heap.size w5 w7) := Lib.hid (B56.out.trans hB7); have B47 : Hid (Below w4.heap.size w4 w7) := Lib.hid (B45.out.trans (B57.out.mono B45.out.size)); clear hb7 hB7 hs7 ho7))
  have B27 : Hid (Below w2.heap.size w2 w7) := Lib.hid (B24.out.trans (B47.out.mono B24.out.size))
  have B17 : Hid (Below w1.heap.size w1 w7) := Lib.hid (B14.out.trans (B47.out.mono B14.out.size))
  have B7 : Hid (Below w.heap.size w w7) := Lib.hid (B4.out.trans (B47.out.mono B4.out.size))
  have PL0 : Hid (PL w7 w.heap.size (w.heap.size + 1) w2.heap.size w5.heap.size t u A A' Ap Aq c c' cp cq) := Lib.hid ⟨blk_below GX1.out B17.out, blk_below GY1.out B17.out, blk_below G4.out B47.out, G7.out⟩
  have CP7 : Hid (Kd.C k44 w7 Ap (bareT t).f2.length (bareT t).f2) := Lib.hid (Kd.C_below CP.out B27.out)
  have CQ7 : Hid (Kd.C k44 w7 Aq (bareT t).f2.length (bareT t).f2) := Lib.hid (Kd.C_below CQ.out B57.out)
  -- each call, behind w7
  have K1 : Hid (∀ W, Below w7.heap.size w7 W → _) := Lib.hid (fun W hB => HPQ.out W Ap cp Aq cq (Kd.C_below CP7.out hB) CCP.out (Kd.C_below CQ7.out hB) CCQ.out)
  have K2 : Hid (∀ W, Below w7.heap.size w7 W → _) := Lib.hid (fun W hB => HTU.out W (B7.out.trans (hB.mono B7.out.size)))
  have K3 : Hid (∀ W, Below w7.heap.size w7 W → _) := Lib.hid (fun W hB => HRTU.out W (B7.out.trans (hB.mono B7.out.size)))
  have K4 : Hid (∀ W, Below w7.heap.size w7 W → _) := Lib.hid (fun W hB => HTP.out W Ap cp (B7.out.trans (hB.mono B7.out.size)) (Kd.C_below CP7.out hB) CCP.out)
  have K5 : Hid (∀ W, Below w7.heap.size w7 W → _) := Lib.hid (fun W hB => HPT.out W Ap cp (B7.out.trans (hB.mono B7.out.size)) (Kd.C_below CP7.out hB) CCP.out)
  have K6 : Hid (∀ W, Below w7.heap.size w7 W → _) := Lib.hid (fun W hB => HUT.out W (B7.out.trans (hB.mono B7.out.size)))
  have K7 : Hid (∀ W, Below w7.heap.size w7 W → _) := Lib.hid (fun W hB => palive_calls W (HG.out.below (B7.out.trans (hB.mono B7.out.size))))
  have D : Hid (Below w7.heap.size w7 w7) := Lib.hid (Below.refl _ _)
  cases r
  all_goals
    go_region_held3 (fun W => W.cell? ⟨w.heap.size, 0, none⟩ = some (.string t.f0) ∧ W.cell? ⟨w.heap.size, 1, none⟩ = some (.string t.f1) ∧ W.cell? ⟨w.heap.size, 2, none⟩ = some (.slice A t.f2.length c) ∧ W.cell? ⟨w.heap.size, 3, none⟩ = some (.bool t.f3) ∧ W.cell? ⟨w.heap.size, 4, none⟩ = some (.string t.f4) ∧ W.cell? ⟨w.heap.size + 1, 0, none⟩ = some (.string u.f0) ∧ W.cell? ⟨w.heap.size + 1, 1, none⟩ = some (.string u.f1) ∧ W.cell? ⟨w.heap.size + 1, 2, none⟩ = some (.slice A' u.f2.length c') ∧ W.cell? ⟨w.heap.size + 1, 3, none⟩ = some (.bool u.f3) ∧ W.cell? ⟨w.heap.size + 1, 4, none⟩ = some (.string u.f4) ∧ W.cell? ⟨w2.heap.size, 0, none⟩ = some (.string t.f0) ∧ W.cell? ⟨w2.heap.size, 1, none⟩ = some (.string t.f1) ∧ W.cell? ⟨w2.heap.size, 2, none⟩ = some (.slice Ap t.f2.length cp) ∧ W.cell? ⟨w2.heap.size, 3, none⟩ = some (.bool t.f3) ∧ W.cell? ⟨w2.heap.size, 4, none⟩ = some (.string t.f4) ∧ W.cell? ⟨w5.heap.size, 0, none⟩ = some (.string t.f0) ∧ W.cell? ⟨w5.heap.size, 1, none⟩ = some (.string t.f1) ∧ W.cell? ⟨w5.heap.size, 2, none⟩ = some (.slice Aq t.f2.length cq) ∧ W.cell? ⟨w5.heap.size, 3, none⟩ = some (.bool t.f3) ∧ W.cell? ⟨w5.heap.size, 4, none⟩ = some (.string t.f4)) (first | exact (PL0.out.below D.out).S | assumption) (first
      | (go_at_call 16; (first | with_reducible refine (K1.out _ D.out).mono ?_ | with_reducible refine (K1.out _ D.out.drew).mono ?_ | with_reducible refine (K3.out _ D.out).mono ?_ | with_reducible refine (K3.out _ D.out.drew).mono ?_); rintro e wz ⟨rfl, hBz⟩; have D : Hid (Below w7.heap.size w7 wz) := Lib.hid (by first | exact D.out.trans (hBz.mono D.out.size) | exact D.out.drew.trans (hBz.mono D.out.drew.size)); clear hBz)
      | (go_at_call 21; (first | with_reducible refine (K2.out _ D.out).mono ?_ | with_reducible refine (K2.out _ D.out.drew).mono ?_ | with_reducible refine (K4.out _ D.out).mono ?_ | with_reducible refine (K4.out _ D.out.drew).mono ?_ | with_reducible refine (K5.out _ D.out).mono ?_ | with_reducible refine (K5.out _ D.out.drew).mono ?_); rintro e wz ⟨rfl, hBz⟩; have D : Hid (Below w7.heap.size w7 wz) := Lib.hid (by first | exact D.out.trans (hBz.mono D.out.size) | exact D.out.drew.trans (hBz.mono D.out.drew.size)); clear hBz))
    all_goals
      go_wp2_with fail
      go_region_held3 (fun W => W.cell? ⟨w.heap.size, 0, none⟩ = some (.string t.f0) ∧ W.cell? ⟨w.heap.size, 1, none⟩ = some (.string t.f1) ∧ W.cell? ⟨w.heap.size, 2, none⟩ = some (.slice A t.f2.length c) ∧ W.cell? ⟨w.heap.size, 3, none⟩ = some (.bool t.f3) ∧ W.cell? ⟨w.heap.size, 4, none⟩ = some (.string t.f4) ∧ W.cell? ⟨w.heap.size + 1, 0, none⟩ = some (.string u.f0) ∧ W.cell? ⟨w.heap.size + 1, 1, none⟩ = some (.string u.f1) ∧ W.cell? ⟨w.heap.size + 1, 2, none⟩ = some (.slice A' u.f2.length c') ∧ W.cell? ⟨w.heap.size + 1, 3, none⟩ = some (.bool u.f3) ∧ W.cell? ⟨w.heap.size + 1, 4, none⟩ = some (.string u.f4) ∧ W.cell? ⟨w2.heap.size, 0, none⟩ = some (.string t.f0) ∧ W.cell? ⟨w2.heap.size, 1, none⟩ = some (.string t.f1) ∧ W.cell? ⟨w2.heap.size, 2, none⟩ = some (.slice Ap t.f2.length cp) ∧ W.cell? ⟨w2.heap.size, 3, none⟩ = some (.bool t.f3) ∧ W.cell? ⟨w2.heap.size, 4, none⟩ = some (.string t.f4) ∧ W.cell? ⟨w5.heap.size, 0, none⟩ = some (.string t.f0) ∧ W.cell? ⟨w5.heap.size, 1, none⟩ = some (.string t.f1) ∧ W.cell? ⟨w5.heap.size, 2, none⟩ = some (.slice Aq t.f2.length cq) ∧ W.cell? ⟨w5.heap.size, 3, none⟩ = some (.bool t.f3) ∧ W.cell? ⟨w5.heap.size, 4, none⟩ = some (.string t.f4)) (first | exact (PL0.out.below D.out).S | assumption) (first
        | (go_at_call 21; (first | with_reducible refine (K2.out _ D.out).mono ?_ | with_reducible refine (K2.out _ D.out.drew).mono ?_ | with_reducible refine (K6.out _ D.out).mono ?_ | with_reducible refine (K6.out _ D.out.drew).mono ?_); rintro e wz ⟨rfl, hBz⟩; have D : Hid (Below w7.heap.size w7 wz) := Lib.hid (by first | exact D.out.trans (hBz.mono D.out.size) | exact D.out.drew.trans (hBz.mono D.out.drew.size)); clear hBz)
        | (go_at_call 17; (first | with_reducible refine (K7.out _ D.out).mono ?_ | with_reducible refine (K7.out _ D.out.drew).mono ?_); rintro e wz ⟨rfl, hBz⟩; have D : Hid (Below w7.heap.size w7 wz) := Lib.hid (by first | exact D.out.trans (hBz.mono D.out.size) | exact D.out.drew.trans (hBz.mono D.out.drew.size)); clear hBz))
      all_goals
        go_wp2_with fail
        go_ret
        exact ⟨rfl, B7.out.trans (D.out.mono B7.out.size)⟩
end Go.Proofs.YtmfejjlmflgnbaaGreatDoor.Tok

/- THE LAWS' WALKS: TokenScans answers true, of every text of at most 2^20 bytes. -/
import Derived.Test.YtpecmmicndcgjaaGreatDoorLive
import Derived.Test.YtpecmmicndcgjaaGreatDoorRscan
namespace Go.Proofs.YtpecmmicndcgjaaGreatDoor.Tok
open Go.RowKit Go.Proofs.YtpecmmicndcgjaaGreatDoor.PA Go.Proofs.YtpecmmicndcgjaaGreatDoorW.PrintWords Go.Proofs.YtpecmmicndcgjaaGreatDoorW.PrintLast Go.Proofs.YtpecmmicndcgjaaGreatDoor.Sp
set_option linter.unusedVariables false
set_option linter.unusedSimpArgs false
set_option maxRecDepth 100000

theorem fault_cells {w : World} {g : Nat} {a b c d : Int} (h : w.heap[g]? = some (.cells (faultC a b c d) 27 (0, 0))) :
    w.cell? ⟨g, 0, none⟩ = some (.int .i64 a) ∧ w.cell? ⟨g, 1, none⟩ = some (.int .i64 b) ∧ w.cell? ⟨g, 2, none⟩ = some (.int .i64 c) ∧ w.cell? ⟨g, 3, none⟩ = some (.int .i64 d) ∧ w.cell? ⟨g, 4, none⟩ = some (.string ⟨#[]⟩) :=
  ⟨(cell_row h 0).trans rfl, (cell_row h 1).trans rfl, (cell_row h 2).trans rfl, (cell_row h 3).trans rfl, (cell_row h 4).trans rfl⟩
theorem reps_M (w : World) (base : Nat) (ok : Nat → Prop) (t : Bs) (l : List (Tok × Nat)) : Reps (k34.M w base ok) 7 (l.map (toS t)) (cellsL t l) :=
  ⟨(reps_L w t l).1, fun j p hj => by
    have := k34_open ((reps_L w t l).2 j p hj)
    have e := k34_mkM w base ok p
    rw [← this] at e
    exact e⟩
theorem R_of_own {w : World} {base : Nat} {v : Value} {t : Bs} {l : List (Tok × Nat)} (h : w.ownsRow base 34 7 v l.length (cellsL t l)) : Kd.R k34 34 w base (fun _ => True) v (l.map (toS t)) :=
  ⟨fun _ _ => trivial, cellsL t l, by rw [List.length_map]; exact h, reps_M w base _ t l⟩
theorem same_own {W : World} {b1 b2 : Nat} {v1 v2 : Value} {t : Bs} {l : List (Tok × Nat)} (h1 : W.ownsRow b1 34 7 v1 l.length (cellsL t l)) (h2 : W.ownsRow b2 34 7 v2 l.length (cellsL t l)) (hm : l.length ≤ 1048577) :
    Calls Tryz.prog 12 #[v1, v2] W fun e w' => e = .returned (.bool true) ∧ Below W.heap.size W w' :=
  same_toks (toks_of_own h1) (toks_of_own h2) (by rw [List.length_map]; omega) (same_self _)
/-- An element's cells. -/
theorem elem_cells {w : World} {base g n c : Nat} {ok : Nat → Prop} {xs : List S34} (h : Kd.R k34 34 w base ok (.slice (some ⟨g, 0, none⟩) n c) xs) (j : Nat) (hj : j < n) :
    ∃ cs : List Value, cs.length = 7 ∧ ∀ i u, cs[i]? = some u → w.cell? ⟨g, j * 7 + i, none⟩ = some u := by
  obtain ⟨_, inner, hown, hr⟩ := h
  have hK : Reps (k34.K w) 7 xs inner := ⟨hr.1, fun j p hj => by
    have := k34_openM (hr.2 j p hj)
    have e := k34_mk w p
    rw [← this] at e
    exact e⟩
  obtain ⟨A, c', hv, hC⟩ := own_reads_row hown hK rfl
  injection hv with e1 e2 e3
  subst e1
  obtain ⟨ad, e, hc⟩ := hC.2.2 (by omega)
  cases e
  obtain ⟨cs, hl, _, hcell⟩ := hc j xs[j] (List.getElem?_eq_getElem (by omega))
  refine ⟨cs, hl, fun i u hu => ?_⟩
  have h3 := hcell i u hu
  have e3 : (Addr.add ⟨g, 0, none⟩ (j * k34.sz + i)) = ⟨g, j * 7 + i, none⟩ := by
    rw [show k34.sz = 7 from rfl]
    unfold Addr.add
    by_cases h0 : j * 7 + i = 0
    · rw [if_pos h0, h0]
    · rw [if_neg h0]; simp
  rw [e3] at h3
  exact h3
def clob : S34 := ⟨99, ⟨0, 0, 0⟩, ⟨#[]⟩, 0, false⟩
def clobL : List Value := [.int .i64 99, .int .i64 0, .int .i64 0, .int .i64 0, .string ⟨#[]⟩, .int .u32 0, .bool false]
theorem clob_M (w : World) (base : Nat) (ok : Nat → Prop) (cs : List Value) (h : cs.length = 7) : k34.M w base ok clob (cs.take 0 ++ clobL ++ cs.drop (0 + clobL.length)) := by
  rw [show cs.drop (0 + clobL.length) = [] from List.drop_eq_nil_of_le (by rw [h]; decide), List.take_zero, List.nil_append, List.append_nil]
  exact k34_mkM w base ok clob
theorem clob_one : ∀ q ∈ clobL, q.oneCell' = true := by simp [clobL, Value.oneCell']
set_option maxHeartbeats 8000000 in
theorem law_scans_ok (text : ByteArray) (w : World) (hs : text.size ≤ 1048576) (hG : Glob w) (l : List (Tok × Nat)) (hl : scanT text.data.toList = .ok l) (hne : 0 < l.length) (hle : l.length ≤ 1048577) :
    Calls Tryz.prog 3 #[.string text] w fun e w' => e = .returned (.bool true) ∧ Below w.heap.size w w' := by
  have HG := Lib.hid hG
  have HS1 : Hid (∀ W, Glob W → Calls Tryz.prog 10 #[.string text] W fun e w' => (∃ g c, e = .returned (.tuple #[.slice (some ⟨g, 0, none⟩) l.length c, .agg #[.int .i64 0, .int .i64 0, .int .i64 0, .int .i64 0, .string ⟨#[]⟩]]) ∧ w'.ownsRow W.heap.size 34 7 (.slice (some ⟨g, 0, none⟩) l.length c) l.length (cellsL text.data.toList l)) ∧ Below W.heap.size W w') := Lib.hid (fun W hW => (fscan_calls text W hs hW).mono fun e w' h => by
    unfold FScanPost at h
    rw [hl] at h
    obtain ⟨hB, v, he, ho⟩ := h
    obtain ⟨g, cap, rfl, _, _⟩ := ho.form hne
    exact ⟨⟨g, cap, he, ho⟩, hB⟩)
  have HR1 : Hid (∀ W, Calls Tryz.prog 11 #[.string text] W fun e w' => (∃ g c, e = .returned (.tuple #[.slice (some ⟨g, 0, none⟩) l.length c, .agg #[.int .i64 0, .int .i64 0, .int .i64 0, .int .i64 0, .string ⟨#[]⟩]]) ∧ w'.ownsRow W.heap.size 34 7 (.slice (some ⟨g, 0, none⟩) l.length c) l.length (cellsL text.data.toList l)) ∧ Below W.heap.size W w') := Lib.hid (fun W => (rscan_calls text W hs).mono fun e w' h => by
    unfold FScanPost at h
    rw [hl] at h
    obtain ⟨hB, v, he, ho⟩ := h
    obtain ⟨g, cap, rfl, _, _⟩ := ho.form hne
    exact ⟨⟨g, cap, he, ho⟩, hB⟩)
  have HSM : Hid (∀ W b1 b2 g1 g2 c1 c2, W.ownsRow b1 34 7 (.slice (some ⟨g1, 0, none⟩) l.length c1) l.length (cellsL text.data.toList l) → W.ownsRow b2 34 7 (.slice (some ⟨g2, 0, none⟩) l.length c2) l.length (cellsL text.data.toList l) →
      Calls Tryz.prog 12 #[.slice (some ⟨g1, 0, none⟩) l.length c1, .slice (some ⟨g2, 0, none⟩) l.length c2] W fun e w' => e = .returned (.bool true) ∧ Below W.heap.size W w') :=
    Lib.hid (fun W b1 b2 g1 g2 c1 c2 h1 h2 => same_own h1 h2 hle)
  have HRO : Hid (∀ W b g c, W.ownsRow b 34 7 (.slice (some ⟨g, 0, none⟩) l.length c) l.length (cellsL text.data.toList l) → Kd.R k34 34 W b (fun _ => True) (.slice (some ⟨g, 0, none⟩) l.length c) (l.map (toS text.data.toList))) := Lib.hid (fun W b g c h => R_of_own h)
  have hmap : (l.map (toS text.data.toList)).length = l.length := List.length_map _
  clear hG hl
  generalize l.map (toS text.data.toList) = xs0 at HRO hmap
  generalize cellsL text.data.toList l = CL at HS1 HR1 HSM HRO
  generalize l.length = n at *
  have HN := Lib.hid hne
  have HM := Lib.hid hle
  have HX := Lib.hid hmap
  clear hne hle hmap hs
  have feq : ∀ W, (binOp .neq 27 (.agg #[.int .i64 0, .int .i64 0, .int .i64 0, .int .i64 0, .string ⟨#[]⟩]) (.agg #[.int .i64 0, .int .i64 0, .int .i64 0, .int .i64 0, .string ⟨#[]⟩])).run Tryz.prog W = .ok (.bool false) W := fun _ => by kernel_rfl
  have feq2 : ∀ W, (binOp .eql 27 (.agg #[.int .i64 0, .int .i64 0, .int .i64 0, .int .i64 0, .string ⟨#[]⟩]) (.agg #[.int .i64 0, .int .i64 0, .int .i64 0, .int .i64 0, .string ⟨#[]⟩])).run Tryz.prog W = .ok (.bool true) W := fun _ => by kernel_rfl
  have tk1 : True := trivial
  go_enter Tryz.func3, Tryz.ntmps3
  go_wp2_with fail
  refine (HS1.out _ HG.out).mono ?_
  rintro e w1 ⟨⟨g, c, rfl, ho1⟩, hB1⟩
  have B1 := Lib.hid hB1
  have O1 := Lib.hid ho1
  clear ho1 hB1
  go_wp2_with (first
    | (have _t := tk1; refine run_event rfl (.alloc 27) rfl (.pointer (some ⟨w1.heap.size, 0, none⟩)) (w1.alloc (.cells (faultC 0 0 0 0) 27)) (by kernel_rfl) ?_; intro w2 hw2; have B2 : Hid (Below w1.heap.size w1 w2) := Lib.hid (by rw [hw2]; exact alloc_below _ _); have G2 : Hid (w2.heap[w1.heap.size]? = some (.cells (faultC 0 0 0 0) 27 (0, 0))) := Lib.hid (by rw [hw2]; exact heap_alloc_new _ _); clear hw2 tk1 _t)
    | ((with_reducible refine gate_store (t := 27) (p := 4) rfl ?_); refine put_event rfl 27 _ _ rfl w1.heap.size (faultC 0 0 0 0) rfl rfl 27 (faultC 0 0 0 0) G2.out (by kernel_rfl) rfl (fault_all _ _ _ _) w1.heap.size (Nat.le_refl _) ?_; intro w3 hb3 hB3 hs3 ho3; have G3 := Lib.hid hb3; have B3 : Hid (Below w1.heap.size w1 w3) := Lib.hid (B2.out.trans hB3); clear hb3 hB3 hs3 ho3)
    | (go_at_call 11; refine (HR1.out _).mono ?_; rintro e w4 ⟨⟨g4, c4, rfl, ho4⟩, hB4⟩; have O4 := Lib.hid ho4; have B4 := Lib.hid (B3.out.trans (hB4.mono B3.out.size)); have G4 : Hid (w4.heap[w1.heap.size]? = some (.cells (faultC 0 0 0 0) 27 (0, 0))) := Lib.hid ((hB4.block _ (Array.getElem?_eq_some_iff.1 G3.out).1).trans G3.out); clear hB4 ho4)
    | (refine run_event rfl (.alloc 27) rfl (.pointer (some ⟨w4.heap.size, 0, none⟩)) (w4.alloc (.cells (faultC 0 0 0 0) 27)) (by kernel_rfl) ?_; intro w5 hw5; have B5 : Hid (Below w4.heap.size w4 w5) := Lib.hid (by rw [hw5]; exact alloc_below _ _); have G5 : Hid (w5.heap[w4.heap.size]? = some (.cells (faultC 0 0 0 0) 27 (0, 0))) := Lib.hid (by rw [hw5]; exact heap_alloc_new _ _); clear hw5)
    | ((with_reducible refine gate_store (t := 27) (p := 6) rfl ?_); refine put_event rfl 27 _ _ rfl w4.heap.size (faultC 0 0 0 0) rfl rfl 27 (faultC 0 0 0 0) G5.out (by kernel_rfl) rfl (fault_all _ _ _ _) w4.heap.size (Nat.le_refl _) ?_; intro w6 hb6 hB6 hs6 ho6; have G6 := Lib.hid hb6; have B6 : Hid (Below w4.heap.size w4 w6) := Lib.hid (B5.out.trans hB6); have BA : Hid (Below w1.heap.size w1 w6) := Lib.hid (B4.out.trans (B6.out.mono B4.out.size)); obtain ⟨a0, a1, a2, a3, a4⟩ := fault_cells hb6; obtain ⟨b0, b1, b2, b3, b4⟩ := fault_cells ((B6.out.block _ (Array.getElem?_eq_some_iff.1 G4.out).1).trans G4.out); clear hb6 hB6 hs6 ho6)
    | (go_at_call 12; refine (HSM.out _ _ _ _ _ _ _ (pw_own_below O1.out BA.out) (pw_own_below O4.out B6.out)).mono ?_; rintro e w7 ⟨rfl, hB7⟩; have B7 := Lib.hid hB7; clear hB7 a0 a1 a2 a3 a4 b0 b1 b2 b3 b4))
  have BW7 : Hid (Below w.heap.size w w7) := Lib.hid (B1.out.trans ((BA.out.trans (B7.out.mono BA.out.size)).mono B1.out.size))
  have R0 := Lib.hid (HRO.out _ _ _ _ (pw_own_below (pw_own_below O1.out BA.out) B7.out))
  go_loopw [7] (fun v wr => ∃ j : Nat, v = .int .i64 (j : Int) ∧ j ≤ n ∧ (∃ xs : List S34, Hid (Kd.R k34 34 wr w.heap.size (fun _ => True) (.slice (some ⟨g, 0, none⟩) n c) xs)) ∧ Hid (w7.grownBy wr (some g)) ∧ Hid (Below w.heap.size w wr)) (fun v _ => n - (intOf v).toNat)
  case atStart => exact ⟨0, by go_num, by omega, ⟨_, R0⟩, Lib.hid (below_grown (Below.refl _ _)), BW7⟩
  case round =>
    obtain ⟨j, rfl, hj, ⟨xs, R⟩, GR, B⟩ := hrel
    have hm := HM.out
    by_cases hlt : j < n
    · obtain ⟨cs, hcl, hcc⟩ := elem_cells R.out j hlt
      have HCL := Lib.hid hcl
      have HCC := Lib.hid hcc
      clear hcl hcc
      go_wp2_with (first
        | (refine Kd.R_store (w0 := w) k34 w.heap.size rfl rfl 34 (.tmp 38) (.tmp 37) rfl 34 (j : Int) 0 xs clob (.agg #[.int .i64 99, .int .i64 0, .int .i64 0, .int .i64 0, .string ⟨#[]⟩, .int .u32 0, .bool false]) clobL cs (fun _ => True) (fun _ => False) rfl (by rw [show k34.sz = 7 from rfl]; simp) rfl rfl (by kernel_rfl) clob_one R.out (by omega) (by omega) HCL.out HCC.out (by decide) (clob_M _ _ _ _ HCL.out) (fun k hk => hk.elim) B.out ?_; intro wn hRn hBn hgn; have RN := Lib.hid hRn; have BN := Lib.hid hBn; have GN := Lib.hid hgn; clear hRn hBn hgn))
      refine ⟨⟨j + 1, by go_num, by omega, ⟨_, RN⟩, Lib.hid (GR.out.trans GN.out), BN⟩, by simp [intOf]; omega⟩
    · obtain rfl : j = n := by omega
      have G6r : Hid (wr.heap[w4.heap.size]? = some (.cells (faultC 0 0 0 0) 27 (0, 0))) := by
        have h6 := (Array.getElem?_eq_some_iff.1 G6.out).1
        have h7 := (B7.out.block _ h6).trans G6.out
        have hg := (O1.out.lt g rfl).2
        have h4 := B4.out.size
        exact Lib.hid ((GR.out.block _ (Array.getElem?_eq_some_iff.1 h7).1 (fun e => by injection e with e; omega)).trans h7)
      have O4r := Lib.hid ((pw_own_below (pw_own_below O4.out B6.out) B7.out).kept GR.out (.inr (fun e => by
        have e' : some g4 = some g := e
        injection e' with e'
        have := (O4.out.lt g4 rfl).1
        have := (O1.out.lt g rfl).2
        have := B3.out.size
        omega)))
      clear G6 O4 G4 G3 G2 B2 B5 B6 BA B7 R0 BW7 GR R O1
      go_wp2_with fail
      refine (HS1.out _ (HG.out.below B.out)).mono ?_
      rintro e w8 ⟨⟨g8, c8, rfl, ho8⟩, hB8⟩
      have B8 := Lib.hid hB8
      have O8 := Lib.hid ho8
      clear ho8 hB8
      have tk2 : True := trivial
      go_wp2_with (first
        | (have _t := tk2; refine run_event rfl (.alloc 27) rfl (.pointer (some ⟨w8.heap.size, 0, none⟩)) (w8.alloc (.cells (faultC 0 0 0 0) 27)) (by kernel_rfl) ?_; intro w9 hw9; have B9 : Hid (Below w8.heap.size w8 w9) := Lib.hid (by rw [hw9]; exact alloc_below _ _); have G9 : Hid (w9.heap[w8.heap.size]? = some (.cells (faultC 0 0 0 0) 27 (0, 0))) := Lib.hid (by rw [hw9]; exact heap_alloc_new _ _); clear hw9 tk2 _t)
        | ((with_reducible refine gate_store (t := 27) (p := 9) rfl ?_); refine put_event rfl 27 _ _ rfl w8.heap.size (faultC 0 0 0 0) rfl rfl 27 (faultC 0 0 0 0) G9.out (by kernel_rfl) rfl (fault_all _ _ _ _) w8.heap.size (Nat.le_refl _) ?_; intro w10 hb10 hB10 hs10 ho10; have B10 : Hid (Below w8.heap.size w8 w10) := Lib.hid (B9.out.trans hB10); have BB : Hid (Below wr.heap.size wr w10) := Lib.hid (B8.out.trans (B10.out.mono B8.out.size)); obtain ⟨a0, a1, a2, a3, a4⟩ := fault_cells hb10; obtain ⟨b0, b1, b2, b3, b4⟩ := fault_cells ((BB.out.block _ (Array.getElem?_eq_some_iff.1 G6r.out).1).trans G6r.out); clear hb10 hB10 hs10 ho10)
        | (go_at_call 12; refine (HSM.out _ _ _ _ _ _ _ (pw_own_below O8.out B10.out) (pw_own_below O4r.out BB.out)).mono ?_; rintro e w11 ⟨rfl, hB11⟩; have B11 := Lib.hid (B.out.trans ((BB.out.trans (hB11.mono BB.out.size)).mono B.out.size)); clear hB11 a0 a1 a2 a3 a4 b0 b1 b2 b3 b4)
        | (go_at_call 13; refine (alive_calls _ (HG.out.below B11.out)).mono ?_; rintro e w12 ⟨rfl, hB12⟩; have B12 := Lib.hid (B11.out.trans (hB12.mono B11.out.size)); clear hB12))
      go_ret
      exact ⟨rfl, B12.out⟩
theorem toks_nil (w : World) : Toks w (.slice none 0 0) [] := ⟨none, 0, rfl, Nat.le_refl _, ⟨rfl, by simp, fun h => (by cases h)⟩⟩
set_option maxHeartbeats 8000000 in
theorem law_scans_bad (text : ByteArray) (w : World) (hs : text.size ≤ 1048576) (hG : Glob w) (cd0 ps0 : Nat) (hl : scanT text.data.toList = .error (cd0, ps0)) :
    Calls Tryz.prog 3 #[.string text] w fun e w' => e = .returned (.bool true) ∧ Below w.heap.size w w' := by
  have HG := Lib.hid hG
  have HS0 : Hid (∀ W, Glob W → Calls Tryz.prog 10 #[.string text] W fun e w' => e = .returned (.tuple #[.slice none 0 0, .agg (faultC cd0 ps0 ((spotT text.data.toList ps0).1 : Nat) ((spotT text.data.toList ps0).2 : Nat))]) ∧ Below W.heap.size W w') := Lib.hid (fun W hW => (fscan_calls text W hs hW).mono fun e w' h => by
    unfold FScanPost at h
    rw [hl] at h
    exact ⟨h.2, h.1⟩)
  have HR0 : Hid (∀ W, Calls Tryz.prog 11 #[.string text] W fun e w' => e = .returned (.tuple #[.slice none 0 0, .agg (faultC cd0 ps0 ((spotT text.data.toList ps0).1 : Nat) ((spotT text.data.toList ps0).2 : Nat))]) ∧ Below W.heap.size W w') := Lib.hid (fun W => (rscan_calls text W hs).mono fun e w' h => by
    unfold FScanPost at h
    rw [hl] at h
    exact ⟨h.2, h.1⟩)
  clear hG hl hs
  generalize (((spotT text.data.toList ps0).1 : Nat) : Int) = ln at HS0 HR0
  generalize (((spotT text.data.toList ps0).2 : Nat) : Int) = cl at HS0 HR0
  generalize (cd0 : Int) = cd at HS0 HR0
  generalize (ps0 : Int) = ps at HS0 HR0
  have HS1 : Hid (∀ W, Glob W → Calls Tryz.prog 10 #[.string text] W fun e w' => e = .returned (.tuple #[.slice none 0 0, .agg #[.int .i64 cd, .int .i64 ps, .int .i64 ln, .int .i64 cl, .string ⟨#[]⟩]]) ∧ Below W.heap.size W w') := HS0
  have HR1 : Hid (∀ W, Calls Tryz.prog 11 #[.string text] W fun e w' => e = .returned (.tuple #[.slice none 0 0, .agg #[.int .i64 cd, .int .i64 ps, .int .i64 ln, .int .i64 cl, .string ⟨#[]⟩]]) ∧ Below W.heap.size W w') := HR0
  clear HS0 HR0
  have tk1 : True := trivial
  go_enter Tryz.func3, Tryz.ntmps3
  go_wp2_with fail
  refine (HS1.out _ HG.out).mono ?_
  rintro e w1 ⟨rfl, hB1⟩
  have B1 := Lib.hid hB1
  clear hB1
  go_wp2_with (first
    | (have _t := tk1; refine run_event rfl (.alloc 27) rfl (.pointer (some ⟨w1.heap.size, 0, none⟩)) (w1.alloc (.cells (faultC 0 0 0 0) 27)) (by kernel_rfl) ?_; intro w2 hw2; have B2 : Hid (Below w1.heap.size w1 w2) := Lib.hid (by rw [hw2]; exact alloc_below _ _); have G2 : Hid (w2.heap[w1.heap.size]? = some (.cells (faultC 0 0 0 0) 27 (0, 0))) := Lib.hid (by rw [hw2]; exact heap_alloc_new _ _); clear hw2 tk1 _t)
    | ((with_reducible refine gate_store (t := 27) (p := 4) rfl ?_); refine put_event rfl 27 _ _ rfl w1.heap.size (faultC cd ps ln cl) rfl rfl 27 (faultC 0 0 0 0) G2.out (by kernel_rfl) rfl (fault_all _ _ _ _) w1.heap.size (Nat.le_refl _) ?_; intro w3 hb3 hB3 hs3 ho3; have G3 := Lib.hid hb3; have B3 : Hid (Below w1.heap.size w1 w3) := Lib.hid (B2.out.trans hB3); clear hb3 hB3 hs3 ho3)
    | (go_at_call 11; refine (HR1.out _).mono ?_; rintro e w4 ⟨rfl, hB4⟩; have B4 := Lib.hid (B3.out.trans (hB4.mono B3.out.size)); have G4 : Hid (w4.heap[w1.heap.size]? = some (.cells (faultC cd ps ln cl) 27 (0, 0))) := Lib.hid ((hB4.block _ (Array.getElem?_eq_some_iff.1 G3.out).1).trans G3.out); clear hB4)
    | (refine run_event rfl (.alloc 27) rfl (.pointer (some ⟨w4.heap.size, 0, none⟩)) (w4.alloc (.cells (faultC 0 0 0 0) 27)) (by kernel_rfl) ?_; intro w5 hw5; have B5 : Hid (Below w4.heap.size w4 w5) := Lib.hid (by rw [hw5]; exact alloc_below _ _); have G5 : Hid (w5.heap[w4.heap.size]? = some (.cells (faultC 0 0 0 0) 27 (0, 0))) := Lib.hid (by rw [hw5]; exact heap_alloc_new _ _); clear hw5)
    | ((with_reducible refine gate_store (t := 27) (p := 6) rfl ?_); refine put_event rfl 27 _ _ rfl w4.heap.size (faultC cd ps ln cl) rfl rfl 27 (faultC 0 0 0 0) G5.out (by kernel_rfl) rfl (fault_all _ _ _ _) w4.heap.size (Nat.le_refl _) ?_; intro w6 hb6 hB6 hs6 ho6; have G6 := Lib.hid hb6; have B6 : Hid (Below w4.heap.size w4 w6) := Lib.hid (B5.out.trans hB6); have BA : Hid (Below w1.heap.size w1 w6) := Lib.hid (B4.out.trans (B6.out.mono B4.out.size)); obtain ⟨a0, a1, a2, a3, a4⟩ := fault_cells hb6; obtain ⟨b0, b1, b2, b3, b4⟩ := fault_cells ((B6.out.block _ (Array.getElem?_eq_some_iff.1 G4.out).1).trans G4.out); clear hb6 hB6 hs6 ho6)
    | (go_at_call 12; refine (same_toks (toks_nil _) (toks_nil _) (Nat.zero_le _) (same_self _)).mono ?_; rintro e w7 ⟨rfl, hB7⟩; have B7 := Lib.hid hB7; clear hB7 a0 a1 a2 a3 a4 b0 b1 b2 b3 b4))
  have BW7 : Hid (Below w.heap.size w w7) := Lib.hid (B1.out.trans ((BA.out.trans (B7.out.mono BA.out.size)).mono B1.out.size))
  have G6r : Hid (w7.heap[w4.heap.size]? = some (.cells (faultC cd ps ln cl) 27 (0, 0))) := Lib.hid ((B7.out.block _ (Array.getElem?_eq_some_iff.1 G6.out).1).trans G6.out)
  clear G6 G4 G3 G2 B2 B5 B6 BA B7 B4 B3 B1
  go_loopw [7] (fun v wr => v = .int .i64 0 ∧ wr = w7) (fun v _ => 0)
  case atStart => exact ⟨rfl, rfl⟩
  case round =>
    obtain ⟨rfl, rfl⟩ := hrel
    go_wp2_with fail
    refine (HS1.out _ (HG.out.below BW7.out)).mono ?_
    rintro e w8 ⟨rfl, hB8⟩
    have B8 := Lib.hid hB8
    clear hB8
    have tk2 : True := trivial
    go_wp2_with (first
      | (have _t := tk2; refine run_event rfl (.alloc 27) rfl (.pointer (some ⟨w8.heap.size, 0, none⟩)) (w8.alloc (.cells (faultC 0 0 0 0) 27)) (by kernel_rfl) ?_; intro w9 hw9; have B9 : Hid (Below w8.heap.size w8 w9) := Lib.hid (by rw [hw9]; exact alloc_below _ _); have G9 : Hid (w9.heap[w8.heap.size]? = some (.cells (faultC 0 0 0 0) 27 (0, 0))) := Lib.hid (by rw [hw9]; exact heap_alloc_new _ _); clear hw9 tk2 _t)
      | ((with_reducible refine gate_store (t := 27) (p := 9) rfl ?_); refine put_event rfl 27 _ _ rfl w8.heap.size (faultC cd ps ln cl) rfl rfl 27 (faultC 0 0 0 0) G9.out (by kernel_rfl) rfl (fault_all _ _ _ _) w8.heap.size (Nat.le_refl _) ?_; intro w10 hb10 hB10 hs10 ho10; have B10 : Hid (Below w8.heap.size w8 w10) := Lib.hid (B9.out.trans hB10); have BB : Hid (Below wr.heap.size wr w10) := Lib.hid (B8.out.trans (B10.out.mono B8.out.size)); obtain ⟨a0, a1, a2, a3, a4⟩ := fault_cells hb10; obtain ⟨b0, b1, b2, b3, b4⟩ := fault_cells ((BB.out.block _ (Array.getElem?_eq_some_iff.1 G6r.out).1).trans G6r.out); clear hb10 hB10 hs10 ho10)
      | (go_at_call 12; refine (same_toks (toks_nil _) (toks_nil _) (Nat.zero_le _) (same_self _)).mono ?_; rintro e w11 ⟨rfl, hB11⟩; have B11 := Lib.hid (BW7.out.trans ((BB.out.trans (hB11.mono BB.out.size)).mono BW7.out.size)); clear hB11 a0 a1 a2 a3 a4 b0 b1 b2 b3 b4)
      | (go_at_call 13; refine (alive_calls _ (HG.out.below B11.out)).mono ?_; rintro e w12 ⟨rfl, hB12⟩; have B12 := Lib.hid (B11.out.trans (hB12.mono B11.out.size)); clear hB12))
    go_ret
    exact ⟨rfl, B12.out⟩
theorem law_scans (text : ByteArray) (w : World) (hs : text.size ≤ 1048576) (hG : Glob w) :
    Calls Tryz.prog 3 #[.string text] w fun e w' => e = .returned (.bool true) ∧ Below w.heap.size w w' := by
  cases h : scanT text.data.toList with
  | error cp => obtain ⟨c, p⟩ := cp; exact law_scans_bad text w hs hG c p h
  | ok l =>
    have hsc : Scans text.data.toList 0 l := by
      have h' := h
      unfold scanT at h'
      split at h'
      · cases h'
      · exact scans_of _ _ _ _ h'
    have hb := scans_bound hsc (Nat.zero_le _)
    have e : text.data.toList.length = text.size := by rw [Array.length_toList]; rfl
    exact law_scans_ok text w hs hG l h hb.1 (by omega)
end Go.Proofs.YtpecmmicndcgjaaGreatDoor.Tok

/- CONTRACT: token.Spell at a kind that is a mark, or no kind. -/
import Derived.Test.YtmfejjlmflgnbaaGreatDoorZSpell
namespace Go.Proofs.YtmfejjlmflgnbaaGreatDoor.Tok
open Go.RowKit Go.Proofs.YtmfejjlmflgnbaaGreatDoor.PA Go.Proofs.YtmfejjlmflgnbaaGreatDoorW.PrintWords Go.Proofs.YtmfejjlmflgnbaaGreatDoorW.PrintLast Go.Proofs.YtmfejjlmflgnbaaGreatDoor.Sp
set_option linter.unusedVariables false
set_option linter.unusedSimpArgs false
set_option maxRecDepth 100000

theorem kinds (k : Int) (h0 : k ≠ 0) (h1 : k ≠ 1) (h2 : k ≠ 2) (h3 : k ≠ 3) : (k == 0) = false ∧ (k == 1) = false ∧ (k == 2) = false ∧ (k == 3) = false ∧ (k != 1) = true ∧ (k != 2) = true ∧ (k != 3) = true := by
  simp [h0, h1, h2, h3, bne]
set_option maxHeartbeats 4000000 in
theorem spellk_v (k o l c : Int) (t : ByteArray) (v : Nat) (h : Bool) (w : World) (h0 : k ≠ 0) (h1 : k ≠ 1) (h2 : k ≠ 2) (h3 : k ≠ 3) (hv : v ≠ 0) : Calls Tryz.prog 97 #[tokV k o l c t v h] w (SpellPost k t v h w) := by
  have HS := Lib.hid (show spellT k t.data.toList v h = none by simp [spellT, h0, h1, h2, h3, hv])
  have d := v_ne v hv
  obtain ⟨q0, q1, q2, q3, n1, n2, n3⟩ := kinds k h0 h1 h2 h3
  clear hv h0 h1 h2 h3
  unfold tokV tokCells
  go_enter Tryz.func97, Tryz.ntmps97
  go_wp2_with fail
  all_goals (refine bodyPost_ret (results_list (rs := [.tmp 2, .tmp 3]) rfl (by simp) (.tmp (.tmp .nil))) rfl ?_)
  all_goals exact spell_none (alloc_below _ _) HS.out
set_option maxHeartbeats 4000000 in
theorem spellk_h (k o l c : Int) (t : ByteArray) (w : World) (h0 : k ≠ 0) (h1 : k ≠ 1) (h2 : k ≠ 2) (h3 : k ≠ 3)  : Calls Tryz.prog 97 #[tokV k o l c t 0 true] w (SpellPost k t 0 true w) := by
  have HS := Lib.hid (show spellT k t.data.toList 0 true = none by simp [spellT, h0, h1, h2, h3])
  obtain ⟨q0, q1, q2, q3, n1, n2, n3⟩ := kinds k h0 h1 h2 h3
  skip
  unfold tokV tokCells
  go_enter Tryz.func97, Tryz.ntmps97
  go_wp2_with fail
  all_goals (refine bodyPost_ret (results_list (rs := [.tmp 2, .tmp 3]) rfl (by simp) (.tmp (.tmp .nil))) rfl ?_)
  all_goals exact spell_none (alloc_below _ _) HS.out
set_option maxHeartbeats 4000000 in
theorem spellk_t (k o l c : Int) (t : ByteArray) (w : World) (h0 : k ≠ 0) (h1 : k ≠ 1) (h2 : k ≠ 2) (h3 : k ≠ 3) (ht : t.data.toList ≠ []) : Calls Tryz.prog 97 #[tokV k o l c t 0 false] w (SpellPost k t 0 false w) := by
  have HS := Lib.hid (show spellT k t.data.toList 0 false = none by simp [spellT, h0, h1, h2, h3, ht])
  obtain ⟨q0, q1, q2, q3, n1, n2, n3⟩ := kinds k h0 h1 h2 h3
  have ht' := list_ne t ht
  clear ht
  unfold tokV tokCells
  go_enter Tryz.func97, Tryz.ntmps97
  go_wp2_with fail
  all_goals (refine bodyPost_ret (results_list (rs := [.tmp 2, .tmp 3]) rfl (by simp) (.tmp (.tmp .nil))) rfl ?_)
  all_goals exact spell_none (alloc_below _ _) HS.out
/-! ### the loop -/
structure MI (k : Int) (w wr : World) : Prop where
  cell : wr.cell? ⟨w.heap.size, 0, none⟩ = some (.int .i64 k)
  lt : w.heap.size < wr.heap.size
  bel : Below w.heap.size w wr
theorem MI.below {k : Int} {w wr w' : World} (h : MI k w wr) (hB : Below wr.heap.size wr w') : MI k w w' :=
  ⟨(hB.cell h.lt).trans h.cell, Nat.lt_of_lt_of_le h.lt hB.size, h.bel.trans (hB.mono (by have := h.lt; omega))⟩
theorem MI.alloc_eq {k : Int} {w wr w' : World} {ob : Obj} (h : MI k w wr) (hw : w' = wr.alloc ob) : MI k w w' := h.below (by rw [hw]; exact alloc_below _ _)
theorem two_all (a b : Int) : (#[Value.int .u8 a, Value.int .i64 b]).all (·.oneCell') = true := by simp [Value.oneCell']
theorem MI.put {k : Int} {w w1 a b : World} (h : MI k w a) (hl : w.heap.size < w1.heap.size) (hB : Below w1.heap.size a b) : MI k w b :=
  ⟨(hB.cell hl).trans h.cell, Nat.lt_of_lt_of_le h.lt hB.size, h.bel.trans (hB.mono (by omega))⟩
theorem marks_spell (k : Int) (h0 : k ≠ 0) (h1 : k ≠ 1) (h2 : k ≠ 2) (h3 : k ≠ 3) : spellT k (⟨#[]⟩ : ByteArray).data.toList 0 false = if 4 ≤ k ∧ k ≤ 8 then some [markC k.toNat] else none := by
  simp [spellT, h0, h1, h2, h3]
def markAt : Nat → Array Value
  | 0 => #[.int .u8 123, .int .i64 4]
  | 1 => #[.int .u8 125, .int .i64 5]
  | 2 => #[.int .u8 61, .int .i64 6]
  | 3 => #[.int .u8 59, .int .i64 7]
  | _ => #[.int .u8 58, .int .i64 8]
theorem idx_mark0 (w : World) : (Instr.index 218 (.agg #[.int .u8 123, .int .i64 4, .int .u8 125, .int .i64 5, .int .u8 61, .int .i64 6, .int .u8 59, .int .i64 7, .int .u8 58, .int .i64 8]) (.int .i64 0)).run Tryz.prog w = .ok (.agg #[.int .u8 123, .int .i64 4]) w := by kernel_rfl
theorem idx_mark1 (w : World) : (Instr.index 218 (.agg #[.int .u8 123, .int .i64 4, .int .u8 125, .int .i64 5, .int .u8 61, .int .i64 6, .int .u8 59, .int .i64 7, .int .u8 58, .int .i64 8]) (.int .i64 1)).run Tryz.prog w = .ok (.agg #[.int .u8 125, .int .i64 5]) w := by kernel_rfl
theorem idx_mark2 (w : World) : (Instr.index 218 (.agg #[.int .u8 123, .int .i64 4, .int .u8 125, .int .i64 5, .int .u8 61, .int .i64 6, .int .u8 59, .int .i64 7, .int .u8 58, .int .i64 8]) (.int .i64 2)).run Tryz.prog w = .ok (.agg #[.int .u8 61, .int .i64 6]) w := by kernel_rfl
theorem idx_mark3 (w : World) : (Instr.index 218 (.agg #[.int .u8 123, .int .i64 4, .int .u8 125, .int .i64 5, .int .u8 61, .int .i64 6, .int .u8 59, .int .i64 7, .int .u8 58, .int .i64 8]) (.int .i64 3)).run Tryz.prog w = .ok (.agg #[.int .u8 59, .int .i64 7]) w := by kernel_rfl
theorem idx_mark4 (w : World) : (Instr.index 218 (.agg #[.int .u8 123, .int .i64 4, .int .u8 125, .int .i64 5, .int .u8 61, .int .i64 6, .int .u8 59, .int .i64 7, .int .u8 58, .int .i64 8]) (.int .i64 4)).run Tryz.prog w = .ok (.agg #[.int .u8 58, .int .i64 8]) w := by kernel_rfl

set_option maxHeartbeats 8000000 in
theorem spellk_n (k o l c : Int) (w : World) (h0 : k ≠ 0) (h1 : k ≠ 1) (h2 : k ≠ 2) (h3 : k ≠ 3) : Calls Tryz.prog 97 #[tokV k o l c ⟨#[]⟩ 0 false] w (SpellPost k ⟨#[]⟩ 0 false w) := by
  have HS := Lib.hid (marks_spell k h0 h1 h2 h3)
  obtain ⟨q0, q1, q2, q3, n1, n2, n3⟩ := kinds k h0 h1 h2 h3
  unfold tokV tokCells
  go_enter Tryz.func97, Tryz.ntmps97
  go_wp2_with (first
    | (go_at_call 132; refine (marks_calls _).mono ?_; rintro e w1 ⟨rfl, hB1⟩; have I0 : Hid (MI k w w1) := Lib.hid ⟨cell_new hB1 rfl, (by have := hB1.size; simp at this; omega), (alloc_below _ _).trans (hB1.mono (by simp))⟩; clear hB1))
  clear q0 q1 q2 q3 n1 n2 n3
  unfold marksV
  refine wp_loop_rounds 6 ?_
  rw [rounds_succ]
  have x0 := idx_mark0
  by_cases k0 : k = 4
  · have HK := Lib.hid k0
    subst k0
    go_wp2_with (first
      | (refine run_event rfl (.alloc 217) rfl (.pointer (some ⟨w1.heap.size, 0, none⟩)) (w1.alloc (.cells #[.int .u8 0, .int .i64 0] 217)) (by kernel_rfl) ?_; intro a0 ha0; have A0 := Lib.hid (I0.out.alloc_eq ha0); have G0 : Hid (a0.heap[w1.heap.size]? = some (.cells #[.int .u8 0, .int .i64 0] 217 (0, 0))) := Lib.hid (by rw [ha0]; exact heap_alloc_new _ _); clear ha0)
      | ((with_reducible refine gate_store (t := 217) (p := 5) rfl ?_); (refine put_event rfl 217 _ _ rfl w1.heap.size #[.int .u8 123, .int .i64 4] rfl rfl 217 #[.int .u8 0, .int .i64 0] G0.out (by kernel_rfl) rfl (two_all _ _) w1.heap.size (Nat.le_refl _) ?_; intro b0 hb0 hB0 hs0 ho0; have I1 : Hid (MI 4 w b0) := Lib.hid (MI.put A0.out I0.out.lt hB0); have c0 : b0.cell? ⟨w1.heap.size, 1, none⟩ = some (.int .i64 4) := (cell_row hb0 1).trans rfl; have d0 : b0.cell? ⟨w1.heap.size, 0, none⟩ = some (.int .u8 123) := (cell_row hb0 0).trans rfl; have e0 : b0.cell? ⟨w.heap.size, 0, none⟩ = some (.int .i64 4) := I1.out.cell; clear hb0 hB0 hs0 ho0))
      | (refine run_event rfl (.buildSlice 95 1 _) rfl (.slice (some ⟨b0.heap.size, 0, none⟩) 1 1) (b0.alloc (.cells #[.int .u8 123] 5)) (by kernel_rfl) ?_; intro s0 hs0; have hv0 := one_byte hs0; have S0 := Lib.hid (I1.out.alloc_eq hs0); clear hs0))
    (refine bodyPost_ret (results_list (rs := [.tmp 2, .tmp 3]) rfl (by simp) (.tmp (.tmp .nil))) rfl ?_)
    exact spell_some S0.out.bel (HS.out.trans (if_pos (by omega))) rfl
  · have p0 : ((4 : Int) == k) = false := beq_eq_false_iff_ne.2 (fun e => k0 e.symm)
    go_wp2_with (first
      | (refine run_event rfl (.alloc 217) rfl (.pointer (some ⟨w1.heap.size, 0, none⟩)) (w1.alloc (.cells #[.int .u8 0, .int .i64 0] 217)) (by kernel_rfl) ?_; intro a0 ha0; have A0 := Lib.hid (I0.out.alloc_eq ha0); have G0 : Hid (a0.heap[w1.heap.size]? = some (.cells #[.int .u8 0, .int .i64 0] 217 (0, 0))) := Lib.hid (by rw [ha0]; exact heap_alloc_new _ _); clear ha0)
      | ((with_reducible refine gate_store (t := 217) (p := 5) rfl ?_); (refine put_event rfl 217 _ _ rfl w1.heap.size #[.int .u8 123, .int .i64 4] rfl rfl 217 #[.int .u8 0, .int .i64 0] G0.out (by kernel_rfl) rfl (two_all _ _) w1.heap.size (Nat.le_refl _) ?_; intro b0 hb0 hB0 hs0 ho0; have I1 : Hid (MI k w b0) := Lib.hid (MI.put A0.out I0.out.lt hB0); have c0 : b0.cell? ⟨w1.heap.size, 1, none⟩ = some (.int .i64 4) := (cell_row hb0 1).trans rfl; have d0 : b0.cell? ⟨w1.heap.size, 0, none⟩ = some (.int .u8 123) := (cell_row hb0 0).trans rfl; have e0 : b0.cell? ⟨w.heap.size, 0, none⟩ = some (.int .i64 k) := I1.out.cell; clear hb0 hB0 hs0 ho0)))
    rw [rounds_succ]
    have x1 := idx_mark1
    by_cases k1 : k = 5
    · have HK := Lib.hid k1
      subst k1
      go_wp2_with (first
        | (refine run_event rfl (.alloc 217) rfl (.pointer (some ⟨b0.heap.size, 0, none⟩)) (b0.alloc (.cells #[.int .u8 0, .int .i64 0] 217)) (by kernel_rfl) ?_; intro a1 ha1; have A1 := Lib.hid (I1.out.alloc_eq ha1); have G1 : Hid (a1.heap[b0.heap.size]? = some (.cells #[.int .u8 0, .int .i64 0] 217 (0, 0))) := Lib.hid (by rw [ha1]; exact heap_alloc_new _ _); clear ha1)
        | ((with_reducible refine gate_store (t := 217) (p := 5) rfl ?_); (refine put_event rfl 217 _ _ rfl b0.heap.size #[.int .u8 125, .int .i64 5] rfl rfl 217 #[.int .u8 0, .int .i64 0] G1.out (by kernel_rfl) rfl (two_all _ _) b0.heap.size (Nat.le_refl _) ?_; intro b1 hb1 hB1 hs1 ho1; have I2 : Hid (MI 5 w b1) := Lib.hid (MI.put A1.out I1.out.lt hB1); have c1 : b1.cell? ⟨b0.heap.size, 1, none⟩ = some (.int .i64 5) := (cell_row hb1 1).trans rfl; have d1 : b1.cell? ⟨b0.heap.size, 0, none⟩ = some (.int .u8 125) := (cell_row hb1 0).trans rfl; have e1 : b1.cell? ⟨w.heap.size, 0, none⟩ = some (.int .i64 5) := I2.out.cell; clear hb1 hB1 hs1 ho1))
        | (refine run_event rfl (.buildSlice 95 1 _) rfl (.slice (some ⟨b1.heap.size, 0, none⟩) 1 1) (b1.alloc (.cells #[.int .u8 125] 5)) (by kernel_rfl) ?_; intro s1 hs1; have hv1 := one_byte hs1; have S1 := Lib.hid (I2.out.alloc_eq hs1); clear hs1))
      (refine bodyPost_ret (results_list (rs := [.tmp 2, .tmp 3]) rfl (by simp) (.tmp (.tmp .nil))) rfl ?_)
      exact spell_some S1.out.bel (HS.out.trans (if_pos (by omega))) rfl
    · have p1 : ((5 : Int) == k) = false := beq_eq_false_iff_ne.2 (fun e => k1 e.symm)
      go_wp2_with (first
        | (refine run_event rfl (.alloc 217) rfl (.pointer (some ⟨b0.heap.size, 0, none⟩)) (b0.alloc (.cells #[.int .u8 0, .int .i64 0] 217)) (by kernel_rfl) ?_; intro a1 ha1; have A1 := Lib.hid (I1.out.alloc_eq ha1); have G1 : Hid (a1.heap[b0.heap.size]? = some (.cells #[.int .u8 0, .int .i64 0] 217 (0, 0))) := Lib.hid (by rw [ha1]; exact heap_alloc_new _ _); clear ha1)
        | ((with_reducible refine gate_store (t := 217) (p := 5) rfl ?_); (refine put_event rfl 217 _ _ rfl b0.heap.size #[.int .u8 125, .int .i64 5] rfl rfl 217 #[.int .u8 0, .int .i64 0] G1.out (by kernel_rfl) rfl (two_all _ _) b0.heap.size (Nat.le_refl _) ?_; intro b1 hb1 hB1 hs1 ho1; have I2 : Hid (MI k w b1) := Lib.hid (MI.put A1.out I1.out.lt hB1); have c1 : b1.cell? ⟨b0.heap.size, 1, none⟩ = some (.int .i64 5) := (cell_row hb1 1).trans rfl; have d1 : b1.cell? ⟨b0.heap.size, 0, none⟩ = some (.int .u8 125) := (cell_row hb1 0).trans rfl; have e1 : b1.cell? ⟨w.heap.size, 0, none⟩ = some (.int .i64 k) := I2.out.cell; clear hb1 hB1 hs1 ho1)))
      rw [rounds_succ]
      have x2 := idx_mark2
      by_cases k2 : k = 6
      · have HK := Lib.hid k2
        subst k2
        go_wp2_with (first
          | (refine run_event rfl (.alloc 217) rfl (.pointer (some ⟨b1.heap.size, 0, none⟩)) (b1.alloc (.cells #[.int .u8 0, .int .i64 0] 217)) (by kernel_rfl) ?_; intro a2 ha2; have A2 := Lib.hid (I2.out.alloc_eq ha2); have G2 : Hid (a2.heap[b1.heap.size]? = some (.cells #[.int .u8 0, .int .i64 0] 217 (0, 0))) := Lib.hid (by rw [ha2]; exact heap_alloc_new _ _); clear ha2)
          | ((with_reducible refine gate_store (t := 217) (p := 5) rfl ?_); (refine put_event rfl 217 _ _ rfl b1.heap.size #[.int .u8 61, .int .i64 6] rfl rfl 217 #[.int .u8 0, .int .i64 0] G2.out (by kernel_rfl) rfl (two_all _ _) b1.heap.size (Nat.le_refl _) ?_; intro b2 hb2 hB2 hs2 ho2; have I3 : Hid (MI 6 w b2) := Lib.hid (MI.put A2.out I2.out.lt hB2); have c2 : b2.cell? ⟨b1.heap.size, 1, none⟩ = some (.int .i64 6) := (cell_row hb2 1).trans rfl; have d2 : b2.cell? ⟨b1.heap.size, 0, none⟩ = some (.int .u8 61) := (cell_row hb2 0).trans rfl; have e2 : b2.cell? ⟨w.heap.size, 0, none⟩ = some (.int .i64 6) := I3.out.cell; clear hb2 hB2 hs2 ho2))
          | (refine run_event rfl (.buildSlice 95 1 _) rfl (.slice (some ⟨b2.heap.size, 0, none⟩) 1 1) (b2.alloc (.cells #[.int .u8 61] 5)) (by kernel_rfl) ?_; intro s2 hs2; have hv2 := one_byte hs2; have S2 := Lib.hid (I3.out.alloc_eq hs2); clear hs2))
        (refine bodyPost_ret (results_list (rs := [.tmp 2, .tmp 3]) rfl (by simp) (.tmp (.tmp .nil))) rfl ?_)
        exact spell_some S2.out.bel (HS.out.trans (if_pos (by omega))) rfl
      · have p2 : ((6 : Int) == k) = false := beq_eq_false_iff_ne.2 (fun e => k2 e.symm)
        go_wp2_with (first
          | (refine run_event rfl (.alloc 217) rfl (.pointer (some ⟨b1.heap.size, 0, none⟩)) (b1.alloc (.cells #[.int .u8 0, .int .i64 0] 217)) (by kernel_rfl) ?_; intro a2 ha2; have A2 := Lib.hid (I2.out.alloc_eq ha2); have G2 : Hid (a2.heap[b1.heap.size]? = some (.cells #[.int .u8 0, .int .i64 0] 217 (0, 0))) := Lib.hid (by rw [ha2]; exact heap_alloc_new _ _); clear ha2)
          | ((with_reducible refine gate_store (t := 217) (p := 5) rfl ?_); (refine put_event rfl 217 _ _ rfl b1.heap.size #[.int .u8 61, .int .i64 6] rfl rfl 217 #[.int .u8 0, .int .i64 0] G2.out (by kernel_rfl) rfl (two_all _ _) b1.heap.size (Nat.le_refl _) ?_; intro b2 hb2 hB2 hs2 ho2; have I3 : Hid (MI k w b2) := Lib.hid (MI.put A2.out I2.out.lt hB2); have c2 : b2.cell? ⟨b1.heap.size, 1, none⟩ = some (.int .i64 6) := (cell_row hb2 1).trans rfl; have d2 : b2.cell? ⟨b1.heap.size, 0, none⟩ = some (.int .u8 61) := (cell_row hb2 0).trans rfl; have e2 : b2.cell? ⟨w.heap.size, 0, none⟩ = some (.int .i64 k) := I3.out.cell; clear hb2 hB2 hs2 ho2)))
        rw [rounds_succ]
        have x3 := idx_mark3
        by_cases k3 : k = 7
        · have HK := Lib.hid k3
          subst k3
          go_wp2_with (first
            | (refine run_event rfl (.alloc 217) rfl (.pointer (some ⟨b2.heap.size, 0, none⟩)) (b2.alloc (.cells #[.int .u8 0, .int .i64 0] 217)) (by kernel_rfl) ?_; intro a3 ha3; have A3 := Lib.hid (I3.out.alloc_eq ha3); have G3 : Hid (a3.heap[b2.heap.size]? = some (.cells #[.int .u8 0, .int .i64 0] 217 (0, 0))) := Lib.hid (by rw [ha3]; exact heap_alloc_new _ _); clear ha3)
            | ((with_reducible refine gate_store (t := 217) (p := 5) rfl ?_); (refine put_event rfl 217 _ _ rfl b2.heap.size #[.int .u8 59, .int .i64 7] rfl rfl 217 #[.int .u8 0, .int .i64 0] G3.out (by kernel_rfl) rfl (two_all _ _) b2.heap.size (Nat.le_refl _) ?_; intro b3 hb3 hB3 hs3 ho3; have I4 : Hid (MI 7 w b3) := Lib.hid (MI.put A3.out I3.out.lt hB3); have c3 : b3.cell? ⟨b2.heap.size, 1, none⟩ = some (.int .i64 7) := (cell_row hb3 1).trans rfl; have d3 : b3.cell? ⟨b2.heap.size, 0, none⟩ = some (.int .u8 59) := (cell_row hb3 0).trans rfl; have e3 : b3.cell? ⟨w.heap.size, 0, none⟩ = some (.int .i64 7) := I4.out.cell; clear hb3 hB3 hs3 ho3))
            | (refine run_event rfl (.buildSlice 95 1 _) rfl (.slice (some ⟨b3.heap.size, 0, none⟩) 1 1) (b3.alloc (.cells #[.int .u8 59] 5)) (by kernel_rfl) ?_; intro s3 hs3; have hv3 := one_byte hs3; have S3 := Lib.hid (I4.out.alloc_eq hs3); clear hs3))
          (refine bodyPost_ret (results_list (rs := [.tmp 2, .tmp 3]) rfl (by simp) (.tmp (.tmp .nil))) rfl ?_)
          exact spell_some S3.out.bel (HS.out.trans (if_pos (by omega))) rfl
        · have p3 : ((7 : Int) == k) = false := beq_eq_false_iff_ne.2 (fun e => k3 e.symm)
          go_wp2_with (first
            | (refine run_event rfl (.alloc 217) rfl (.pointer (some ⟨b2.heap.size, 0, none⟩)) (b2.alloc (.cells #[.int .u8 0, .int .i64 0] 217)) (by kernel_rfl) ?_; intro a3 ha3; have A3 := Lib.hid (I3.out.alloc_eq ha3); have G3 : Hid (a3.heap[b2.heap.size]? = some (.cells #[.int .u8 0, .int .i64 0] 217 (0, 0))) := Lib.hid (by rw [ha3]; exact heap_alloc_new _ _); clear ha3)
            | ((with_reducible refine gate_store (t := 217) (p := 5) rfl ?_); (refine put_event rfl 217 _ _ rfl b2.heap.size #[.int .u8 59, .int .i64 7] rfl rfl 217 #[.int .u8 0, .int .i64 0] G3.out (by kernel_rfl) rfl (two_all _ _) b2.heap.size (Nat.le_refl _) ?_; intro b3 hb3 hB3 hs3 ho3; have I4 : Hid (MI k w b3) := Lib.hid (MI.put A3.out I3.out.lt hB3); have c3 : b3.cell? ⟨b2.heap.size, 1, none⟩ = some (.int .i64 7) := (cell_row hb3 1).trans rfl; have d3 : b3.cell? ⟨b2.heap.size, 0, none⟩ = some (.int .u8 59) := (cell_row hb3 0).trans rfl; have e3 : b3.cell? ⟨w.heap.size, 0, none⟩ = some (.int .i64 k) := I4.out.cell; clear hb3 hB3 hs3 ho3)))
          rw [rounds_succ]
          have x4 := idx_mark4
          by_cases k4 : k = 8
          · have HK := Lib.hid k4
            subst k4
            go_wp2_with (first
              | (refine run_event rfl (.alloc 217) rfl (.pointer (some ⟨b3.heap.size, 0, none⟩)) (b3.alloc (.cells #[.int .u8 0, .int .i64 0] 217)) (by kernel_rfl) ?_; intro a4 ha4; have A4 := Lib.hid (I4.out.alloc_eq ha4); have G4 : Hid (a4.heap[b3.heap.size]? = some (.cells #[.int .u8 0, .int .i64 0] 217 (0, 0))) := Lib.hid (by rw [ha4]; exact heap_alloc_new _ _); clear ha4)
              | ((with_reducible refine gate_store (t := 217) (p := 5) rfl ?_); (refine put_event rfl 217 _ _ rfl b3.heap.size #[.int .u8 58, .int .i64 8] rfl rfl 217 #[.int .u8 0, .int .i64 0] G4.out (by kernel_rfl) rfl (two_all _ _) b3.heap.size (Nat.le_refl _) ?_; intro b4 hb4 hB4 hs4 ho4; have I5 : Hid (MI 8 w b4) := Lib.hid (MI.put A4.out I4.out.lt hB4); have c4 : b4.cell? ⟨b3.heap.size, 1, none⟩ = some (.int .i64 8) := (cell_row hb4 1).trans rfl; have d4 : b4.cell? ⟨b3.heap.size, 0, none⟩ = some (.int .u8 58) := (cell_row hb4 0).trans rfl; have e4 : b4.cell? ⟨w.heap.size, 0, none⟩ = some (.int .i64 8) := I5.out.cell; clear hb4 hB4 hs4 ho4))
              | (refine run_event rfl (.buildSlice 95 1 _) rfl (.slice (some ⟨b4.heap.size, 0, none⟩) 1 1) (b4.alloc (.cells #[.int .u8 58] 5)) (by kernel_rfl) ?_; intro s4 hs4; have hv4 := one_byte hs4; have S4 := Lib.hid (I5.out.alloc_eq hs4); clear hs4))
            (refine bodyPost_ret (results_list (rs := [.tmp 2, .tmp 3]) rfl (by simp) (.tmp (.tmp .nil))) rfl ?_)
            exact spell_some S4.out.bel (HS.out.trans (if_pos (by omega))) rfl
          · have p4 : ((8 : Int) == k) = false := beq_eq_false_iff_ne.2 (fun e => k4 e.symm)
            go_wp2_with (first
              | (refine run_event rfl (.alloc 217) rfl (.pointer (some ⟨b3.heap.size, 0, none⟩)) (b3.alloc (.cells #[.int .u8 0, .int .i64 0] 217)) (by kernel_rfl) ?_; intro a4 ha4; have A4 := Lib.hid (I4.out.alloc_eq ha4); have G4 : Hid (a4.heap[b3.heap.size]? = some (.cells #[.int .u8 0, .int .i64 0] 217 (0, 0))) := Lib.hid (by rw [ha4]; exact heap_alloc_new _ _); clear ha4)
              | ((with_reducible refine gate_store (t := 217) (p := 5) rfl ?_); (refine put_event rfl 217 _ _ rfl b3.heap.size #[.int .u8 58, .int .i64 8] rfl rfl 217 #[.int .u8 0, .int .i64 0] G4.out (by kernel_rfl) rfl (two_all _ _) b3.heap.size (Nat.le_refl _) ?_; intro b4 hb4 hB4 hs4 ho4; have I5 : Hid (MI k w b4) := Lib.hid (MI.put A4.out I4.out.lt hB4); have c4 : b4.cell? ⟨b3.heap.size, 1, none⟩ = some (.int .i64 8) := (cell_row hb4 1).trans rfl; have d4 : b4.cell? ⟨b3.heap.size, 0, none⟩ = some (.int .u8 58) := (cell_row hb4 0).trans rfl; have e4 : b4.cell? ⟨w.heap.size, 0, none⟩ = some (.int .i64 k) := I5.out.cell; clear hb4 hB4 hs4 ho4)))
            rw [rounds_succ]
            go_wp2_with fail
            (refine bodyPost_ret (results_list (rs := [.tmp 2, .tmp 3]) rfl (by simp) (.tmp (.tmp .nil))) rfl ?_)
            exact spell_none I5.out.bel (HS.out.trans (if_neg (by omega)))

theorem str_nil (t : ByteArray) (h : t.data.toList = []) : t = ⟨#[]⟩ := by
  cases t with
  | mk d => congr 1; exact Array.toList_inj.1 (by simpa using h)
theorem spell_calls (k o l c : Int) (t : ByteArray) (v : Nat) (h : Bool) (w : World) (hv : v < 4294967296) (hG : Glob w) :
    Calls Tryz.prog 97 #[tokV k o l c t v h] w (SpellPost k t v h w) := by
  by_cases k2 : k = 2
  · subst k2
    by_cases ht : t.data.toList = []
    · obtain rfl := str_nil t ht
      cases h with
      | true => exact spell2_x o l c v w hv hG
      | false => exact spell2_d o l c v w hv hG
    · exact spell2_t o l c t v h w ht
  by_cases v0 : v = 0
  · subst v0
    cases h with
    | true =>
      by_cases k0 : k = 0
      · subst k0; exact spell0_h o l c t w
      by_cases k1 : k = 1
      · subst k1; exact spell1_h o l c t w
      by_cases k3 : k = 3
      · subst k3; exact spell3_h o l c t w
      exact spellk_h k o l c t w k0 k1 k2 k3
    | false =>
      by_cases k1 : k = 1
      · subst k1; exact spell1_n o l c t w
      by_cases k3 : k = 3
      · subst k3
        by_cases hl : 255 < t.size
        · exact spell3_l o l c t w hl
        · cases hp : plainS t with
          | true => exact spell3_n o l c t w (by omega) hp
          | false => exact spell3_p o l c t w (by omega) hp
      by_cases ht : t.data.toList = []
      · obtain rfl := str_nil t ht
        by_cases k0 : k = 0
        · subst k0; exact spell0_n o l c w
        exact spellk_n k o l c w k0 k1 k2 k3
      · by_cases k0 : k = 0
        · subst k0; exact spell0_t o l c t w ht
        exact spellk_t k o l c t w k0 k1 k2 k3 ht
  · by_cases k0 : k = 0
    · subst k0; exact spell0_v o l c t v h w v0
    by_cases k1 : k = 1
    · subst k1; exact spell1_v o l c t v h w v0
    by_cases k3 : k = 3
    · subst k3; exact spell3_v o l c t v h w v0
    exact spellk_v k o l c t v h w k0 k1 k2 k3 v0
end Go.Proofs.YtmfejjlmflgnbaaGreatDoor.Tok

/- CONTRACT: package token's scan: all tokens of a text, with their spots, or the first fault. -/
import Derived.Test.YtpecmmicndcgjaaGreatDoorOne
import Derived.Test.YtpecmmicndcgjaaGreatDoorAt
import Derived.Test.YtpecmmicndcgjaaGreatDoorTok2
import Derived.Test.YtpecmmicndcgjaaGreatDoorLawC
namespace Go.Proofs.YtpecmmicndcgjaaGreatDoor.Tok
open Go.RowKit Go.Proofs.YtpecmmicndcgjaaGreatDoor.PA Go.Proofs.YtpecmmicndcgjaaGreatDoorW.PrintWords Go.Proofs.YtpecmmicndcgjaaGreatDoorW.PrintLast Go.Proofs.YtpecmmicndcgjaaGreatDoor.Sp
set_option linter.unusedVariables false
set_option linter.unusedSimpArgs false
set_option maxRecDepth 100000

def atCells (t : Bs) (p : Tok × Nat) : Array Value := tokCells p.1.kind p.2 ((spotT t p.2).1 : Nat) ((spotT t p.2).2 : Nat) ⟨p.1.text.toArray⟩ p.1.val p.1.hex
def cellsL (t : Bs) (l : List (Tok × Nat)) : List Value := (l.map fun p => (atCells t p).toList).flatten
theorem cellsL_snoc (t : Bs) (l : List (Tok × Nat)) (p : Tok × Nat) : cellsL t (l ++ [p]) = cellsL t l ++ (atCells t p).toList := by simp [cellsL]
def prep (L : List (Tok × Nat)) : Except (Nat × Nat) (List (Tok × Nat)) → Except (Nat × Nat) (List (Tok × Nat))
  | .ok l => .ok (L ++ l)
  | .error e => .error e
/-- What stands in scan's round: the tokens so far (L), the place (i), the walker (at m). -/
structure SI (text : ByteArray) (w w1 : World) (g : Nat) (i : Nat) (v : Value) (L : List (Tok × Nat)) (m : Nat) (wr : World) : Prop where
  hm : m ≤ i
  hi : i ≤ text.size
  hL : L.length ≤ i
  own : wr.ownsRow w1.heap.size 34 7 v L.length (cellsL text.data.toList L)
  walk : wr.heap[g]? = some (.cells (walkC text m) walkT (0, 0))
  bel : Below w.heap.size w wr
  big : w1.heap.size ≤ wr.heap.size
  gl : g < w1.heap.size
  gw : w.heap.size ≤ g
  says : scanF (text.size + 1) text.data.toList 0 = prep L (scanF (text.size + 1 - L.length) text.data.toList i)
theorem SI.start {text : ByteArray} {w w1 : World} {g : Nat} (hg : w.heap.size ≤ g) (hB : Below w.heap.size w w1) (hw : w1.heap[g]? = some (.cells (walkC text 0) walkT (0, 0))) : SI text w w1 g 0 (.slice none 0 0) [] 0 w1 :=
  ⟨Nat.le_refl _, Nat.zero_le _, Nat.le_refl _, World.ownsRow_nil _ _ _ _, hw, hB, Nat.le_refl _, (Array.getElem?_eq_some_iff.1 hw).1, hg, by
    simp only [List.length_nil, Nat.sub_zero]
    cases scanF (text.size + 1) text.data.toList 0 <;> rfl⟩
theorem SI.below {text : ByteArray} {w w1 : World} {g i : Nat} {v : Value} {L : List (Tok × Nat)} {m : Nat} {wr w2 : World} (I : SI text w w1 g i v L m wr) (hB : Below wr.heap.size wr w2) : SI text w w1 g i v L m w2 :=
  { I with
    own := pw_own_below I.own hB
    walk := (hB.block _ (by have := I.gl; have := I.big; omega)).trans I.walk
    bel := I.bel.trans (hB.mono I.bel.size)
    big := Nat.le_trans I.big hB.size }
/-- The walker goes on to k. -/
theorem SI.to {text : ByteArray} {w w1 : World} {g i : Nat} {v : Value} {L : List (Tok × Nat)} {m k : Nat} {wr w2 : World} (I : SI text w w1 g i v L m wr) (hg : wr.grownBy w2 (some g)) (hw : w2.heap[g]? = some (.cells (walkC text k) walkT (0, 0))) :
    w2.ownsRow w1.heap.size 34 7 v L.length (cellsL text.data.toList L) ∧ Below w.heap.size w w2 ∧ w1.heap.size ≤ w2.heap.size := by
  refine ⟨I.own.kept hg ?_, I.bel.trans (below_of_grown hg I.gw I.bel.size), Nat.le_trans I.big hg.size⟩
  cases hv : v.ownBlock with
  | none => exact .inl rfl
  | some b =>
    refine .inr fun e => ?_
    injection e with e
    have := (I.own.lt b hv).1
    have := I.gl
    omega
theorem scan_open {text : ByteArray} {w w1 : World} {g i : Nat} {v : Value} {L : List (Tok × Nat)} {m : Nat} {wr : World} (I : SI text w w1 g i v L m wr) {n : Nat} (hg : gap 0 0 i (text.data.toList.drop i) = .open_ n) : scanF (text.size + 1) text.data.toList 0 = .error (23, n) := by
  rw [I.says]
  obtain ⟨f, hf⟩ : ∃ f, text.size + 1 - L.length = f + 1 := ⟨text.size - L.length, by have := I.hL; have := I.hi; omega⟩
  rw [hf, scanF_succ, hg]
  rfl
theorem size_len (text : ByteArray) : text.data.toList.length = text.size := by rw [Array.length_toList]; rfl
theorem scan_end {text : ByteArray} {w w1 : World} {g i : Nat} {v : Value} {L : List (Tok × Nat)} {m : Nat} {wr : World} (I : SI text w w1 g i v L m wr) {n : Nat} (hg : gap 0 0 i (text.data.toList.drop i) = .ends n) (hn : n = text.size) : scanF (text.size + 1) text.data.toList 0 = .ok (L ++ [(endT, n)]) := by
  rw [I.says]
  obtain ⟨f, hf⟩ : ∃ f, text.size + 1 - L.length = f + 1 := ⟨text.size - L.length, by have := I.hL; have := I.hi; omega⟩
  rw [hf, scanF_succ, hg]
  simp only
  rw [if_pos (by rw [size_len]; exact hn)]
  rfl
theorem scan_bad {text : ByteArray} {w w1 : World} {g i : Nat} {v : Value} {L : List (Tok × Nat)} {m : Nat} {wr : World} (I : SI text w w1 g i v L m wr) {n c k : Nat} (hg : gap 0 0 i (text.data.toList.drop i) = .ends n) (hn : n < text.size) (ht : tok1 (text.data.toList.drop n) = .error (c, k)) : scanF (text.size + 1) text.data.toList 0 = .error (c, n + k) := by
  rw [I.says]
  obtain ⟨f, hf⟩ : ∃ f, text.size + 1 - L.length = f + 1 := ⟨text.size - L.length, by have := I.hL; have := I.hi; omega⟩
  rw [hf, scanF_succ, hg]
  simp only
  rw [if_neg (by rw [size_len]; omega), ht]
  rfl
theorem scan_next {text : ByteArray} {w w1 : World} {g i : Nat} {v : Value} {L : List (Tok × Nat)} {m : Nat} {wr : World} (I : SI text w w1 g i v L m wr) {n k : Nat} {x : Tok} (hg : gap 0 0 i (text.data.toList.drop i) = .ends n) (hn : n < text.size) (ht : tok1 (text.data.toList.drop n) = .ok (x, k)) :
    scanF (text.size + 1) text.data.toList 0 = prep (L ++ [(x, n)]) (scanF (text.size + 1 - (L ++ [(x, n)]).length) text.data.toList (n + k)) := by
  rw [I.says]
  obtain ⟨f, hf⟩ : ∃ f, text.size + 1 - L.length = f + 1 := ⟨text.size - L.length, by have := I.hL; have := I.hi; omega⟩
  have hf2 : text.size + 1 - (L ++ [(x, n)]).length = f := by simp; omega
  rw [hf, hf2, scanF_succ, hg]
  simp only
  rw [if_neg (by rw [size_len]; omega), ht]
  simp only
  cases scanF f text.data.toList (n + k) with
  | error e => rfl
  | ok l => simp [prep]
/-- A spot stored into a token's block. -/
theorem spot_event {ops : Array Oper} {rest : List Oper} {o : Oper} {a : Act} {w : World} {Q : Exit → Act → World → Prop} (hgd : o.guard = none) (x y : Operand) (ho : o.op = .store 25 x y)
    (g : Nat) (k o0 l0 c0 o1 l1 c1 : Int) (t : ByteArray) (v : Int) (h : Bool) (hx : a.eval x = .pointer (some ⟨g, 1, none⟩)) (hy : a.eval y = .agg #[.int .i64 o1, .int .i64 l1, .int .i64 c1])
    (hg : w.heap[g]? = some (.cells (tokCells k o0 l0 c0 t v h) 34 (0, 0)))
    (hk : ∀ w1, w1.heap[g]? = some (.cells (tokCells k o1 l1 c1 t v h) 34 (0, 0)) → w.grownBy w1 (some g) → wpList Tryz.prog ops Q rest (a.put o.dst undef) w1) : wpList Tryz.prog ops Q (o :: rest) a w := by
  have hrow : ∀ j, j < 3 → (w.cell? ⟨g, 1 + j, none⟩).isSome = true ∧ w.frozen? ⟨g, 1 + j, none⟩ = false := fun j hj => by
    refine ⟨?_, frozen_row hg _⟩
    rw [cell_row hg]
    have : 1 + j < (tokCells k o0 l0 c0 t v h).size := by simp [tokCells]; omega
    simp [this]
  refine wpList_plain hgd fun K hK => ?_
  unfold Oper.wp execOp
  have hrun : (storeVar 25 ⟨g, 1, none⟩ (.agg #[.int .i64 o1, .int .i64 l1, .int .i64 c1])).run Tryz.prog w = .ok () (((w.setCell ⟨g, 1, none⟩ (.int .i64 o1)).setCell ⟨g, 2, none⟩ (.int .i64 l1)).setCell ⟨g, 3, none⟩ (.int .i64 c1)) := by
    have := run_storeCells_cells (P := Tryz.prog) g 1 [.int .i64 o1, .int .i64 l1, .int .i64 c1] 0 w (fun j hj => by simpa using (hrow j (by simpa using hj)).1) (fun j hj => by simpa using (hrow j (by simpa using hj)).2) (fun x hx => by simp at hx; rcases hx with rfl | rfl | rfl <;> rfl)
    have hi : (Tryz.prog.info? 25).map (·.size) = some 3 := by kernel_rfl
    cases hq : Tryz.prog.info? 25 with
    | none => simp [hq] at hi
    | some i =>
      have hs : i.size = 3 := by simpa [hq] using hi
      simp only [Nat.add_zero] at this
      simp [storeVar, sizeOf, typeInfo, hq, Value.cells, hs, this, World.setCells]
  simp only [ho, hx, hy, Instr.storeAt, Instr.sureAddr, Sem.run_bind, Sem.run_pure, Result.andThen_ok, hrun]
  have h1 := setCell_row (k := 1) hg (.int .i64 o1)
  have h2 := setCell_row (k := 2) h1 (.int .i64 l1)
  have h3 := setCell_row (k := 3) h2 (.int .i64 c1)
  exact hK _ _ (hk _ h3 (((setCell_grown _ _ _ _).trans (setCell_grown _ _ _ _)).trans (setCell_grown _ _ _ _)))
/-- What stands when the token is put down. -/
structure S9 (text : ByteArray) (w w1 : World) (g : Nat) (v : Value) (L : List (Tok × Nat)) (n : Nat) (w9 : World) : Prop where
  own : w9.ownsRow w1.heap.size 34 7 v L.length (cellsL text.data.toList L)
  walk : w9.heap[g]? = some (.cells (walkC text n) walkT (0, 0))
  bel : Below w.heap.size w w9
  big : w1.heap.size ≤ w9.heap.size
theorem h8_put {text : ByteArray} {w w1 : World} {g i : Nat} {v : Value} {L : List (Tok × Nat)} {m n : Nat} {w2 w8 w9 : World} (I : SI text w w1 g i v L m w2) (H : w8.ownsRow w1.heap.size 34 7 v L.length (cellsL text.data.toList L) ∧ Below w.heap.size w w8 ∧ w1.heap.size ≤ w8.heap.size) (K : w8.heap[g]? = some (.cells (walkC text n) walkT (0, 0))) (hg : w8.grownBy w9 (some w2.heap.size)) : S9 text w w1 g v L n w9 := by
  have hlt := I.gl
  have hbig := I.big
  refine ⟨H.1.kept hg ?_, (hg.block g (Array.getElem?_eq_some_iff.1 K).1 (fun e => by injection e with e; omega)).trans K, H.2.1.trans (below_of_grown hg (by have := I.bel.size; omega) H.2.1.size), Nat.le_trans H.2.2 hg.size⟩
  cases hv : v.ownBlock with
  | none => exact .inl rfl
  | some b =>
    refine .inr fun e => ?_
    injection e with e
    have := (I.own.lt b hv).2
    omega
theorem si_next {text : ByteArray} {w w1 : World} {g i : Nat} {v v3 : Value} {L : List (Tok × Nat)} {m n k : Nat} {x : Tok} {wr w9 w3 : World} (I : SI text w w1 g i v L m wr) (S : S9 text w w1 g v L n w9) (hk1 : n + k ≤ text.size) (hk2 : n < n + k) (hin : i ≤ n)
    (hX : scanF (text.size + 1) text.data.toList 0 = prep (L ++ [(x, n)]) (scanF (text.size + 1 - (L ++ [(x, n)]).length) text.data.toList (n + k)))
    (hB : Below w1.heap.size w9 w3) (ho : w3.ownsRow w1.heap.size 34 7 v3 (L.length + 1) (cellsL text.data.toList L ++ (atCells text.data.toList (x, n)).toList)) : SI text w w1 g (n + k) v3 (L ++ [(x, n)]) n w3 := by
  have hL := I.hL
  refine ⟨by omega, hk1, by simp; omega, ?_, (hB.block g I.gl).trans S.walk, S.bel.trans (hB.mono (Nat.le_trans I.gw (Nat.le_of_lt I.gl))), Nat.le_trans S.big hB.size, I.gl, I.gw, hX⟩
  rw [cellsL_snoc, List.length_append]
  exact ho
theorem own_base_le {w : World} {b b2 : Nat} {e : TypeId} {sz : Nat} {v : Value} {n : Nat} {xs : List Value} (h : w.ownsRow b e sz v n xs) (hb : b2 ≤ b) : w.ownsRow b2 e sz v n xs := by
  refine ⟨h.1, ?_⟩
  rcases h.2 with h1 | ⟨g, cap, cur, h2, h3, h4⟩
  · exact .inl h1
  · exact .inr ⟨g, cap, cur, h2, Nat.le_trans hb h3, h4⟩
def ScanPost (text : ByteArray) (w : World) (e : Ending) (w' : World) : Prop :=
  Below w.heap.size w w' ∧ match scanT text.data.toList with
    | .ok l => ∃ v, e = .returned (.tuple #[v, .nilIface]) ∧ w'.ownsRow w.heap.size 34 7 v l.length (cellsL text.data.toList l)
    | .error (c, p) => ∃ b, e = .returned (.tuple #[.slice none 0 0, errV b]) ∧ w.heap.size ≤ b ∧ WrongAt w' b p c ∧ p ≤ text.size
theorem tok_rows (k o l c : Int) (t : ByteArray) (v : Int) (h : Bool) : ∀ u ∈ (tokCells k o l c t v h).toList, u.oneCell' = true := by
  intro u hu
  have := tok_all k o l c t v h
  rw [Array.all_eq_true'] at this
  exact this u (by simpa using hu)
set_option maxHeartbeats 16000000 in
theorem scan_calls (text : ByteArray) (w : World) (hs : text.size ≤ 1048576) (hG : Glob w) :
    Calls Tryz.prog 23 #[.string text] w (ScanPost text w) := by
  have HG := Lib.hid hG
  clear hG
  by_cases hlong : 262144 < text.size
  · have HO : Hid (scanT text.data.toList = .error (24, 0)) := Lib.hid (by unfold scanT; rw [if_pos (by rw [size_len]; omega)])
    have dl : decide ((262144 : Int) < (text.size : Int)) = true := decide_eq_true (by omega)
    clear hlong
    go_enter Tryz.func23, Tryz.ntmps23
    go_wp2_with (first
      | (go_at_call 45; refine (at_calls _ _ _).mono ?_; rintro e w4 ⟨b, rfl, hb1, hb2, hb3⟩; have HW := Lib.hid hb2; have HB := Lib.hid hb1; have HL := Lib.hid hb3; clear hb1 hb2 hb3))
    go_ret2
    refine ⟨HL.out, ?_⟩
    rw [HO.out]
    exact ⟨b, rfl, HB.out, HW.out, Nat.zero_le _⟩
  have HT : Hid (scanT text.data.toList = scanF (text.size + 1) text.data.toList 0) := Lib.hid (by unfold scanT; rw [if_neg (by rw [size_len]; omega), size_len])
  have dl : decide ((262144 : Int) < (text.size : Int)) = false := decide_eq_false (by omega)
  go_enter Tryz.func23, Tryz.ntmps23
  go_wp2_with (first
    | (go_at_call 43; refine (start_calls text _).mono ?_; rintro e w1 ⟨g, rfl, hg, hB, hw⟩; have I0 : Hid (SI text w w1 g 0 (.slice none 0 0) [] 0 w1) := Lib.hid (SI.start hg hB hw); clear hg hB hw))
  clear dl
  go_loopw [4, 6] (fun v q wr => ∃ (i : Nat) (L : List (Tok × Nat)) (m : Nat), q = .int .i64 (i : Int) ∧ i ≤ text.size ∧ Hid (SI text w w1 g i v L m wr)) (fun _ q _ => text.size + 1 - (intOf q).toNat)
  case atStart => exact ⟨0, [], 0, by go_num, Nat.zero_le _, I0⟩
  case round =>
    obtain ⟨i, L, m, rfl, hi, I⟩ := hrel
    cases hgap : gap 0 0 i (text.data.toList.drop i) with
    | open_ n =>
      have HO : Hid (scanT text.data.toList = .error (23, n)) := Lib.hid (by rw [HT.out, scan_open I.out hgap])
      have HGC : Hid (∀ W, W.ShapedOpen Tryz.prog → Calls Tryz.prog 46 #[.string text, .int .i64 (i : Int)] W fun e w' => n ≤ text.size ∧ ∃ b, e = .returned (.tuple #[.int .i64 (n : Int), .iface 55 (.pointer (some ⟨b, 0, none⟩))]) ∧ W.heap.size ≤ b ∧ WrongAt w' b n 23 ∧ Below W.heap.size W w') := Lib.hid (fun W hW => (gone_calls text i W hi (by omega) hW).mono fun e w' h => by
        unfold GonePost at h; rw [hgap] at h; exact h)
      clear hgap
      go_wp2_with (first
        | (go_at_call 46; refine (HGC.out _ (HG.out.below I.out.bel).shaped).mono ?_; rintro e w2 ⟨hn, b, rfl, hb1, hb2, hb3⟩; have HW := Lib.hid hb2; have HB := Lib.hid hb1; have HL := Lib.hid (I.out.bel.trans (hb3.mono I.out.bel.size)); have HLE := Lib.hid hn; clear hb1 hb2 hb3 hn))
      go_ret2
      refine ⟨HL.out, ?_⟩
      rw [HO.out]
      exact ⟨b, rfl, Nat.le_trans I.out.bel.size HB.out, HW.out, HLE.out⟩
    | ends n =>
      obtain ⟨g0, _, hin, hnt, _⟩ := gap_to (t := text.data.toList) (by rw [size_len]; exact hi) hgap
      rw [size_len] at hnt
      have hin2 : i ≤ n := by omega
      have HGC : Hid (∀ W, W.ShapedOpen Tryz.prog → Calls Tryz.prog 46 #[.string text, .int .i64 (i : Int)] W fun e w' => e = .returned (.tuple #[.int .i64 (n : Int), .nilIface]) ∧ W = w') := Lib.hid (fun W hW => (gone_calls text i W hi (by omega) hW).mono fun e w' h => by
        unfold GonePost at h; rw [hgap] at h; exact ⟨h.2.1, h.2.2⟩)
      clear hin
      have HGP := Lib.hid hgap
      clear hgap
      by_cases hend : n = text.size
      · have HO : Hid (scanT text.data.toList = .ok (L ++ [(endT, n)])) := Lib.hid (by rw [HT.out, scan_end I.out HGP.out hend])
        have HN := Lib.hid hend
        have dn : text.size ≤ n := by omega
        have HTO : Hid (Calls Tryz.prog 44 #[.pointer (some ⟨g, 0, none⟩), .int .i64 (text.size : Int)] wr fun e w' => e = .returned (.agg #[.int .i64 (n : Int), .int .i64 ((spotT text.data.toList n).1 : Nat), .int .i64 ((spotT text.data.toList n).2 : Nat)]) ∧ wr.grownBy w' (some g) ∧ w'.heap[g]? = some (.cells (walkC text n) walkT (0, 0))) := Lib.hid (by
          rw [← hend]
          exact to_calls text g m n wr (by have := I.out.hm; omega) hnt (by omega) I.out.walk)
        clear hend
        go_wp2_with (first
          | (go_at_call 46; refine (HGC.out _ (HG.out.below I.out.bel).shaped).mono ?_; rintro e w2 ⟨rfl, rfl⟩)
          | (go_at_call 44; refine HTO.out.mono ?_; rintro e w2 ⟨rfl, hgr, hw2⟩; have H2 := Lib.hid (I.out.to hgr hw2); clear hgr hw2)
          | (at_builtin; refine print_append_cells (w0 := w2) w1.heap.size rfl (.tmp 30) (.tmp 36) 22 34 (.agg tok0) 7 56 rfl Tryz.underlying22 (by kernel_rfl) rfl (by decide) (by decide) _ L.length _ (atCells text.data.toList (endT, n)).toList rfl rfl rfl (tok_rows _ _ _ _ _ _ _) H2.out.1 (Below.refl _ _) H2.out.2.2 (by have := I.out.hL; omega) ?_; intro v3 w3 ho3 hB3 hg3 hat3; have HO3 := Lib.hid ho3; have HB3 := Lib.hid hB3; clear ho3 hB3 hg3 hat3))
        go_ret2
        refine ⟨(H2.out.2.1).trans (HB3.out.mono (Nat.le_trans I.out.gw (Nat.le_of_lt I.out.gl))), ?_⟩
        rw [HO.out]
        refine ⟨v3, rfl, ?_⟩
        have := own_base_le HO3.out (Nat.le_trans I.out.gw (Nat.le_of_lt I.out.gl))
        rw [cellsL_snoc, List.length_append]
        exact this
      · have hlt : n < text.size := by omega
        have dn : ¬ text.size ≤ n := by omega
        cases ht : tok1 (text.data.toList.drop n) with
        | error ck =>
          obtain ⟨ce, ke⟩ := ck
          have HO : Hid (scanT text.data.toList = .error (ce, n + ke)) := Lib.hid (by rw [HT.out, scan_bad I.out HGP.out hlt ht])
          have HQ : Hid (∀ W, Glob W → Calls Tryz.prog 47 #[.string text, .int .i64 (n : Int)] W fun e w' => n + ke ≤ text.size ∧ ∃ b, e = .returned (.tuple #[.agg tok0, .int .i64 0, .iface 55 (.pointer (some ⟨b, 0, none⟩))]) ∧ W.heap.size ≤ b ∧ WrongAt w' b (n + ke : Nat) ce ∧ Below W.heap.size W w') := Lib.hid (fun W hW => (one_calls text n W hlt hs hW).mono fun e w' h => by
            unfold OnePost at h; rw [ht] at h; exact h)
          clear ht hend
          go_wp2_with (first
            | (go_at_call 46; refine (HGC.out _ (HG.out.below I.out.bel).shaped).mono ?_; rintro e w2 ⟨rfl, rfl⟩)
            | (go_at_call 47; refine (HQ.out _ (HG.out.below I.out.bel)).mono ?_; rintro e w2 ⟨hn, b, rfl, hb1, hb2, hb3⟩; have HW := Lib.hid hb2; have HB := Lib.hid hb1; have HL := Lib.hid (I.out.bel.trans (hb3.mono I.out.bel.size)); have HLE := Lib.hid hn; have HS2 := Lib.hid hb3.size; clear hb1 hb2 hb3 hn)
            | (refine run_event rfl (.alloc 34) rfl (.pointer (some ⟨w2.heap.size, 0, none⟩)) (w2.alloc (.cells tok0 34)) (by kernel_rfl) ?_; intro w6 hw6; have B6 : Hid (Below w2.heap.size w2 w6) := Lib.hid (by rw [hw6]; exact alloc_below _ _); have G6 : Hid (w6.heap[w2.heap.size]? = some (.cells tok0 34 (0, 0))) := Lib.hid (by rw [hw6]; exact heap_alloc_new _ _); clear hw6)
            | ((with_reducible refine gate_store (t := 34) (p := 9) rfl ?_); refine put_event rfl 34 _ _ rfl w2.heap.size tok0 rfl rfl 34 tok0 G6.out (by kernel_rfl) rfl (tok_all _ _ _ _ _ _ _) w2.heap.size (Nat.le_refl _) ?_; intro w7 hb7 hB7 hs7 ho7; have B7 : Hid (Below w2.heap.size w2 w7) := Lib.hid (B6.out.trans hB7); clear hb7 hB7 hs7 ho7))
          go_ret2
          refine ⟨HL.out.trans (B7.out.mono HL.out.size), ?_⟩
          rw [HO.out]
          exact ⟨b, rfl, Nat.le_trans I.out.bel.size HB.out, wrong_other HW.out (B7.out.block b (by have := HW.out; unfold WrongAt at this; exact (Array.getElem?_eq_some_iff.1 this).1)), HLE.out⟩
        | ok xk =>
          obtain ⟨x, k⟩ := xk
          have HX := Lib.hid (scan_next I.out HGP.out hlt ht)
          have hk := tok_at ht
          rw [size_len] at hk
          have hk1 := hk.1
          have hk2 := hk.2
          have HQ : Hid (∀ W, Glob W → Calls Tryz.prog 47 #[.string text, .int .i64 (n : Int)] W fun e w' => e = .returned (.tuple #[.agg (tokCells x.kind 0 0 0 ⟨x.text.toArray⟩ x.val x.hex), .int .i64 (n + k : Nat), .nilIface]) ∧ Below W.heap.size W w') := Lib.hid (fun W hW => (one_calls text n W hlt hs hW).mono fun e w' h => by
            unfold OnePost at h; rw [ht] at h; exact h.2)
          clear ht hend hk
          go_wp2_with (first
            | (go_at_call 46; refine (HGC.out _ (HG.out.below I.out.bel).shaped).mono ?_; rintro e w2 ⟨rfl, rfl⟩)
            | (go_at_call 47; refine (HQ.out _ (HG.out.below I.out.bel)).mono ?_; rintro e w2 ⟨rfl, hb3⟩; have I2 := Lib.hid (I.out.below hb3); clear hb3)
            | (refine run_event rfl (.alloc 34) rfl (.pointer (some ⟨w2.heap.size, 0, none⟩)) (w2.alloc (.cells tok0 34)) (by kernel_rfl) ?_; intro w6 hw6; have B6 : Hid (Below w2.heap.size w2 w6) := Lib.hid (by rw [hw6]; exact alloc_below _ _); have G6 : Hid (w6.heap[w2.heap.size]? = some (.cells tok0 34 (0, 0))) := Lib.hid (by rw [hw6]; exact heap_alloc_new _ _); clear hw6)
            | ((with_reducible refine gate_store (t := 34) (p := 9) rfl ?_); refine put_event rfl 34 _ _ rfl w2.heap.size (tokCells x.kind 0 0 0 ⟨x.text.toArray⟩ x.val x.hex) rfl rfl 34 tok0 G6.out (by kernel_rfl) rfl (tok_all _ _ _ _ _ _ _) w2.heap.size (Nat.le_refl _) ?_; intro w7 hb7 hB7 hs7 ho7; have I7 := Lib.hid (I2.out.below (B6.out.trans hB7)); have G7 := Lib.hid hb7; clear hb7 hB7 hs7 ho7)
            | (go_at_call 44; refine (to_calls text g m n w7 (by have := I.out.hm; omega) hnt (by omega) I7.out.walk).mono ?_; rintro e w8 ⟨rfl, hgr, hw8⟩; have H8 := Lib.hid (I7.out.to hgr hw8); have K8 := Lib.hid hw8; have G8 : Hid (w8.heap[w2.heap.size]? = some (.cells (tokCells x.kind 0 0 0 ⟨x.text.toArray⟩ x.val x.hex) 34 (0, 0))) := Lib.hid ((hgr.block _ (Array.getElem?_eq_some_iff.1 G7.out).1 (fun e => by injection e with e; have := I2.out.gl; have := I2.out.big; omega)).trans G7.out); clear hgr hw8)
            | ((with_reducible refine gate_store (t := 25) (p := 51) rfl ?_); refine spot_event rfl _ _ rfl w2.heap.size _ _ _ _ _ _ _ _ _ _ rfl rfl G8.out ?_; intro w9 h9 hg9; have H9 := Lib.hid (h8_put I2.out H8.out K8.out hg9); have y0 : w9.cell? ⟨w2.heap.size, 0, none⟩ = some (.int .i64 (x.kind : Int)) := (cell_row h9 0).trans rfl; have y1 : w9.cell? ⟨w2.heap.size, 1, none⟩ = some (.int .i64 (n : Int)) := (cell_row h9 1).trans rfl; have y2 : w9.cell? ⟨w2.heap.size, 2, none⟩ = some (.int .i64 ((spotT text.data.toList n).1 : Nat)) := (cell_row h9 2).trans rfl; have y3 : w9.cell? ⟨w2.heap.size, 3, none⟩ = some (.int .i64 ((spotT text.data.toList n).2 : Nat)) := (cell_row h9 3).trans rfl; have y4 : w9.cell? ⟨w2.heap.size, 4, none⟩ = some (.string ⟨x.text.toArray⟩) := (cell_row h9 4).trans rfl; have y5 : w9.cell? ⟨w2.heap.size, 5, none⟩ = some (.int .u32 (x.val : Int)) := (cell_row h9 5).trans rfl; have y6 : w9.cell? ⟨w2.heap.size, 6, none⟩ = some (.bool x.hex) := (cell_row h9 6).trans rfl; clear h9 hg9)
            | (at_builtin; refine print_append_cells (w0 := w9) w1.heap.size rfl (.tmp 52) (.tmp 54) 22 34 (.agg tok0) 7 56 rfl Tryz.underlying22 (by kernel_rfl) rfl (by decide) (by decide) _ L.length _ (atCells text.data.toList (x, n)).toList rfl rfl rfl (tok_rows _ _ _ _ _ _ _) H9.out.own (Below.refl _ _) H9.out.big (by have := I.out.hL; omega) ?_; intro v3 w3 ho3 hB3 hg3 hat3; have HJ := Lib.hid (si_next I.out H9.out hk1 hk2 hin2 HX.out hB3 ho3); clear ho3 hB3 hg3 hat3))
          go_roundw
          case rel => exact ⟨n + k, _, n, by go_num, hk1, HJ⟩
          case measure => simp [intOf]; omega
end Go.Proofs.YtpecmmicndcgjaaGreatDoor.Tok

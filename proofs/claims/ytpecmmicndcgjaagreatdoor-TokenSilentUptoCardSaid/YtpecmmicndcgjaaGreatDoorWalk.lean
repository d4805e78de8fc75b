/- CONTRACTS: package token's start, (*walker).to, At: line and column. -/
import Derived.Test.YtpecmmicndcgjaaGreatDoorRep
import Derived.Test.YtpecmmicndcgjaaGreatDoorPure1
import Derived.BigQuiet
namespace Go.Proofs.YtpecmmicndcgjaaGreatDoor.Tok
open Go.RowKit Go.Proofs.YtpecmmicndcgjaaGreatDoor.PA Go.Proofs.YtpecmmicndcgjaaGreatDoorW.PrintWords Go.Proofs.YtpecmmicndcgjaaGreatDoorW.PrintLast Go.Proofs.YtpecmmicndcgjaaGreatDoor.Sp
set_option linter.unusedVariables false
set_option linter.unusedSimpArgs false
set_option maxRecDepth 100000

def walkT : TypeId := 136
def walkC (text : ByteArray) (m : Nat) : Array Value := #[.string text, .int .i64 (m : Nat), .int .i64 ((spotT text.data.toList m).1 : Nat), .int .i64 ((spotT text.data.toList m).2 : Nat)]
theorem start_calls (text : ByteArray) (w : World) : Calls Tryz.prog 43 #[.string text] w fun e w' => ∃ g, e = .returned (.pointer (some ⟨g, 0, none⟩)) ∧ w.heap.size ≤ g ∧ Below w.heap.size w w' ∧ w'.heap[g]? = some (.cells (walkC text 0) walkT (0, 0)) := by
  go_enter Tryz.func43, Tryz.ntmps43
  go_wp2
  go_ret
  exact ⟨w.heap.size, rfl, Nat.le_refl _, (Below.refl _ w).alloc (Nat.le_refl _) _, heap_alloc_new _ _⟩
theorem spot_succ (text : ByteArray) (m : Nat) (h : m < text.size) : spotT text.data.toList (m + 1) = spotStep (spotT text.data.toList m) text[m] := by
  have hl : m < text.data.toList.length := by rw [Array.length_toList]; exact h
  unfold spotT
  rw [List.take_succ_eq_append_getElem hl, List.foldl_append]
  rfl
theorem spot_le (text : ByteArray) (m : Nat) : (spotT text.data.toList m).1 ≤ m + 1 ∧ (spotT text.data.toList m).2 ≤ m + 1 := by
  unfold spotT
  generalize text.data.toList = L
  induction m generalizing L with
  | zero => simp
  | succ m ih =>
    rcases Nat.lt_or_ge m L.length with h | h
    · rw [List.take_succ_eq_append_getElem h, List.foldl_append]
      have := ih L
      simp only [List.foldl_cons, List.foldl_nil, spotStep]
      split <;> simp <;> omega
    · have := ih L
      rw [List.take_of_length_le (by omega)] at this ⊢
      omega
/-- What holds of the walker at its place m. -/
structure WInv (text : ByteArray) (g r : Nat) (w : World) (m : Nat) (wr : World) : Prop where
  row : wr.heap[g]? = some (.cells (walkC text m) walkT (0, 0))
  res : wr.heap[r]? = some (.cells #[.int .i64 0, .int .i64 0, .int .i64 0] 25 (0, 0))
  grown : w.grownBy wr (some g)
  gr : g < r
theorem there_row {w : World} {g k : Nat} {cs : Array Value} {t : TypeId} (hk : k < cs.size) (h : w.heap[g]? = some (.cells cs t (0, 0))) : w.there g k 1 := fun j hj => by
  obtain rfl : j = 0 := by omega
  rw [Nat.add_zero, cell_row h, frozen_row h]
  exact ⟨by simp [hk], rfl⟩
theorem drewN_row {w : World} {g : Nat} {x : Option Obj} (h : w.heap[g]? = x) (n : Nat) : (w.drewN n).heap[g]? = x := h
theorem set_grown {w w1 : World} {g k : Nat} {v : Value} (h : w1 = w.setCells g k [v]) : w.grownBy w1 (some g) := by
  rw [h]; exact setCell_grown w g k v
theorem WInv.step {text : ByteArray} {g r m : Nat} {w wr w2 : World} (I : WInv text g r w m wr) (hg : wr.grownBy w2 (some g)) (hr : w2.heap[g]? = some (.cells (walkC text (m + 1)) walkT (0, 0))) : WInv text g r w (m + 1) w2 :=
  ⟨hr, (hg.block r (Array.getElem?_eq_some_iff.1 I.res).1 (fun e => by injection e with e; have := I.gr; omega)).trans I.res, I.grown.trans hg, I.gr⟩
theorem below_dN {B : Nat} {a w : World} (h : Below B a w) (n : Nat) : Below B a (w.drewN n) := ⟨h.os, h.tape, h.output, h.size, h.block⟩
theorem to_calls (text : ByteArray) (g a off : Nat) (w : World) (ha : a ≤ off) (ho : off ≤ text.size) (hs : text.size < 4294967296) (hg : w.heap[g]? = some (.cells (walkC text a) walkT (0, 0))) :
    Calls Tryz.prog 44 #[.pointer (some ⟨g, 0, none⟩), .int .i64 off] w fun e w' =>
      e = .returned (.agg #[.int .i64 off, .int .i64 ((spotT text.data.toList off).1 : Nat), .int .i64 ((spotT text.data.toList off).2 : Nat)]) ∧ w.grownBy w' (some g) ∧ w'.heap[g]? = some (.cells (walkC text off) walkT (0, 0)) := by
  have hgl : g < w.heap.size := (Array.getElem?_eq_some_iff.1 hg).1
  have HG := Lib.hid hg
  clear hg
  go_enter Tryz.func44, Tryz.ntmps44
  go_wp2
  go_loopw [] (fun wr => ∃ m, a ≤ m ∧ m ≤ off ∧ WInv text g w.heap.size w m wr) (fun (wr : World) => off - (intOf ((wr.cell? ⟨g, 1, none⟩).getD undef)).toNat)
  case atStart =>
    refine ⟨a, Nat.le_refl _, ha, ?_, heap_alloc_new _ _, below_grown ((Below.refl _ _).alloc (Nat.le_refl _) _), hgl⟩
    rw [Below.heap_alloc _ _ _ hgl]
    exact HG.out
  case round =>
    obtain ⟨m, hm1, hm2, I⟩ := hrel
    have c0 : wr.cell? ⟨g, 0, none⟩ = some (.string text) := (cell_row I.row 0).trans rfl
    have c1 : wr.cell? ⟨g, 1, none⟩ = some (.int .i64 (m : Nat)) := (cell_row I.row 1).trans rfl
    by_cases hlt : m < off
    · have hmt : m < text.size := by omega
      have d0 : decide ((m : Int) < (off : Int)) = true := decide_eq_true (by omega)
      have hsp := spot_succ text m hmt
      have hle := spot_le text m
      have hrow := I.row
      simp only [walkC] at hrow
      generalize spotT text.data.toList m = LC at hsp hle hrow
      obtain ⟨L, C⟩ := LC
      have c2 : wr.cell? ⟨g, 2, none⟩ = some (.int .i64 (L : Nat)) := (cell_row hrow 2).trans rfl
      have c3 : wr.cell? ⟨g, 3, none⟩ = some (.int .i64 (C : Nat)) := (cell_row hrow 3).trans rfl
      simp only at hle
      have HR := Lib.hid hrow
      have HI := Lib.hid I
      have HS := Lib.hid hsp
      clear hrow I hsp
      by_cases h10 : text[m] = 10
      · have e10 : ((text[m].toNat : Int) == 10) = true := by rw [h10]; rfl
        have HT := Lib.hid h10
        clear h10
        go_wp2_with (first
          | ((with_reducible refine gate_store (t := 3) (p := 29) rfl ?_); refine cell_event rfl 3 _ _ rfl g 3 (.int .i64 ((C : Nat) + 1 : Int)) rfl rfl rfl (there_row (by simp) HR.out) (by kernel_rfl) g (Nat.le_refl _) ?_; intro v1 hv1 hBv1 hsv1; have Rv1 : Hid (v1.heap[g]? = some (.cells #[.string text, .int .i64 (m : Nat), .int .i64 (L : Nat), .int .i64 ((C : Nat) + 1 : Int)] walkT (0, 0))) := Lib.hid (by rw [hv1]; exact setCell_row HR.out _); have Gv1 := Lib.hid (set_grown hv1); have av1 : v1.cell? ⟨g, 0, none⟩ = some (.string text) := (cell_row Rv1.out 0).trans rfl; have bv1 : v1.cell? ⟨g, 1, none⟩ = some (.int .i64 (m : Nat)) := (cell_row Rv1.out 1).trans rfl; have cv1 : v1.cell? ⟨g, 2, none⟩ = some (.int .i64 (L : Nat)) := (cell_row Rv1.out 2).trans rfl; have dv1 : v1.cell? ⟨g, 3, none⟩ = some (.int .i64 ((C : Nat) + 1 : Int)) := (cell_row Rv1.out 3).trans rfl; clear hv1 hBv1 hsv1))
        go_quiet (fail)
        go_wp2_with (first
          | ((with_reducible refine gate_store (t := 3) (p := 49) rfl ?_); refine cell_event rfl 3 _ _ rfl g 2 (.int .i64 ((L : Nat) + 1 : Int)) rfl rfl rfl (there_row (by simp) (drewN_row Rv1.out _)) (by kernel_rfl) g (Nat.le_refl _) ?_; intro v3 hv3 hBv3 hsv3; have Rv3 : Hid (v3.heap[g]? = some (.cells #[.string text, .int .i64 (m : Nat), .int .i64 ((L : Nat) + 1 : Int), .int .i64 ((C : Nat) + 1 : Int)] walkT (0, 0))) := Lib.hid (by rw [hv3]; exact setCell_row (drewN_row Rv1.out _) _); have Gv3 := Lib.hid (set_grown hv3); have av3 : v3.cell? ⟨g, 0, none⟩ = some (.string text) := (cell_row Rv3.out 0).trans rfl; have bv3 : v3.cell? ⟨g, 1, none⟩ = some (.int .i64 (m : Nat)) := (cell_row Rv3.out 1).trans rfl; have cv3 : v3.cell? ⟨g, 2, none⟩ = some (.int .i64 ((L : Nat) + 1 : Int)) := (cell_row Rv3.out 2).trans rfl; have dv3 : v3.cell? ⟨g, 3, none⟩ = some (.int .i64 ((C : Nat) + 1 : Int)) := (cell_row Rv3.out 3).trans rfl; clear hv3 hBv3 hsv3)
          | ((with_reducible refine gate_store (t := 3) (p := 53) rfl ?_); refine cell_event rfl 3 _ _ rfl g 3 (.int .i64 1) rfl rfl rfl (there_row (by simp) Rv3.out) (by kernel_rfl) g (Nat.le_refl _) ?_; intro v4 hv4 hBv4 hsv4; have Rv4 : Hid (v4.heap[g]? = some (.cells #[.string text, .int .i64 (m : Nat), .int .i64 ((L : Nat) + 1 : Int), .int .i64 1] walkT (0, 0))) := Lib.hid (by rw [hv4]; exact setCell_row Rv3.out _); have Gv4 := Lib.hid (set_grown hv4); have av4 : v4.cell? ⟨g, 0, none⟩ = some (.string text) := (cell_row Rv4.out 0).trans rfl; have bv4 : v4.cell? ⟨g, 1, none⟩ = some (.int .i64 (m : Nat)) := (cell_row Rv4.out 1).trans rfl; have cv4 : v4.cell? ⟨g, 2, none⟩ = some (.int .i64 ((L : Nat) + 1 : Int)) := (cell_row Rv4.out 2).trans rfl; have dv4 : v4.cell? ⟨g, 3, none⟩ = some (.int .i64 1) := (cell_row Rv4.out 3).trans rfl; clear hv4 hBv4 hsv4)
          | ((with_reducible refine gate_store (t := 3) (p := 20) rfl ?_); refine cell_event rfl 3 _ _ rfl g 1 (.int .i64 ((m : Nat) + 1 : Int)) rfl rfl rfl (there_row (by simp) Rv4.out) (by kernel_rfl) g (Nat.le_refl _) ?_; intro v2 hv2 hBv2 hsv2; have Rv2 : Hid (v2.heap[g]? = some (.cells #[.string text, .int .i64 ((m : Nat) + 1 : Int), .int .i64 ((L : Nat) + 1 : Int), .int .i64 1] walkT (0, 0))) := Lib.hid (by rw [hv2]; exact setCell_row Rv4.out _); have Gv2 := Lib.hid (set_grown hv2); have av2 : v2.cell? ⟨g, 0, none⟩ = some (.string text) := (cell_row Rv2.out 0).trans rfl; have bv2 : v2.cell? ⟨g, 1, none⟩ = some (.int .i64 ((m : Nat) + 1 : Int)) := (cell_row Rv2.out 1).trans rfl; have cv2 : v2.cell? ⟨g, 2, none⟩ = some (.int .i64 ((L : Nat) + 1 : Int)) := (cell_row Rv2.out 2).trans rfl; have dv2 : v2.cell? ⟨g, 3, none⟩ = some (.int .i64 1) := (cell_row Rv2.out 3).trans rfl; clear hv2 hBv2 hsv2))
        have hF : Hid (WInv text g w.heap.size w (m + 1) v2) := Lib.hid (by
          refine HI.out.step ((((Gv1.out.trans (below_grown (below_dN (Below.refl _ _) nq))).trans Gv3.out).trans Gv4.out).trans Gv2.out) ?_
          have h1 := HS.out
          unfold spotStep at h1
          rw [if_pos HT.out] at h1
          rw [Rv2.out]
          simp [walkC, h1])
        go_roundw
        case rel =>
          (repeat apply Exists.intro)
          exact ⟨⟨m + 1, by omega, by omega, hF.out⟩, rfl⟩
        case measure => simp [intOf, c1, bv2]; omega
      · have e10 : ((text[m].toNat : Int) == 10) = false := by
          rw [beq_eq_false_iff_ne]
          intro h
          exact h10 (UInt8.toNat_inj.1 (by simp; omega))
        have HT := Lib.hid h10
        clear h10
        go_wp2_with (first
          | ((with_reducible refine gate_store (t := 3) (p := 29) rfl ?_); refine cell_event rfl 3 _ _ rfl g 3 (.int .i64 ((C : Nat) + 1 : Int)) rfl rfl rfl (there_row (by simp) HR.out) (by kernel_rfl) g (Nat.le_refl _) ?_; intro v1 hv1 hBv1 hsv1; have Rv1 : Hid (v1.heap[g]? = some (.cells #[.string text, .int .i64 (m : Nat), .int .i64 (L : Nat), .int .i64 ((C : Nat) + 1 : Int)] walkT (0, 0))) := Lib.hid (by rw [hv1]; exact setCell_row HR.out _); have Gv1 := Lib.hid (set_grown hv1); have av1 : v1.cell? ⟨g, 0, none⟩ = some (.string text) := (cell_row Rv1.out 0).trans rfl; have bv1 : v1.cell? ⟨g, 1, none⟩ = some (.int .i64 (m : Nat)) := (cell_row Rv1.out 1).trans rfl; have cv1 : v1.cell? ⟨g, 2, none⟩ = some (.int .i64 (L : Nat)) := (cell_row Rv1.out 2).trans rfl; have dv1 : v1.cell? ⟨g, 3, none⟩ = some (.int .i64 ((C : Nat) + 1 : Int)) := (cell_row Rv1.out 3).trans rfl; clear hv1 hBv1 hsv1))
        go_quiet (fail)
        go_wp2_with (first
          | ((with_reducible refine gate_store (t := 3) (p := 20) rfl ?_); refine cell_event rfl 3 _ _ rfl g 1 (.int .i64 ((m : Nat) + 1 : Int)) rfl rfl rfl (there_row (by simp) (drewN_row Rv1.out _)) (by kernel_rfl) g (Nat.le_refl _) ?_; intro v2 hv2 hBv2 hsv2; have Rv2 : Hid (v2.heap[g]? = some (.cells #[.string text, .int .i64 ((m : Nat) + 1 : Int), .int .i64 (L : Nat), .int .i64 ((C : Nat) + 1 : Int)] walkT (0, 0))) := Lib.hid (by rw [hv2]; exact setCell_row (drewN_row Rv1.out _) _); have Gv2 := Lib.hid (set_grown hv2); have av2 : v2.cell? ⟨g, 0, none⟩ = some (.string text) := (cell_row Rv2.out 0).trans rfl; have bv2 : v2.cell? ⟨g, 1, none⟩ = some (.int .i64 ((m : Nat) + 1 : Int)) := (cell_row Rv2.out 1).trans rfl; have cv2 : v2.cell? ⟨g, 2, none⟩ = some (.int .i64 (L : Nat)) := (cell_row Rv2.out 2).trans rfl; have dv2 : v2.cell? ⟨g, 3, none⟩ = some (.int .i64 ((C : Nat) + 1 : Int)) := (cell_row Rv2.out 3).trans rfl; clear hv2 hBv2 hsv2))
        have hF : Hid (WInv text g w.heap.size w (m + 1) v2) := Lib.hid (by
          refine HI.out.step ((Gv1.out.trans (below_grown (below_dN (Below.refl _ _) nq))).trans Gv2.out) ?_
          have h1 := HS.out
          unfold spotStep at h1
          rw [if_neg HT.out] at h1
          rw [Rv2.out]
          simp [walkC, h1])
        go_roundw
        case rel =>
          (repeat apply Exists.intro)
          exact ⟨⟨m + 1, by omega, by omega, hF.out⟩, rfl⟩
        case measure => simp [intOf, c1, bv2]; omega
    · obtain rfl : m = off := by omega
      have d0 : decide ((m : Int) < (m : Int)) = false := decide_eq_false (by omega)
      have c2 : wr.cell? ⟨g, 2, none⟩ = some (.int .i64 ((spotT text.data.toList m).1 : Nat)) := (cell_row I.row 2).trans rfl
      have c3 : wr.cell? ⟨g, 3, none⟩ = some (.int .i64 ((spotT text.data.toList m).2 : Nat)) := (cell_row I.row 3).trans rfl
      have HI := Lib.hid I
      clear I
      go_wp2_with (first
        | ((with_reducible refine gate_store (t := 25) (p := 4) rfl ?_); refine put_event rfl 25 _ _ rfl w.heap.size #[.int .i64 (m : Nat), .int .i64 ((spotT text.data.toList m).1 : Nat), .int .i64 ((spotT text.data.toList m).2 : Nat)] rfl rfl 25 #[.int .i64 0, .int .i64 0, .int .i64 0] HI.out.res (by kernel_rfl) rfl (by simp [Value.oneCell']) w.heap.size (Nat.le_refl _) ?_; intro w1 hblk1 hB1 hsz1 hoth1))
      refine bodyPost_ret (results_cell_row rfl _ _ w.heap.size 25 #[.int .i64 (m : Nat), .int .i64 ((spotT text.data.toList m).1 : Nat), .int .i64 ((spotT text.data.toList m).2 : Nat)] (0, 0) _ rfl hblk1 Tryz.underlying25 rfl (by kernel_rfl)) rfl ?_
      have hgb : w.grownBy w1 (some g) := ⟨hB1.os.trans HI.out.grown.os, hB1.tape.trans HI.out.grown.tape, hB1.output.trans HI.out.grown.output, by have := HI.out.grown.size; omega, fun k hk hne => (hB1.block k hk).trans (HI.out.grown.block k hk hne)⟩
      exact ⟨rfl, hgb, (hoth1 g (by omega)).trans HI.out.row⟩
end Go.Proofs.YtpecmmicndcgjaaGreatDoor.Tok

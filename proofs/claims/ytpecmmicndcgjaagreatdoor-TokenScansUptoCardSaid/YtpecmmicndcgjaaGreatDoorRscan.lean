/- CONTRACT: the reference's Scan: all tokens of a text with their spots, or the first fault. -/
import Derived.Test.YtpecmmicndcgjaaGreatDoorPure7
import Derived.Test.YtpecmmicndcgjaaGreatDoorFault
namespace Go.Proofs.YtpecmmicndcgjaaGreatDoor.Tok
open Go.RowKit Go.Proofs.YtpecmmicndcgjaaGreatDoor.PA Go.Proofs.YtpecmmicndcgjaaGreatDoorW.PrintWords Go.Proofs.YtpecmmicndcgjaaGreatDoorW.PrintLast Go.Proofs.YtpecmmicndcgjaaGreatDoor.Sp
set_option linter.unusedVariables false
set_option linter.unusedSimpArgs false
set_option maxRecDepth 100000

theorem drawn_below {w w' : World} (h : Drawn0 w w') : Below w.heap.size w w' := by
  obtain ⟨n, hn⟩ := h
  rw [hn]; exact below_dN (Below.refl _ _) _
theorem rgone_calls (t : ByteArray) (ht : t.size ≤ 1048576) (i : Nat) (hi : i ≤ t.size) (a b : Int) (h : goneR (gap 0 0 i (t.data.toList.drop i)) = (a, b)) (w : World) : Calls Tryz.prog 26 #[.string t, .int .i64 (i : Int)] w fun e w' => e = .returned (.tuple #[.int .i64 a, .int .i64 b]) ∧ Below w.heap.size w w' :=
  (tappetref02_Gone.calls _ t _ a b w (by rw [rgone_spec t ht i hi, h])).mono fun e w' ⟨h1, h2⟩ => ⟨h1, drawn_below h2⟩
theorem rfault_calls (t : ByteArray) (ht : t.size ≤ 1048576) (c : Int) (p : Nat) (hp : p ≤ t.size) (w : World) : Calls Tryz.prog 27 #[.string t, .int .i64 c, .int .i64 (p : Int)] w fun e w' => e = .returned (.agg (faultC c p ((spotT t.data.toList p).1 : Nat) ((spotT t.data.toList p).2 : Nat))) ∧ Below w.heap.size w w' :=
  tappetref02_fault.calls _ t c p _ _ _ _ _ w (rfault_spec t ht c p hp)
def spotC (t : Bs) (m : Nat) : Array Value := #[.int .i64 (m : Nat), .int .i64 ((spotT t m).1 : Nat), .int .i64 ((spotT t m).2 : Nat)]
theorem spot_all (t : Bs) (m : Nat) : (spotC t m).all (·.oneCell') = true := by simp [spotC, Value.oneCell']
theorem rfurther_calls (t : ByteArray) (ht : t.size ≤ 1048576) (m k : Nat) (hm : m ≤ k) (hk : k ≤ t.size) (w : World) : Calls Tryz.prog 28 #[.string t, .agg (spotC t.data.toList m), .int .i64 (k : Int)] w fun e w' => e = .returned (.agg (spotC t.data.toList k)) ∧ Below w.heap.size w w' :=
  tappetref02_further.calls _ t _ _ _ k _ _ _ w (rfurther_spec t ht m k hm hk)
theorem rone_ok (t : ByteArray) (ht : t.size ≤ 1048576) (i : Nat) (hi : i < t.size) (x : Tok) (k : Nat) (h : tok1 (t.data.toList.drop i) = .ok (x, k)) (w : World) : Calls Tryz.prog 29 #[.string t, .int .i64 (i : Int)] w fun e w' => e = .returned (.tuple #[.agg (tokCells x.kind 0 0 0 ⟨x.text.toArray⟩ x.val x.hex), .int .i64 (i + k : Nat), .int .i64 0, .int .i64 0]) ∧ Below w.heap.size w w' :=
  tappetref02_one.calls _ t i _ _ _ _ _ _ _ _ _ _ w (by rw [rone_spec t ht i hi, h]; rfl)
theorem rone_err (t : ByteArray) (ht : t.size ≤ 1048576) (i : Nat) (hi : i < t.size) (c k : Nat) (h : tok1 (t.data.toList.drop i) = .error (c, k)) (w : World) : Calls Tryz.prog 29 #[.string t, .int .i64 (i : Int)] w fun e w' => e = .returned (.tuple #[.agg tok0, .int .i64 0, .int .i64 (c : Int), .int .i64 (i + k : Nat)]) ∧ Below w.heap.size w w' :=
  tappetref02_one.calls _ t i _ _ _ _ _ _ _ _ _ _ w (by rw [rone_spec t ht i hi, h]; rfl)

/-- What stands in the reference's round: the tokens so far, the place, the spot (of m). -/
structure RS (text : ByteArray) (w w1 : World) (i : Nat) (v : Value) (L : List (Tok × Nat)) (m : Nat) (wr : World) : Prop where
  hm : m ≤ i
  hi : i ≤ text.size
  hL : L.length ≤ i
  own : wr.ownsRow w1.heap.size 34 7 v L.length (cellsL text.data.toList L)
  r : wr.heap[w.heap.size]? = some (.cells (faultC 0 0 0 0) 27 (0, 0))
  sp : wr.heap[w.heap.size + 1]? = some (.cells (spotC text.data.toList m) 25 (0, 0))
  bel : Below w.heap.size w wr
  big : w1.heap.size ≤ wr.heap.size
  lt : w.heap.size + 1 < w1.heap.size
  says : scanF (text.size + 1) text.data.toList 0 = prep L (scanF (text.size + 1 - L.length) text.data.toList i)
theorem RS.below {text : ByteArray} {w w1 : World} {i : Nat} {v : Value} {L : List (Tok × Nat)} {m : Nat} {wr w2 : World} (I : RS text w w1 i v L m wr) (hB : Below wr.heap.size wr w2) : RS text w w1 i v L m w2 :=
  { I with
    own := pw_own_below I.own hB
    r := (hB.block _ (by have := I.lt; have := I.big; omega)).trans I.r
    sp := (hB.block _ (by have := I.lt; have := I.big; omega)).trans I.sp
    bel := I.bel.trans (hB.mono I.bel.size)
    big := Nat.le_trans I.big hB.size }
theorem RS.own_ne {text : ByteArray} {w w1 : World} {i : Nat} {v : Value} {L : List (Tok × Nat)} {m : Nat} {wr : World} (I : RS text w w1 i v L m wr) {g : Nat} (hg : g < w1.heap.size) : v.ownBlock = none ∨ v.ownBlock ≠ some g := by
  cases hv : v.ownBlock with
  | none => exact .inl rfl
  | some b =>
    refine .inr fun e => ?_
    injection e with e
    have := (I.own.lt b hv).1
    omega
/-- The spot goes on to k. -/
theorem RS.spot {text : ByteArray} {w w1 : World} {i : Nat} {v : Value} {L : List (Tok × Nat)} {m : Nat} {wr w2 : World} (I : RS text w w1 i v L m wr) {k : Nat} (hh : w2.heap[w.heap.size + 1]? = some (.cells (spotC text.data.toList k) 25 (0, 0))) (hg : wr.grownBy w2 (some (w.heap.size + 1))) (hk : i ≤ k) (hkt : k ≤ text.size)
    (hs : scanF (text.size + 1) text.data.toList 0 = prep L (scanF (text.size + 1 - L.length) text.data.toList k)) : RS text w w1 k v L k w2 :=
  ⟨Nat.le_refl _, hkt, Nat.le_trans I.hL hk, I.own.kept hg (I.own_ne I.lt), (hg.block _ (by have := I.lt; have := I.big; omega) (fun e => by injection e with e; omega)).trans I.r, hh, I.bel.trans (below_of_grown hg (by omega) I.bel.size), Nat.le_trans I.big hg.size, I.lt, hs⟩
theorem RS.si {text : ByteArray} {w w1 : World} {i : Nat} {v : Value} {L : List (Tok × Nat)} {m : Nat} {wr : World} (I : RS text w w1 i v L m wr) : L.length ≤ i ∧ i ≤ text.size := ⟨I.hL, I.hi⟩
/-- From a place that a gap begins at, the scan goes on as from where the gap ends. -/
theorem scanF_gap {f : Nat} {t : Bs} {i n : Nat} (hi : i ≤ t.length) (hg : gap 0 0 i (t.drop i) = .ends n) (hn : n ≤ t.length) : scanF (f + 1) t i = scanF (f + 1) t n := by
  obtain ⟨g, h1, h2, h3, h4, h5, h6, _⟩ := gap_to hi hg
  rw [scanF_succ, scanF_succ, hg, h6 n 0]
theorem fault_put {w wr w2 : World} (h : ∀ k, k ≠ w.heap.size → w2.heap[k]? = wr.heap[k]?) (hB : Below w.heap.size wr w2) : wr.grownBy w2 (some w.heap.size) :=
  ⟨hB.os, hB.tape, hB.output, hB.size, fun k hk hne => h k (fun e => hne (by rw [e]))⟩
theorem put_grown {wr w2 : World} {g : Nat} (h : ∀ k, k ≠ g → w2.heap[k]? = wr.heap[k]?) (hB : Below g wr w2) : wr.grownBy w2 (some g) :=
  ⟨hB.os, hB.tape, hB.output, hB.size, fun k hk hne => h k (fun e => hne (by rw [e]))⟩
theorem g_open {text : ByteArray} {i : Nat} {L : List (Tok × Nat)} (hL : L.length ≤ i) (hi : i ≤ text.size) (hs : scanF (text.size + 1) text.data.toList 0 = prep L (scanF (text.size + 1 - L.length) text.data.toList i)) {n : Nat} (hg : gap 0 0 i (text.data.toList.drop i) = .open_ n) : scanF (text.size + 1) text.data.toList 0 = .error (23, n) := by
  rw [hs]
  obtain ⟨f, hf⟩ : ∃ f, text.size + 1 - L.length = f + 1 := ⟨text.size - L.length, by omega⟩
  rw [hf, scanF_succ, hg]
  rfl
theorem g_end {text : ByteArray} {i : Nat} {L : List (Tok × Nat)} (hL : L.length ≤ i) (hi : i ≤ text.size) (hs : scanF (text.size + 1) text.data.toList 0 = prep L (scanF (text.size + 1 - L.length) text.data.toList i)) {n : Nat} (hg : gap 0 0 i (text.data.toList.drop i) = .ends n) (hn : n = text.size) : scanF (text.size + 1) text.data.toList 0 = .ok (L ++ [(endT, n)]) := by
  rw [hs]
  obtain ⟨f, hf⟩ : ∃ f, text.size + 1 - L.length = f + 1 := ⟨text.size - L.length, by omega⟩
  rw [hf, scanF_succ, hg]
  simp only
  rw [if_pos (by rw [size_len]; exact hn)]
  rfl
theorem g_bad {text : ByteArray} {i : Nat} {L : List (Tok × Nat)} (hL : L.length ≤ i) (hi : i ≤ text.size) (hs : scanF (text.size + 1) text.data.toList 0 = prep L (scanF (text.size + 1 - L.length) text.data.toList i)) {n c k : Nat} (hg : gap 0 0 i (text.data.toList.drop i) = .ends n) (hn : n < text.size) (ht : tok1 (text.data.toList.drop n) = .error (c, k)) : scanF (text.size + 1) text.data.toList 0 = .error (c, n + k) := by
  rw [hs]
  obtain ⟨f, hf⟩ : ∃ f, text.size + 1 - L.length = f + 1 := ⟨text.size - L.length, by omega⟩
  rw [hf, scanF_succ, hg]
  simp only
  rw [if_neg (by rw [size_len]; omega), ht]
  rfl
theorem g_next {text : ByteArray} {i : Nat} {L : List (Tok × Nat)} (hL : L.length ≤ i) (hi : i ≤ text.size) (hs : scanF (text.size + 1) text.data.toList 0 = prep L (scanF (text.size + 1 - L.length) text.data.toList i)) {n k : Nat} {x : Tok} (hg : gap 0 0 i (text.data.toList.drop i) = .ends n) (hn : n < text.size) (ht : tok1 (text.data.toList.drop n) = .ok (x, k)) :
    scanF (text.size + 1) text.data.toList 0 = prep (L ++ [(x, n)]) (scanF (text.size + 1 - (L ++ [(x, n)]).length) text.data.toList (n + k)) := by
  rw [hs]
  obtain ⟨f, hf⟩ : ∃ f, text.size + 1 - L.length = f + 1 := ⟨text.size - L.length, by omega⟩
  have hf2 : text.size + 1 - (L ++ [(x, n)]).length = f := by simp; omega
  rw [hf, hf2, scanF_succ, hg]
  simp only
  rw [if_neg (by rw [size_len]; omega), ht]
  simp only
  cases scanF f text.data.toList (n + k) with
  | error e => rfl
  | ok l => simp [prep]
theorem g_gap {text : ByteArray} {i : Nat} {L : List (Tok × Nat)} (hL : L.length ≤ i) (hi : i ≤ text.size) (hs : scanF (text.size + 1) text.data.toList 0 = prep L (scanF (text.size + 1 - L.length) text.data.toList i)) {n : Nat} (hg : gap 0 0 i (text.data.toList.drop i) = .ends n) (hn : n ≤ text.size) : scanF (text.size + 1) text.data.toList 0 = prep L (scanF (text.size + 1 - L.length) text.data.toList n) := by
  rw [hs]
  obtain ⟨f, hf⟩ : ∃ f, text.size + 1 - L.length = f + 1 := ⟨text.size - L.length, by omega⟩
  rw [hf, scanF_gap (by rw [size_len]; exact hi) hg (by rw [size_len]; exact hn)]
theorem r9_put {text : ByteArray} {w w1 : World} {i : Nat} {v : Value} {L : List (Tok × Nat)} {m : Nat} {w5 w7 w9 : World} (I : RS text w w1 i v L m w5) (I7 : RS text w w1 i v L m w7) (hg : w7.grownBy w9 (some w5.heap.size)) : RS text w w1 i v L m w9 := by
  have hlt := I.lt
  have hbig := I.big
  have hbig7 := I7.big
  refine { I7 with own := I7.own.kept hg ?_, r := (hg.block _ (by omega) (fun e => by injection e with e; omega)).trans I7.r, sp := (hg.block _ (by omega) (fun e => by injection e with e; omega)).trans I7.sp, bel := I7.bel.trans (below_of_grown hg (by omega) I7.bel.size), big := Nat.le_trans I7.big hg.size }
  cases hv : v.ownBlock with
  | none => exact .inl rfl
  | some b =>
    refine .inr fun e => ?_
    injection e with e
    have := (I.own.lt b hv).2
    omega
theorem rs_next {text : ByteArray} {w w1 : World} {i : Nat} {v v3 : Value} {L : List (Tok × Nat)} {n k : Nat} {x : Tok} {w9 w3 : World} (S : RS text w w1 n v L n w9) (hL : L.length ≤ i) (hk1 : n + k ≤ text.size) (hk2 : n < n + k) (hin : i ≤ n)
    (hX : scanF (text.size + 1) text.data.toList 0 = prep (L ++ [(x, n)]) (scanF (text.size + 1 - (L ++ [(x, n)]).length) text.data.toList (n + k)))
    (hB : Below w1.heap.size w9 w3) (ho : w3.ownsRow w1.heap.size 34 7 v3 (L.length + 1) (cellsL text.data.toList L ++ (atCells text.data.toList (x, n)).toList)) : RS text w w1 (n + k) v3 (L ++ [(x, n)]) n w3 := by
  have hlt := S.lt
  refine ⟨by omega, hk1, by simp; omega, ?_, (hB.block _ (by omega)).trans S.r, (hB.block _ (by omega)).trans S.sp, S.bel.trans (hB.mono (by omega)), Nat.le_trans S.big hB.size, S.lt, hX⟩
  rw [cellsL_snoc, List.length_append]
  exact ho
theorem spot0 (t : Bs) : spotC t 0 = #[.int .i64 0, .int .i64 1, .int .i64 1] := by simp [spotC, spotT]
set_option maxHeartbeats 16000000 in
theorem rscan_calls (text : ByteArray) (w : World) (hs : text.size ≤ 1048576) :
    Calls Tryz.prog 11 #[.string text] w (FScanPost text w) := by
  by_cases hlong : 262144 < text.size
  · have HO : Hid (scanT text.data.toList = .error (24, 0)) := Lib.hid (by unfold scanT; rw [if_pos (by rw [size_len]; omega)])
    have dl : decide ((262144 : Int) < (text.size : Int)) = true := decide_eq_true (by omega)
    clear hlong
    go_enter Tryz.func11, Tryz.ntmps11
    go_wp2_with (first
      | (refine run_event rfl (.alloc 27) rfl (.pointer (some ⟨w.heap.size, 0, none⟩)) (w.alloc (.cells (faultC 0 0 0 0) 27)) (by kernel_rfl) ?_; intro w0 hw0; have J0 : Hid (RI w w0) := Lib.hid (by rw [hw0]; exact RI.new w); clear hw0)
      | ((with_reducible refine gate_store (t := 27) (p := 3) rfl ?_); refine put_event rfl 27 _ _ rfl w.heap.size (faultC 24 0 1 1) rfl rfl 27 (faultC 0 0 0 0) J0.out.r (by kernel_rfl) rfl (fault_all _ _ _ _) w.heap.size (Nat.le_refl _) ?_; intro w3 hblk3 hB3 hs3 ho3; have HB3 := Lib.hid hB3; clear hB3 hs3 ho3))
    refine bodyPost_ret (results_list (rs := [.tmp 2, .cell 3 27]) rfl (by simp) (.tmp (.cell w.heap.size 27 (faultC 24 0 1 1) (0, 0) _ rfl hblk3 Tryz.underlying27 rfl (by kernel_rfl) .nil))) rfl ?_
    refine ⟨J0.out.bel.trans HB3.out, ?_⟩
    rw [HO.out]
    rfl
  have HT : Hid (scanT text.data.toList = scanF (text.size + 1) text.data.toList 0) := Lib.hid (by unfold scanT; rw [if_neg (by rw [size_len]; omega), size_len])
  have dl : decide ((262144 : Int) < (text.size : Int)) = false := decide_eq_false (by omega)
  have tok1 : True := trivial
  go_enter Tryz.func11, Tryz.ntmps11
  go_wp2_with (first
    | (refine run_event rfl (.alloc 27) rfl (.pointer (some ⟨w.heap.size, 0, none⟩)) (w.alloc (.cells (faultC 0 0 0 0) 27)) (by kernel_rfl) ?_; intro w0 hw0; have J0 : Hid (RI w w0) := Lib.hid (by rw [hw0]; exact RI.new w); have Z0 : Hid (w0.heap.size = w.heap.size + 1) := Lib.hid (by rw [hw0]; simp); clear hw0)
    | (refine run_event rfl (.alloc 25) rfl (.pointer (some ⟨w0.heap.size, 0, none⟩)) (w0.alloc (.cells #[.int .i64 0, .int .i64 0, .int .i64 0] 25)) (by kernel_rfl) ?_; intro wa hwa; rw [Z0.out]; have JA : Hid (RI w wa) := Lib.hid (J0.out.below (by rw [hwa]; exact alloc_below _ _)); have GA : Hid (wa.heap[w.heap.size + 1]? = some (.cells #[.int .i64 0, .int .i64 0, .int .i64 0] 25 (0, 0))) := Lib.hid (by rw [← Z0.out, hwa]; exact heap_alloc_new _ _); clear hwa)
    | ((with_reducible refine gate_store (t := 25) (p := 6) rfl ?_); refine put_event rfl 25 _ _ rfl (w.heap.size + 1) #[.int .i64 0, .int .i64 1, .int .i64 1] rfl rfl 25 #[.int .i64 0, .int .i64 0, .int .i64 0] GA.out (by kernel_rfl) rfl (by simp [Value.oneCell']) (w.heap.size + 1) (Nat.le_refl _) ?_; intro w1 hblk1 hB1 hs1 ho1; have I0 : Hid (RS text w w1 0 (.slice none 0 0) [] 0 w1) := Lib.hid ⟨Nat.le_refl _, Nat.zero_le _, Nat.le_refl _, World.ownsRow_nil _ _ _ _, (ho1 _ (by omega)).trans JA.out.r, hblk1.trans (by rw [spot0]), JA.out.bel.trans (hB1.mono (by omega)), Nat.le_refl _, (Array.getElem?_eq_some_iff.1 hblk1).1, by simp only [List.length_nil, Nat.sub_zero]; cases scanF (text.size + 1) text.data.toList 0 <;> rfl⟩; clear hblk1 hB1 hs1 ho1))
  clear dl
  (try simp only [Act.put, List.setIfInBounds_toArray, List.set_cons_zero, List.set_cons_succ])
  go_loopw [4, 5] (fun v q wr => ∃ (i : Nat) (L : List (Tok × Nat)) (m : Nat), q = .int .i64 (i : Int) ∧ i ≤ text.size ∧ Hid (RS text w w1 i v L m wr)) (fun _ q _ => text.size + 1 - (intOf q).toNat)
  case atStart => exact ⟨0, [], 0, by go_num, Nat.zero_le _, I0⟩
  case round =>
    obtain ⟨i, L, m, rfl, hi, I⟩ := hrel
    cases hgap : gap 0 0 i (text.data.toList.drop i) with
    | open_ n =>
      have HO : Hid (scanT text.data.toList = .error (23, n)) := Lib.hid (by rw [HT.out, g_open I.out.hL hi I.out.says hgap])
      have hn : n ≤ text.size := by
        have := scanT_err HO.out
        rw [size_len] at this
        exact this.2
      have HGC := Lib.hid (rgone_calls text hs i hi n n (by rw [hgap]; rfl))
      have HF := Lib.hid (rfault_calls text hs 23 n hn)
      have dn : (0 : Int) ≤ (n : Int) := by omega
      clear hgap
      go_wp2_with (first
        | (go_at_call 26; refine (HGC.out _).mono ?_; rintro e w2 ⟨rfl, hB2⟩; have I2 := Lib.hid (I.out.below hB2); clear hB2)
        | (go_at_call 27; refine (HF.out _).mono ?_; rintro e w3 ⟨rfl, hB3⟩; have I3 := Lib.hid (I2.out.below hB3); clear hB3)
        | ((with_reducible refine gate_store (t := 27) (p := 3) rfl ?_); refine put_event rfl 27 _ _ rfl w.heap.size (faultC 23 n ((spotT text.data.toList n).1 : Nat) ((spotT text.data.toList n).2 : Nat)) rfl rfl 27 (faultC 0 0 0 0) I3.out.r (by kernel_rfl) rfl (fault_all _ _ _ _) w.heap.size (Nat.le_refl _) ?_; intro w4 hblk4 hB4 hs4 ho4; have HB4 := Lib.hid hB4; clear hB4 hs4 ho4))
      refine bodyPost_ret (results_list (rs := [.tmp 2, .cell 3 27]) rfl (by simp) (.tmp (.cell w.heap.size 27 (faultC 23 n ((spotT text.data.toList n).1 : Nat) ((spotT text.data.toList n).2 : Nat)) (0, 0) _ rfl hblk4 Tryz.underlying27 rfl (by kernel_rfl) .nil))) rfl ?_
      refine ⟨I3.out.bel.trans HB4.out, ?_⟩
      rw [HO.out]
      rfl
    | ends n =>
      obtain ⟨g0, _, hin, hnt, _⟩ := gap_to (t := text.data.toList) (by rw [size_len]; exact hi) hgap
      rw [size_len] at hnt
      have hin2 : i ≤ n := by omega
      have HGC := Lib.hid (rgone_calls text hs i hi n (-1) (by rw [hgap]; rfl))
      have HFU := Lib.hid (rfurther_calls text hs m n (by have := I.out.hm; omega) hnt)
      have HGG := Lib.hid (g_gap I.out.hL hi I.out.says hgap hnt)
      clear hin
      have HGP := Lib.hid hgap
      clear hgap
      by_cases hend : n = text.size
      · have HO : Hid (scanT text.data.toList = .ok (L ++ [(endT, n)])) := Lib.hid (by rw [HT.out, g_end I.out.hL hi I.out.says HGP.out hend])
        have HNE := Lib.hid hend
        have dn : ((n : Int) == (text.size : Int)) = true := by rw [hend]; simp
        have dn2 : (n == text.size) = true := by rw [hend]; simp
        clear hend
        go_wp2_with (first
          | (go_at_call 26; refine (HGC.out _).mono ?_; rintro e w2 ⟨rfl, hB2⟩; have I2 := Lib.hid (I.out.below hB2); have y0 : w2.cell? ⟨w.heap.size + 1, 0, none⟩ = some (.int .i64 (m : Int)) := (cell_row I2.out.sp 0).trans rfl; have y1 : w2.cell? ⟨w.heap.size + 1, 1, none⟩ = some (.int .i64 ((spotT text.data.toList m).1 : Nat)) := (cell_row I2.out.sp 1).trans rfl; have y2 : w2.cell? ⟨w.heap.size + 1, 2, none⟩ = some (.int .i64 ((spotT text.data.toList m).2 : Nat)) := (cell_row I2.out.sp 2).trans rfl; clear hB2)
          | (go_at_call 28; refine (HFU.out _).mono ?_; rintro e w3 ⟨rfl, hB3⟩; have I3 := Lib.hid (I2.out.below hB3); clear hB3 y0 y1 y2)
          | ((with_reducible refine gate_store (t := 25) (p := 6) rfl ?_); refine put_event rfl 25 _ _ rfl (w.heap.size + 1) (spotC text.data.toList n) rfl rfl 25 (spotC text.data.toList m) I3.out.sp (by kernel_rfl) rfl (spot_all _ _) (w.heap.size + 1) (Nat.le_refl _) ?_; intro w4 hblk4 hB4 hs4 ho4; have I4 := Lib.hid (I3.out.spot hblk4 (put_grown ho4 hB4) hin2 hnt HGG.out); have z0 : w4.cell? ⟨w.heap.size + 1, 0, none⟩ = some (.int .i64 (n : Int)) := (cell_row I4.out.sp 0).trans rfl; have z1 : w4.cell? ⟨w.heap.size + 1, 1, none⟩ = some (.int .i64 ((spotT text.data.toList n).1 : Nat)) := (cell_row I4.out.sp 1).trans rfl; have z2 : w4.cell? ⟨w.heap.size + 1, 2, none⟩ = some (.int .i64 ((spotT text.data.toList n).2 : Nat)) := (cell_row I4.out.sp 2).trans rfl; clear hblk4 hB4 hs4 ho4)
          | (at_builtin; refine print_append_cells (w0 := w4) w1.heap.size rfl (.tmp 38) (.tmp 41) 22 34 (.agg tok0) 7 56 rfl Tryz.underlying22 (by kernel_rfl) rfl (by decide) (by decide) _ L.length _ (atCells text.data.toList (endT, n)).toList rfl rfl rfl (tok_rows _ _ _ _ _ _ _) I4.out.own (Below.refl _ _) I4.out.big (by have := I.out.hL; omega) ?_; intro v5 w5 ho5 hB5 hg5 hat5; have HO5 := Lib.hid ho5; have HR5 : Hid (w5.heap[w.heap.size]? = some (.cells (faultC 0 0 0 0) 27 (0, 0))) := Lib.hid ((hB5.block _ (by have := I4.out.lt; omega)).trans I4.out.r); have HB5 := Lib.hid (I4.out.bel.trans (hB5.mono (by have := I4.out.lt; omega))); clear ho5 hB5 hg5 hat5)
          | ((with_reducible refine gate_store (t := 27) (p := 3) rfl ?_); refine put_event rfl 27 _ _ rfl w.heap.size (faultC 0 0 0 0) rfl rfl 27 (faultC 0 0 0 0) HR5.out (by kernel_rfl) rfl (fault_all _ _ _ _) w.heap.size (Nat.le_refl _) ?_; intro w6 hblk6 hB6 hs6 ho6; have HB6 := Lib.hid (HB5.out.trans hB6); have HG6 := Lib.hid (put_grown ho6 hB6); clear hB6 hs6 ho6))
        refine bodyPost_ret (results_list (rs := [.tmp 2, .cell 3 27]) rfl (by simp) (.tmp (.cell w.heap.size 27 (faultC 0 0 0 0) (0, 0) _ rfl hblk6 Tryz.underlying27 rfl (by kernel_rfl) .nil))) rfl ?_
        refine ⟨HB6.out, ?_⟩
        rw [HO.out]
        refine ⟨v5, rfl, ?_⟩
        have h1 : w6.ownsRow w1.heap.size 34 7 v5 (L.length + 1) _ := HO5.out.kept HG6.out (by
          cases hv : v5.ownBlock with
          | none => exact .inl rfl
          | some b =>
            refine .inr fun e => ?_
            injection e with e
            have := (HO5.out.lt b hv).1
            have := I.out.lt
            omega)
        have h2 := own_base_le h1 (by have := I.out.lt; omega : w.heap.size ≤ w1.heap.size)
        rw [cellsL_snoc, List.length_append]
        exact h2
      · have hlt : n < text.size := by omega
        have dn : ((n : Int) == (text.size : Int)) = false := by rw [beq_eq_false_iff_ne]; omega
        have dn2 : (n == text.size) = false := by rw [beq_eq_false_iff_ne]; omega
        cases ht : Sp.tok1 (text.data.toList.drop n) with
        | error ck =>
          obtain ⟨ce, ke⟩ := ck
          have HO : Hid (scanT text.data.toList = .error (ce, n + ke)) := Lib.hid (by rw [HT.out, g_bad I.out.hL hi I.out.says HGP.out hlt ht])
          have hcp := scanT_err HO.out
          have hp : n + ke ≤ text.size := by rw [size_len] at hcp; exact hcp.2
          obtain ⟨cz, hcz⟩ : ∃ cz : Int, cz = (ce : Int) := ⟨_, rfl⟩
          obtain ⟨pz, hpz⟩ : ∃ pz : Int, pz = ((n + ke : Nat) : Int) := ⟨_, rfl⟩
          have HQ : Hid (∀ W, Calls Tryz.prog 29 #[.string text, .int .i64 (n : Int)] W fun e w' => e = .returned (.tuple #[.agg tok0, .int .i64 0, .int .i64 cz, .int .i64 pz]) ∧ Below W.heap.size W w') := Lib.hid (by rw [hcz, hpz]; exact rone_err text hs n hlt ce ke ht)
          have HF : Hid (∀ W, Calls Tryz.prog 27 #[.string text, .int .i64 cz, .int .i64 pz] W fun e w' => e = .returned (.agg (faultC cz pz ((spotT text.data.toList (n + ke)).1 : Nat) ((spotT text.data.toList (n + ke)).2 : Nat))) ∧ Below W.heap.size W w') := Lib.hid (by rw [hpz]; exact rfault_calls text hs cz (n + ke) hp)
          have c1 : (cz != 0) = true := by rw [hcz, bne_iff_ne]; have := hcp.1; omega
          have c2 : (cz == 0) = false := by rw [hcz, beq_eq_false_iff_ne]; have := hcp.1; omega
          have HCZ := Lib.hid hcz
          have HPZ := Lib.hid hpz
          clear ht hend hcp hcz hpz
          go_wp2_with (first
            | (go_at_call 26; refine (HGC.out _).mono ?_; rintro e w2 ⟨rfl, hB2⟩; have I2 := Lib.hid (I.out.below hB2); have y0 : w2.cell? ⟨w.heap.size + 1, 0, none⟩ = some (.int .i64 (m : Int)) := (cell_row I2.out.sp 0).trans rfl; have y1 : w2.cell? ⟨w.heap.size + 1, 1, none⟩ = some (.int .i64 ((spotT text.data.toList m).1 : Nat)) := (cell_row I2.out.sp 1).trans rfl; have y2 : w2.cell? ⟨w.heap.size + 1, 2, none⟩ = some (.int .i64 ((spotT text.data.toList m).2 : Nat)) := (cell_row I2.out.sp 2).trans rfl; clear hB2)
            | (go_at_call 28; refine (HFU.out _).mono ?_; rintro e w3 ⟨rfl, hB3⟩; have I3 := Lib.hid (I2.out.below hB3); clear hB3 y0 y1 y2)
            | ((with_reducible refine gate_store (t := 25) (p := 6) rfl ?_); refine put_event rfl 25 _ _ rfl (w.heap.size + 1) (spotC text.data.toList n) rfl rfl 25 (spotC text.data.toList m) I3.out.sp (by kernel_rfl) rfl (spot_all _ _) (w.heap.size + 1) (Nat.le_refl _) ?_; intro w4 hblk4 hB4 hs4 ho4; have I4 := Lib.hid (I3.out.spot hblk4 (put_grown ho4 hB4) hin2 hnt HGG.out); clear hblk4 hB4 hs4 ho4)
            | (go_at_call 29; refine (HQ.out _).mono ?_; rintro e w5 ⟨rfl, hB5⟩; have I5 := Lib.hid (I4.out.below hB5); clear hB5)
            | (refine run_event rfl (.alloc 34) rfl (.pointer (some ⟨w5.heap.size, 0, none⟩)) (w5.alloc (.cells tok0 34)) (by kernel_rfl) ?_; intro w6 hw6; have B6 : Hid (Below w5.heap.size w5 w6) := Lib.hid (by rw [hw6]; exact alloc_below _ _); have G6 : Hid (w6.heap[w5.heap.size]? = some (.cells tok0 34 (0, 0))) := Lib.hid (by rw [hw6]; exact heap_alloc_new _ _); clear hw6)
            | ((with_reducible refine gate_store (t := 34) (p := 9) rfl ?_); refine put_event rfl 34 _ _ rfl w5.heap.size tok0 rfl rfl 34 tok0 G6.out (by kernel_rfl) rfl (tok_all _ _ _ _ _ _ _) w5.heap.size (Nat.le_refl _) ?_; intro w7 hb7 hB7 hs7 ho7; have I7 := Lib.hid (I5.out.below (B6.out.trans hB7)); clear hb7 hB7 hs7 ho7)
            | (go_at_call 27; refine (HF.out _).mono ?_; rintro e w8 ⟨rfl, hB8⟩; have I8 := Lib.hid (I7.out.below hB8); clear hB8)
            | ((with_reducible refine gate_store (t := 27) (p := 3) rfl ?_); refine put_event rfl 27 _ _ rfl w.heap.size (faultC cz pz ((spotT text.data.toList (n + ke)).1 : Nat) ((spotT text.data.toList (n + ke)).2 : Nat)) rfl rfl 27 (faultC 0 0 0 0) I8.out.r (by kernel_rfl) rfl (fault_all _ _ _ _) w.heap.size (Nat.le_refl _) ?_; intro w9 hblk9 hB9 hs9 ho9; have HB9 := Lib.hid hB9; clear hB9 hs9 ho9))
          refine bodyPost_ret (results_list (rs := [.tmp 2, .cell 3 27]) rfl (by simp) (.tmp (.cell w.heap.size 27 (faultC cz pz ((spotT text.data.toList (n + ke)).1 : Nat) ((spotT text.data.toList (n + ke)).2 : Nat)) (0, 0) _ rfl hblk9 Tryz.underlying27 rfl (by kernel_rfl) .nil))) rfl ?_
          refine ⟨I8.out.bel.trans HB9.out, ?_⟩
          rw [HO.out]
          show _ = _
          rw [HCZ.out, HPZ.out]
          rfl
        | ok xk =>
          obtain ⟨x, k⟩ := xk
          have HX := Lib.hid (g_next I.out.hL hi I.out.says HGP.out hlt ht)
          have hk := tok_at ht
          rw [size_len] at hk
          have hk1 := hk.1
          have hk2 := hk.2
          have HQ := Lib.hid (rone_ok text hs n hlt x k ht)
          clear ht hend hk
          go_wp2_with (first
            | (go_at_call 26; refine (HGC.out _).mono ?_; rintro e w2 ⟨rfl, hB2⟩; have I2 := Lib.hid (I.out.below hB2); have y0 : w2.cell? ⟨w.heap.size + 1, 0, none⟩ = some (.int .i64 (m : Int)) := (cell_row I2.out.sp 0).trans rfl; have y1 : w2.cell? ⟨w.heap.size + 1, 1, none⟩ = some (.int .i64 ((spotT text.data.toList m).1 : Nat)) := (cell_row I2.out.sp 1).trans rfl; have y2 : w2.cell? ⟨w.heap.size + 1, 2, none⟩ = some (.int .i64 ((spotT text.data.toList m).2 : Nat)) := (cell_row I2.out.sp 2).trans rfl; clear hB2)
            | (go_at_call 28; refine (HFU.out _).mono ?_; rintro e w3 ⟨rfl, hB3⟩; have I3 := Lib.hid (I2.out.below hB3); clear hB3 y0 y1 y2)
            | ((with_reducible refine gate_store (t := 25) (p := 6) rfl ?_); refine put_event rfl 25 _ _ rfl (w.heap.size + 1) (spotC text.data.toList n) rfl rfl 25 (spotC text.data.toList m) I3.out.sp (by kernel_rfl) rfl (spot_all _ _) (w.heap.size + 1) (Nat.le_refl _) ?_; intro w4 hblk4 hB4 hs4 ho4; have I4 := Lib.hid (I3.out.spot hblk4 (put_grown ho4 hB4) hin2 hnt HGG.out); clear hblk4 hB4 hs4 ho4)
            | (go_at_call 29; refine (HQ.out _).mono ?_; rintro e w5 ⟨rfl, hB5⟩; have I5 := Lib.hid (I4.out.below hB5); clear hB5)
            | (refine run_event rfl (.alloc 34) rfl (.pointer (some ⟨w5.heap.size, 0, none⟩)) (w5.alloc (.cells tok0 34)) (by kernel_rfl) ?_; intro w6 hw6; have B6 : Hid (Below w5.heap.size w5 w6) := Lib.hid (by rw [hw6]; exact alloc_below _ _); have G6 : Hid (w6.heap[w5.heap.size]? = some (.cells tok0 34 (0, 0))) := Lib.hid (by rw [hw6]; exact heap_alloc_new _ _); clear hw6)
            | ((with_reducible refine gate_store (t := 34) (p := 9) rfl ?_); refine put_event rfl 34 _ _ rfl w5.heap.size (tokCells x.kind 0 0 0 ⟨x.text.toArray⟩ x.val x.hex) rfl rfl 34 tok0 G6.out (by kernel_rfl) rfl (tok_all _ _ _ _ _ _ _) w5.heap.size (Nat.le_refl _) ?_; intro w7 hb7 hB7 hs7 ho7; have I7 := Lib.hid (I5.out.below (B6.out.trans hB7)); have G7 := Lib.hid hb7; have z0 : w7.cell? ⟨w.heap.size + 1, 0, none⟩ = some (.int .i64 (n : Int)) := (cell_row I7.out.sp 0).trans rfl; have z1 : w7.cell? ⟨w.heap.size + 1, 1, none⟩ = some (.int .i64 ((spotT text.data.toList n).1 : Nat)) := (cell_row I7.out.sp 1).trans rfl; have z2 : w7.cell? ⟨w.heap.size + 1, 2, none⟩ = some (.int .i64 ((spotT text.data.toList n).2 : Nat)) := (cell_row I7.out.sp 2).trans rfl; clear hb7 hB7 hs7 ho7)
            | ((with_reducible refine gate_store (t := 25) (p := 59) rfl ?_); refine spot_event rfl _ _ rfl w5.heap.size _ _ _ _ _ _ _ _ _ _ rfl rfl G7.out ?_; intro w9 h9 hg9; have H9 := Lib.hid (r9_put I5.out I7.out hg9); have x0 : w9.cell? ⟨w5.heap.size, 0, none⟩ = some (.int .i64 (x.kind : Int)) := (cell_row h9 0).trans rfl; have x1 : w9.cell? ⟨w5.heap.size, 1, none⟩ = some (.int .i64 (n : Int)) := (cell_row h9 1).trans rfl; have x2 : w9.cell? ⟨w5.heap.size, 2, none⟩ = some (.int .i64 ((spotT text.data.toList n).1 : Nat)) := (cell_row h9 2).trans rfl; have x3 : w9.cell? ⟨w5.heap.size, 3, none⟩ = some (.int .i64 ((spotT text.data.toList n).2 : Nat)) := (cell_row h9 3).trans rfl; have x4 : w9.cell? ⟨w5.heap.size, 4, none⟩ = some (.string ⟨x.text.toArray⟩) := (cell_row h9 4).trans rfl; have x5 : w9.cell? ⟨w5.heap.size, 5, none⟩ = some (.int .u32 (x.val : Int)) := (cell_row h9 5).trans rfl; have x6 : w9.cell? ⟨w5.heap.size, 6, none⟩ = some (.bool x.hex) := (cell_row h9 6).trans rfl; clear h9 hg9 z0 z1 z2)
            | (at_builtin; refine print_append_cells (w0 := w9) w1.heap.size rfl (.tmp 60) (.tmp 62) 22 34 (.agg tok0) 7 56 rfl Tryz.underlying22 (by kernel_rfl) rfl (by decide) (by decide) _ L.length _ (atCells text.data.toList (x, n)).toList rfl rfl rfl (tok_rows _ _ _ _ _ _ _) H9.out.own (Below.refl _ _) H9.out.big (by have := I.out.hL; omega) ?_; intro v3 w10 ho3 hB3 hg3 hat3; have HJ := Lib.hid (rs_next H9.out I.out.hL hk1 hk2 hin2 HX.out hB3 ho3); clear ho3 hB3 hg3 hat3))
          go_roundw
          case rel => exact ⟨n + k, _, n, by go_num, hk1, HJ⟩
          case measure => simp [intOf]; omega
end Go.Proofs.YtpecmmicndcgjaaGreatDoor.Tok

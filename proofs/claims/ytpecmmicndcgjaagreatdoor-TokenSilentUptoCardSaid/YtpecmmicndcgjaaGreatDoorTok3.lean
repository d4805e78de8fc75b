/- CONTRACT OF package token's quoted: a string's token and where it ends, or what is wrong and where. -/
import Derived.Test.YtpecmmicndcgjaaGreatDoorEv
import Derived.Test.YtpecmmicndcgjaaGreatDoorSpec
import Derived.Lib.Strings
namespace Go.Proofs.YtpecmmicndcgjaaGreatDoor.Tok
open Go.RowKit Go.Proofs.YtpecmmicndcgjaaGreatDoor.PA Go.Proofs.YtpecmmicndcgjaaGreatDoorW.PrintWords Go.Proofs.YtpecmmicndcgjaaGreatDoorW.PrintLast Go.Proofs.YtpecmmicndcgjaaGreatDoor.Sp
set_option linter.unusedVariables false
set_option linter.unusedSimpArgs false

def tokCells (k o l c : Int) (t : ByteArray) (v : Int) (h : Bool) : Array Value := #[.int .i64 k, .int .i64 o, .int .i64 l, .int .i64 c, .string t, .int .u32 v, .bool h]
def tokV (k o l c : Int) (t : ByteArray) (v : Int) (h : Bool) : Value := .agg (tokCells k o l c t v h)
def tok0 : Array Value := tokCells 0 0 0 0 ⟨#[]⟩ 0 false
theorem tok_all (k o l c : Int) (t : ByteArray) (v : Int) (h : Bool) : (tokCells k o l c t v h).all (·.oneCell') = true := by simp [tokCells, Value.oneCell']
def QuotedPost (text : ByteArray) (i : Nat) (w : World) (e : Ending) (w' : World) : Prop :=
  match qstr [] 1 (text.data.toList.drop (i + 1)) with
  | .ok (s, n) => i + n ≤ text.size ∧ e = .returned (.tuple #[tokV 3 0 0 0 ⟨s.toArray⟩ 0 false, .int .i64 (i + n : Nat), .nilIface]) ∧ Below w.heap.size w w'
  | .error (c, n) => i + n ≤ text.size ∧ ∃ b, e = .returned (.tuple #[.agg tok0, .int .i64 0, errV b]) ∧ w.heap.size ≤ b ∧ WrongAt w' b (i + n : Nat) c ∧ Below w.heap.size w w'

theorem quoted_nil (acc : Bs) (n : Nat) : qstr acc n [] = .error (22, 0) := rfl
theorem quoted_cons (acc : Bs) (n : Nat) (c : UInt8) (r : Bs) : qstr acc n (c :: r) =
    if c = 34 then (if acc.length > 255 then .error (24, 0) else .ok (acc, n + 1))
    else if plainB c = false then .error (22, n)
    else if c = 92 then (match r with | [] => .error (22, n) | d :: r' => if d = 34 ∨ d = 92 then qstr (acc ++ [d]) (n + 2) r' else .error (22, n))
    else qstr (acc ++ [c]) (n + 1) r := by
  cases r with
  | nil => simp only [qstr]
  | cons d r' => simp only [qstr]

def qw (w : World) : World := w.alloc (.cells tok0 34)
structure QInv (text : ByteArray) (i : Nat) (w : World) (v : Value) (n : Nat) (acc : Bs) (wr : World) : Prop where
  hn : 1 ≤ n
  hk : i + n ≤ text.size
  hlen : acc.length ≤ n
  own : wr.ownsRow (w.heap.size + 1) 5 1 v (ints acc).length (nums .u8 (ints acc))
  blk : wr.heap[w.heap.size]? = some (.cells tok0 34 (0, 0))
  bel : Below (w.heap.size + 1) (qw w) wr
  says : qstr acc n (text.data.toList.drop (i + n)) = qstr [] 1 (text.data.toList.drop (i + 1))
theorem QInv.start (text : ByteArray) (i : Nat) (w : World) (hi : i < text.size) : QInv text i w (.slice none 0 0) 1 [] (qw w) :=
  ⟨Nat.le_refl _, by omega, by simp, own_nil _ _ _ _, by simpa [qw] using heap_alloc_new w _, Below.refl _ _, rfl⟩
theorem QInv.size {text : ByteArray} {i : Nat} {w : World} {v : Value} {n : Nat} {acc : Bs} {wr : World} (q : QInv text i w v n acc wr) : w.heap.size + 1 ≤ wr.heap.size := by
  have := q.bel.size
  simpa [qw] using this
theorem QInv.whole {text : ByteArray} {i : Nat} {w : World} {v : Value} {n : Nat} {acc : Bs} {wr : World} (q : QInv text i w v n acc wr) : Below w.heap.size w wr :=
  ((Below.refl w.heap.size w).alloc (Nat.le_refl _) _).trans (q.bel.mono (by omega))
theorem QInv.below {text : ByteArray} {i : Nat} {w : World} {v : Value} {n : Nat} {acc : Bs} {wr w' : World} (q : QInv text i w v n acc wr) (h : Below wr.heap.size wr w') : QInv text i w v n acc w' :=
  { q with
    own := pw_own_below q.own h
    blk := (h.block _ (by have := q.size; omega)).trans q.blk
    bel := q.bel.trans (h.mono q.size) }
theorem drop_at (text : ByteArray) (m : Nat) (h : m < text.size) : text.data.toList.drop m = text[m] :: text.data.toList.drop (m + 1) := by
  have hlen : text.data.toList.length = text.size := by rw [Array.length_toList]; rfl
  rw [List.drop_eq_getElem_cons (by omega)]
  rfl
theorem plain_one (text : ByteArray) (m : Nat) (h : m < text.size) : plainS (text.extract m (m + 1)) = plainB text[m] := by
  unfold plainS
  rw [Lib.extract_data, drop_at text m h]
  simp [plainC, plainB]
theorem wrong_other {W W' : World} {b : Nat} {off c : Int} (h : WrongAt W b off c) (hb : W'.heap[b]? = W.heap[b]?) : WrongAt W' b off c := hb.trans h

theorem wrong_cast {W : World} {b : Nat} {o o' c : Int} (h : WrongAt W b o c) (e : o = o') : WrongAt W b o' c := e ▸ h
theorem quoted_bad {text : ByteArray} {i n b : Nat} {c : Int} {w wr w' w1 : World} {k : Nat} (h : qstr [] 1 (text.data.toList.drop (i + 1)) = .error (k, n)) (hc : c = k) (hn : i + n ≤ text.size) (hA : Below w.heap.size w wr) (hsz : w.heap.size < wr.heap.size) (hb1 : wr.heap.size ≤ b) (hb2 : WrongAt w' b (i + n : Nat) c) (hb3 : Below wr.heap.size wr w')
    (hB : Below w.heap.size w' w1) (ho : ∀ k, k ≠ w.heap.size → w1.heap[k]? = w'.heap[k]?) : QuotedPost text i w (.returned (.tuple #[.agg tok0, .int .i64 0, errV b])) w1 := by
  unfold QuotedPost
  rw [h]
  subst hc
  exact ⟨hn, b, rfl, by omega, wrong_other hb2 (ho b (by omega)), (hA.trans (hb3.mono (by omega))).trans hB⟩

set_option maxHeartbeats 4000000 in
set_option maxRecDepth 100000 in
theorem quoted_calls (text : ByteArray) (i : Nat) (w : World) (hi : i < text.size) (hs : text.size < 4294967281) :
    Calls Tryz.prog 78 #[.string text, .int .i64 i] w (QuotedPost text i w) := by
  have hu := Tryz.underlying34
  have hi34 : (Tryz.prog.info? 34).map (·.size) = some tok0.size := by kernel_rfl
  go_enter Tryz.func78, Tryz.ntmps78
  go_wp2
  go_loopw [7, 8] (fun v k wr => ∃ (n : Nat) (acc : Bs), k = .int .i64 (i + n : Nat) ∧ QInv text i w v n acc wr) (fun _ k _ => text.size - (intOf k).toNat)
  case atStart => exact ⟨1, [], by go_num, QInv.start text i w hi⟩
  case round =>
    obtain ⟨n, acc, rfl, Q⟩ := hrel
    have hn := Q.hn
    have hk := Q.hk
    have hln := Q.hlen
    have hsz := Q.size
    have hW := Q.whole
    obtain ⟨A, cp, rfl⟩ := own_slice Q.own
    by_cases hlt : i + n < text.size
    · have hd0 := drop_at text (i + n) hlt
      by_cases c34 : text[i + n] = 34
      · have hc34 : ((text[i + n].toNat : Int) == 34) = true := by rw [c34]; rfl
        by_cases hl : 255 < acc.length
        · have hsp : qstr [] 1 (text.data.toList.drop (i + 1)) = .error (24, 0) := by
            rw [← Q.says, hd0, quoted_cons, if_pos c34, if_pos hl]
          have HS := Lib.hid hsp; have HQ := Lib.hid Q; clear hsp hd0 Q c34
          have hl' : decide ((255 : Int) < ((ints acc).length : Int)) = true := decide_eq_true (by rw [ints_len]; omega)
          go_wp2_with (first
            | (go_at_call 45; refine (at_calls _ _ _).mono ?_; rintro e w' ⟨b, rfl, hb1, hb2, hb3⟩; have HQ' := Lib.hid (HQ.out.below hb3))
            | ((with_reducible refine gate_store (t := 34) (p := 4) rfl ?_); refine put_event rfl 34 _ _ rfl w.heap.size (tok0) rfl rfl 34 tok0 HQ'.out.blk hi34 rfl (tok_all _ _ _ _ _ _ _) w.heap.size (Nat.le_refl _) ?_; intro w1 hblk1 hB1 hsz1 hoth))
          refine bodyPost_ret (results_list (rs := [.cell 4 34, .tmp 5, .tmp 6]) rfl (by simp) (.cell w.heap.size 34 (tok0) (0, 0) _ rfl hblk1 Tryz.underlying34 rfl (by kernel_rfl) (.tmp (.tmp .nil)))) rfl ?_
          exact quoted_bad HS.out rfl (by omega) hW (by omega) hb1 hb2 hb3 hB1 hoth
        · have hsp : qstr [] 1 (text.data.toList.drop (i + 1)) = .ok (acc, n + 1) := by
            rw [← Q.says, hd0, quoted_cons, if_pos c34, if_neg hl]
          have HS := Lib.hid hsp
          have hl' : decide ((255 : Int) < ((ints acc).length : Int)) = false := decide_eq_false (by rw [ints_len]; omega)
          have hcv := own_string (P := Tryz.prog) Tryz.underlying48 Tryz.underlying5 Tryz.underlying9 Q.own
          have HQ := Lib.hid Q; clear hsp hd0 Q c34 hl
          go_wp2_with (first
            | ((with_reducible refine gate_store (t := 34) (p := 4) rfl ?_); refine put_event rfl 34 _ _ rfl w.heap.size (tokCells 3 0 0 0 (strOfNums (ints acc)) 0 false) rfl rfl 34 tok0 HQ.out.blk hi34 rfl (tok_all _ _ _ _ _ _ _) w.heap.size (Nat.le_refl _) ?_; intro w1 hblk1 hB1 hsz1 hoth))
          refine bodyPost_ret (results_list (rs := [.cell 4 34, .tmp 5, .tmp 6]) rfl (by simp) (.cell w.heap.size 34 (tokCells 3 0 0 0 (strOfNums (ints acc)) 0 false) (0, 0) _ rfl hblk1 Tryz.underlying34 rfl (by kernel_rfl) (.tmp (.tmp .nil)))) rfl ?_
          have hfin : QuotedPost text i w (.returned (.tuple #[tokV 3 0 0 0 (strOfNums (ints acc)) 0 false, .int .i64 (i + (n + 1) : Nat), .nilIface])) w1 := by
            unfold QuotedPost
            rw [HS.out, str_ints]
            exact ⟨by omega, rfl, hW.trans hB1⟩
          have hc : ((i : Int) + (n : Int) + 1) = ((i + (n + 1) : Nat) : Int) := by omega
          rw [← hc] at hfin
          exact hfin
      · have hc34 : ((text[i + n].toNat : Int) == 34) = false := by
          rw [beq_eq_false_iff_ne]
          intro h
          exact c34 (UInt8.toNat_inj.1 (by simp; omega))
        by_cases c92 : text[i + n] = 92
        · have hc92 : ((text[i + n].toNat : Int) == 92) = true := by rw [c92]; rfl
          have hpl : ¬ plainB text[i + n] = false := by rw [c92]; decide
          by_cases hlt2 : i + n + 1 < text.size
          · have hd1 := drop_at text (i + n + 1) hlt2
            by_cases hd : text[i + n + 1] = 34 ∨ text[i + n + 1] = 92
            · have hsp : qstr (acc ++ [text[i + n + 1]]) (n + 2) (text.data.toList.drop (i + (n + 2))) = qstr [] 1 (text.data.toList.drop (i + 1)) := by
                rw [← Q.says, hd0, quoted_cons, if_neg c34, if_neg hpl, if_pos c92, hd1]
                simp only
                rw [if_pos hd]
                rfl
              have HS := Lib.hid hsp; have HQ := Lib.hid Q; clear hsp hd0 hd1 Q c34 c92 hpl
              have hdd : ∃ dv : Int, Hid ((text[i + n + 1].toNat : Int) = dv) ∧ ((text[i + n + 1].toNat : Int) == dv) = true ∧ (dv = 34 ∨ dv = 92) := by
                rcases hd with h | h
                · exact ⟨34, Lib.hid (by rw [h]; rfl), by rw [h]; rfl, .inl rfl⟩
                · exact ⟨92, Lib.hid (by rw [h]; rfl), by rw [h]; rfl, .inr rfl⟩
              clear hd
              obtain ⟨dv, HD, d34, hdv⟩ := hdd
              have e1 : ((text[i + n + 1].toNat : Int) != 34) = (dv != 34) := by rw [HD.out]
              have e2 : ((text[i + n + 1].toNat : Int) != 92) = (dv != 92) := by rw [HD.out]
              have e3 : ((text[i + n + 1].toNat : Int) == 34) = (dv == 34) := by rw [HD.out]
              obtain rfl | rfl := hdv
              all_goals
                simp at e1 e2 e3
                go_wp2_with (first
                  | (at_builtin; refine print_append_num (w0 := qw w) (w.heap.size + 1) rfl (.tmp 66) (.tmp 70) 48 5 .u8 1 rfl Tryz.underlying48 info5 (by decide) (.slice A (ints acc).length cp) (ints acc) _ rfl rfl HQ.out.own HQ.out.bel (Nat.le_trans (by simp [qw]) HQ.out.size) ?hroom ?_; (case hroom => rw [ints_len]; omega); intro v1 w1 ho hb hg hat))
                have hq : QInv text i w v1 (n + 2) (acc ++ [text[i + n + 1]]) w1 := by
                  refine ⟨by omega, by omega, by simp; omega, by rw [ints_snoc, HD.out]; exact ho, ?_, hb, HS.out⟩
                  exact blk_grown (HQ.out.blk) hg (fun hne => by have := own_base HQ.out.own w.heap.size hne.symm; omega)
                go_roundw
                case rel => exact ⟨n + 2, _, by go_num, hq⟩
                case measure => simp [intOf]; omega
            · have hsp : qstr [] 1 (text.data.toList.drop (i + 1)) = .error (22, n) := by
                rw [← Q.says, hd0, quoted_cons, if_neg c34, if_neg hpl, if_pos c92, hd1]
                simp only
                rw [if_neg hd]
              have HS := Lib.hid hsp; have HQ := Lib.hid Q; clear hsp hd0 hd1 Q c34 c92 hpl
              have d34 : ((text[i + n + 1].toNat : Int) == 34) = false := by
                rw [beq_eq_false_iff_ne]
                intro h
                exact hd (.inl (UInt8.toNat_inj.1 (by simp; omega)))
              have d92 : ((text[i + n + 1].toNat : Int) == 92) = false := by
                rw [beq_eq_false_iff_ne]
                intro h
                exact hd (.inr (UInt8.toNat_inj.1 (by simp; omega)))
              have n34 : ((text[i + n + 1].toNat : Int) != 34) = true := by simpa using d34
              have n92 : ((text[i + n + 1].toNat : Int) != 92) = true := by simpa using d92
              clear hd
              go_wp2_with (first
                | (go_at_call 45; refine (at_calls _ _ _).mono ?_; rintro e w' ⟨b, rfl, hb1, hb2, hb3⟩; have HQ' := Lib.hid (HQ.out.below hb3))
                | ((with_reducible refine gate_store (t := 34) (p := 4) rfl ?_); refine put_event rfl 34 _ _ rfl w.heap.size (tok0) rfl rfl 34 tok0 HQ'.out.blk hi34 rfl (tok_all _ _ _ _ _ _ _) w.heap.size (Nat.le_refl _) ?_; intro w1 hblk1 hB1 hsz1 hoth))
              refine bodyPost_ret (results_list (rs := [.cell 4 34, .tmp 5, .tmp 6]) rfl (by simp) (.cell w.heap.size 34 (tok0) (0, 0) _ rfl hblk1 Tryz.underlying34 rfl (by kernel_rfl) (.tmp (.tmp .nil)))) rfl ?_
              exact quoted_bad HS.out rfl (by omega) hW (by omega) hb1 (wrong_cast hb2 (by omega)) hb3 hB1 hoth
          · have hnil : text.data.toList.drop (i + n + 1) = [] := List.drop_eq_nil_of_le (by rw [Array.length_toList]; show text.size ≤ _; omega)
            have hsp : qstr [] 1 (text.data.toList.drop (i + 1)) = .error (22, n) := by
              rw [← Q.says, hd0, quoted_cons, if_neg c34, if_neg hpl, if_pos c92, hnil]
            have HS := Lib.hid hsp; have HQ := Lib.hid Q; clear hsp hd0 hnil Q c34 c92 hpl
            go_wp2_with (first
              | (go_at_call 45; refine (at_calls _ _ _).mono ?_; rintro e w' ⟨b, rfl, hb1, hb2, hb3⟩; have HQ' := Lib.hid (HQ.out.below hb3))
              | ((with_reducible refine gate_store (t := 34) (p := 4) rfl ?_); refine put_event rfl 34 _ _ rfl w.heap.size (tok0) rfl rfl 34 tok0 HQ'.out.blk hi34 rfl (tok_all _ _ _ _ _ _ _) w.heap.size (Nat.le_refl _) ?_; intro w1 hblk1 hB1 hsz1 hoth))
            refine bodyPost_ret (results_list (rs := [.cell 4 34, .tmp 5, .tmp 6]) rfl (by simp) (.cell w.heap.size 34 (tok0) (0, 0) _ rfl hblk1 Tryz.underlying34 rfl (by kernel_rfl) (.tmp (.tmp .nil)))) rfl ?_
            exact quoted_bad HS.out rfl (by omega) hW (by omega) hb1 (wrong_cast hb2 (by omega)) hb3 hB1 hoth
        · have hc92 : ((text[i + n].toNat : Int) == 92) = false := by
            rw [beq_eq_false_iff_ne]
            intro h
            exact c92 (UInt8.toNat_inj.1 (by simp; omega))
          have hp1 := plain_one text (i + n) hlt
          have hsx : (text.extract (i + n) (i + n + 1)).size ≤ 9223372036854775807 := by rw [ByteArray.size_extract]; omega
          have hsl : ∀ wx, (Instr.slice 9 (.string text) (some (.int .i64 ((i : Int) + (n : Int)))) (some (.int .i64 ((i : Int) + (n : Int) + 1))) none).run Tryz.prog wx = .ok (.string (text.extract (i + n) (i + n + 1))) wx := by
            intro wx
            have h := run_slice_string (P := Tryz.prog) (w := wx) 9 text .i64 .i64 ((i : Int) + (n : Int)) ((i : Int) + (n : Int) + 1) Tryz.underlying9 (by omega) (by omega) (by omega)
            rw [h]
            rfl
          cases hpb : plainB text[i + n] with
          | false =>
            rw [hpb] at hp1
            have hsp : qstr [] 1 (text.data.toList.drop (i + 1)) = .error (22, n) := by
              rw [← Q.says, hd0, quoted_cons, if_neg c34, if_pos hpb]
            have HS := Lib.hid hsp; have HQ0 := Lib.hid Q; clear hsp hd0 Q c34 c92 hpb
            go_wp2_with (first
              | (go_at_call 33; refine (plain_calls _ _ ?_).mono ?_; exact hsx; rintro e wp ⟨rfl, hbp⟩; have HQ := Lib.hid (HQ0.out.below hbp))
              | (go_at_call 45; refine (at_calls _ _ _).mono ?_; rintro e w' ⟨b, rfl, hb1, hb2, hb3⟩; have HQ' := Lib.hid (HQ.out.below hb3))
              | ((with_reducible refine gate_store (t := 34) (p := 4) rfl ?_); refine put_event rfl 34 _ _ rfl w.heap.size (tok0) rfl rfl 34 tok0 HQ'.out.blk hi34 rfl (tok_all _ _ _ _ _ _ _) w.heap.size (Nat.le_refl _) ?_; intro w1 hblk1 hB1 hsz1 hoth))
            refine bodyPost_ret (results_list (rs := [.cell 4 34, .tmp 5, .tmp 6]) rfl (by simp) (.cell w.heap.size 34 (tok0) (0, 0) _ rfl hblk1 Tryz.underlying34 rfl (by kernel_rfl) (.tmp (.tmp .nil)))) rfl ?_
            exact quoted_bad HS.out rfl (by omega) (hW.trans (hbp.mono (by omega))) (Nat.lt_of_lt_of_le hsz hbp.size) hb1 (wrong_cast hb2 (by omega)) hb3 hB1 hoth
          | true =>
            rw [hpb] at hp1
            have hsp : qstr (acc ++ [text[i + n]]) (n + 1) (text.data.toList.drop (i + (n + 1))) = qstr [] 1 (text.data.toList.drop (i + 1)) := by
              rw [← Q.says, hd0, quoted_cons, if_neg c34, if_neg (by rw [hpb]; decide), if_neg c92]
              rfl
            have HS := Lib.hid hsp; have HQ0 := Lib.hid Q; clear hsp hd0 Q c34 c92 hpb
            go_wp2_with (first
              | (go_at_call 33; refine (plain_calls _ _ ?_).mono ?_; exact hsx; rintro e wp ⟨rfl, hbp⟩; have HQ := Lib.hid (HQ0.out.below hbp))
              | (at_builtin; refine print_append_num (w0 := qw w) (w.heap.size + 1) rfl (.tmp 21) (.tmp 23) 48 5 .u8 1 rfl Tryz.underlying48 info5 (by decide) (.slice A (ints acc).length cp) (ints acc) _ rfl rfl HQ.out.own HQ.out.bel (Nat.le_trans (by simp [qw]) HQ.out.size) ?hroom ?_; (case hroom => rw [ints_len]; omega); intro v1 w1 ho hb hg hat))
            have hq : QInv text i w v1 (n + 1) (acc ++ [text[i + n]]) w1 := by
              refine ⟨by omega, by omega, by simp; omega, by rw [ints_snoc]; exact ho, ?_, hb, HS.out⟩
              exact blk_grown (HQ.out.blk) hg (fun hne => by have := own_base HQ.out.own w.heap.size hne.symm; omega)
            go_roundw
            case rel => exact ⟨n + 1, _, by go_num, hq⟩
            case measure => simp [intOf]; omega
    · have hnil : text.data.toList.drop (i + n) = [] := List.drop_eq_nil_of_le (by rw [Array.length_toList]; show text.size ≤ _; omega)
      have hsp : qstr [] 1 (text.data.toList.drop (i + 1)) = .error (22, 0) := by
        rw [← Q.says, hnil]
        rfl
      have HS := Lib.hid hsp; have HQ := Lib.hid Q; clear hsp hnil Q
      go_wp2_with (first
        | (go_at_call 45; refine (at_calls _ _ _).mono ?_; rintro e w' ⟨b, rfl, hb1, hb2, hb3⟩; have HQ' := Lib.hid (HQ.out.below hb3))
        | ((with_reducible refine gate_store (t := 34) (p := 4) rfl ?_); refine put_event rfl 34 _ _ rfl w.heap.size (tok0) rfl rfl 34 tok0 HQ'.out.blk hi34 rfl (tok_all _ _ _ _ _ _ _) w.heap.size (Nat.le_refl _) ?_; intro w1 hblk1 hB1 hsz1 hoth))
      refine bodyPost_ret (results_list (rs := [.cell 4 34, .tmp 5, .tmp 6]) rfl (by simp) (.cell w.heap.size 34 (tok0) (0, 0) _ rfl hblk1 Tryz.underlying34 rfl (by kernel_rfl) (.tmp (.tmp .nil)))) rfl ?_
      exact quoted_bad HS.out rfl (by omega) hW (by omega) hb1 hb2 hb3 hB1 hoth
end Go.Proofs.YtpecmmicndcgjaaGreatDoor.Tok

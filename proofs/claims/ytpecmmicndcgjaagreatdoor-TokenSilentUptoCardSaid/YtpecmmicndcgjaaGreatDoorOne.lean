/- CONTRACT: package token's one: the token that begins at a place, or what is wrong there. -/
import Derived.Test.YtpecmmicndcgjaaGreatDoorNum3
import Derived.Test.YtpecmmicndcgjaaGreatDoorMark
import Derived.Test.YtpecmmicndcgjaaGreatDoorLawB
import Derived.Outline
namespace Go.Proofs.YtpecmmicndcgjaaGreatDoor.Tok
open Go.RowKit Go.Proofs.YtpecmmicndcgjaaGreatDoor.PA Go.Proofs.YtpecmmicndcgjaaGreatDoorW.PrintWords Go.Proofs.YtpecmmicndcgjaaGreatDoorW.PrintLast Go.Proofs.YtpecmmicndcgjaaGreatDoor.Sp
set_option linter.unusedVariables false
set_option linter.unusedSimpArgs false
set_option maxRecDepth 100000

def tokOf (x : Tok) : Value := tokV x.kind 0 0 0 ⟨x.text.toArray⟩ x.val x.hex
def OnePost (text : ByteArray) (i : Nat) (w : World) (e : Ending) (w' : World) : Prop :=
  match tok1 (text.data.toList.drop i) with
  | .ok (x, k) => i + k ≤ text.size ∧ e = .returned (.tuple #[tokOf x, .int .i64 (i + k : Nat), .nilIface]) ∧ Below w.heap.size w w'
  | .error (c, k) => i + k ≤ text.size ∧ ∃ b, e = .returned (.tuple #[.agg tok0, .int .i64 0, errV b]) ∧ w.heap.size ≤ b ∧ WrongAt w' b (i + k : Nat) c ∧ Below w.heap.size w w'
structure OI (w wr : World) : Prop where
  r : wr.heap[w.heap.size]? = some (.cells tok0 34 (0, 0))
  lt : w.heap.size < wr.heap.size
  bel : Below w.heap.size w wr
theorem OI.below {w wr w2 : World} (I : OI w wr) (hB : Below wr.heap.size wr w2) : OI w w2 :=
  ⟨(hB.block _ I.lt).trans I.r, Nat.lt_of_lt_of_le I.lt hB.size, I.bel.trans (hB.mono (by have := I.lt; omega))⟩
theorem OI.new (w : World) : OI w (w.alloc (.cells tok0 34)) :=
  ⟨heap_alloc_new _ _, by simp, (Below.refl _ _).alloc (Nat.le_refl _) _⟩
theorem OI.alloc_eq {w wr w' : World} {ob : Obj} (h : OI w wr) (hw : w' = wr.alloc ob) : OI w w' := h.below (by rw [hw]; exact alloc_below _ _)
theorem OI.put {w w1 a b : World} (h : OI w a) (hl : w.heap.size < w1.heap.size) (hB : Below w1.heap.size a b) (hs : a.heap.size ≤ b.heap.size) : OI w b :=
  ⟨(hB.block _ hl).trans h.r, Nat.lt_of_lt_of_le h.lt hs, h.bel.trans (hB.mono (by omega))⟩
def marksL : List (UInt8 × Nat) := [(123, 4), (125, 5), (61, 6), (59, 7), (58, 8)]
theorem mark_idx (j : Nat) (h : j < 5) : ∃ (m : UInt8) (k : Nat), (∀ W, (Instr.index 76 marksV (.int .i64 (j : Int))).run Tryz.prog W = .ok (.agg #[.int .u8 (m.toNat : Int), .int .i64 (k : Int)]) W) ∧ Hid (markK m = k ∧ k ≠ 0 ∧ marksL[j]? = some (m, k)) := by
  have hj : j = 0 ∨ j = 1 ∨ j = 2 ∨ j = 3 ∨ j = 4 := by omega
  rcases hj with rfl | rfl | rfl | rfl | rfl
  · exact ⟨123, 4, fun W => idx_mark0 W, Lib.hid ⟨by decide, by decide, rfl⟩⟩
  · exact ⟨125, 5, fun W => idx_mark1 W, Lib.hid ⟨by decide, by decide, rfl⟩⟩
  · exact ⟨61, 6, fun W => idx_mark2 W, Lib.hid ⟨by decide, by decide, rfl⟩⟩
  · exact ⟨59, 7, fun W => idx_mark3 W, Lib.hid ⟨by decide, by decide, rfl⟩⟩
  · exact ⟨58, 8, fun W => idx_mark4 W, Lib.hid ⟨by decide, by decide, rfl⟩⟩
theorem mark_of_ne (c : UInt8) (h : ∀ j m k, j < 5 → marksL[j]? = some (m, k) → c ≠ m) : markK c = 0 := by
  have h0 := h 0 123 4 (by omega) rfl
  have h1 := h 1 125 5 (by omega) rfl
  have h2 := h 2 61 6 (by omega) rfl
  have h3 := h 3 59 7 (by omega) rfl
  have h4 := h 4 58 8 (by omega) rfl
  simp [markK, h0, h1, h2, h3, h4]
theorem letter_calls (c : UInt8) (w : World) : Calls Tryz.prog 61 #[.int .u8 (c.toNat : Int)] w fun e w' => e = .returned (.bool (letterB c)) ∧ Below w.heap.size w w' :=
  (token_letter.calls _ _ w (letter_spec c)).mono fun e w' ⟨he, ⟨n, hn⟩⟩ => ⟨he, by rw [hn]; exact below_dN (Below.refl _ _) _⟩
theorem letter_is {c : UInt8} {b : Bool} (h : letterB c = b) (w : World) : Calls Tryz.prog 61 #[.int .u8 (c.toNat : Int)] w fun e w' => e = .returned (.bool b) ∧ Below w.heap.size w w' := by
  have := letter_calls c w; rw [h] at this; exact this
theorem word_calls (t : ByteArray) (i : Nat) (hi : i ≤ t.size) (ht : t.size < 9223372036854775807) (n : Int) (hn : n = ((i + wordLen (t.data.toList.drop i) : Nat) : Int)) (w : World) : Calls Tryz.prog 62 #[.string t, .int .i64 (i : Int)] w fun e w' => e = .returned (.int .i64 n) ∧ Below w.heap.size w w' := by
  subst hn
  have h := word_spec t ht (t.size - i) i (by omega)
  exact (token_word.calls (t.size - i + 1) t i _ w h).mono fun e w' ⟨he, ⟨n, hn⟩⟩ => ⟨he, by rw [hn]; exact below_dN (Below.refl _ _) _⟩
theorem slice_word (t : ByteArray) (i : Nat) (hi : i ≤ t.size) (n : Int) (hn : n = ((i + wordLen (t.data.toList.drop i) : Nat) : Int)) : ∃ S : ByteArray, (∀ wx, (Instr.slice 9 (.string t) (some (.int .i64 (i : Int))) (some (.int .i64 n)) none).run Tryz.prog wx = .ok (.string S) wx) ∧ S.size = wordLen (t.data.toList.drop i) ∧ Hid (S = ⟨((t.data.toList.drop i).take (wordLen (t.data.toList.drop i))).toArray⟩) := by
  have hl := wlen_le (t.data.toList.drop i)
  have hlen : t.data.toList.length = t.size := by rw [Array.length_toList]; rfl
  rw [List.length_drop, hlen] at hl
  refine ⟨⟨((t.data.toList.drop i).take (wordLen (t.data.toList.drop i))).toArray⟩, fun wx => ?_, ?_, Lib.hid rfl⟩
  · have h := run_slice_string (P := Tryz.prog) (w := wx) 9 t .i64 .i64 (i : Int) n Tryz.underlying9 (by omega) (by omega) (by omega)
    rw [h]
    congr 2
    have e1 : ((i : Int)).toNat = i := by omega
    have e2 : n.toNat = i + wordLen (t.data.toList.drop i) := by omega
    rw [e1, e2]
    apply ByteArray.ext
    apply Array.toList_inj.1
    rw [Lib.extract_data]
    simp
  · show (((t.data.toList.drop i).take (wordLen (t.data.toList.drop i))).toArray).size = _
    rw [List.size_toArray, List.length_take, List.length_drop, hlen]
    omega

set_option maxHeartbeats 16000000 in
theorem one_calls (text : ByteArray) (i : Nat) (w : World) (hi : i < text.size) (hs : text.size ≤ 1048576) (hG : Glob w) :
    Calls Tryz.prog 47 #[.string text, .int .i64 (i : Int)] w (OnePost text i w) := by
  have hdr := Lib.hid (at_drop text i hi)
  have HG := Lib.hid hG
  clear hG
  obtain ⟨c, hc⟩ : ∃ c, c = text[i] := ⟨_, rfl⟩
  have hix : ∀ wx, (Instr.index 9 (.string text) (.int .i64 (i : Int))).run Tryz.prog wx = .ok (.int .u8 (c.toNat : Int)) wx := fun wx => by
    rw [run_index_string wx 9 text .i64 _ Tryz.underlying9, dif_pos ⟨by omega, by omega⟩, hc]
    rfl
  have HD : Hid (text.data.toList.drop i = c :: text.data.toList.drop (i + 1)) := Lib.hid (by rw [hdr.out, hc])
  clear hc hdr
  go_enter Tryz.func47, Tryz.ntmps47
  go_wp2_with (first
    | (refine run_event rfl (.alloc 34) rfl (.pointer (some ⟨w.heap.size, 0, none⟩)) (w.alloc (.cells tok0 34)) (by kernel_rfl) ?_; intro w0 hw0; have J0 : Hid (OI w w0) := Lib.hid (by rw [hw0]; exact OI.new w); clear hw0)
    | (go_at_call 36; refine (marks_calls _).mono ?_; rintro e w1 ⟨rfl, hB1⟩; have J1 : Hid (OI w w1) := Lib.hid (J0.out.below hB1); clear hB1))
  go_loopw [18] (fun v wr => ∃ j : Nat, v = .int .i64 (j : Int) ∧ j ≤ 5 ∧ Hid (∀ j' m k, j' < j → marksL[j']? = some (m, k) → c ≠ m) ∧ Hid (OI w wr)) (fun v _ => 5 - (intOf v).toNat)
  case atStart => exact ⟨0, by go_num, by omega, Lib.hid (fun j' m k h => by omega), J1⟩
  case round =>
    obtain ⟨j, rfl, hj, HN, I0⟩ := hrel
    by_cases hlt : j < 5
    · obtain ⟨m, k, hidx, HM⟩ := mark_idx j hlt
      by_cases hm : c = m
      · have HC := Lib.hid hm
        have e0 : ((m.toNat : Int) == (c.toNat : Int)) = true := by rw [hm]; simp
        have HO : Hid (tok1 (text.data.toList.drop i) = .ok (⟨k, [], 0, false⟩, 1)) := Lib.hid (by
          obtain ⟨h1, h2, _⟩ := HM.out
          have h3 : markK c = k := by rw [HC.out]; exact h1
          rw [HD.out, tok1_mark _ (by rw [h3]; exact h2), h3])
        clear hm
        go_wp2_with (first
          | (refine run_event rfl (.alloc 75) rfl (.pointer (some ⟨wr.heap.size, 0, none⟩)) (wr.alloc (.cells #[.int .u8 0, .int .i64 0] 75)) (by kernel_rfl) ?_; intro a0 ha0; have A0 : Hid (OI w a0) := Lib.hid (I0.out.alloc_eq ha0); have G0 : Hid (a0.heap[wr.heap.size]? = some (.cells #[.int .u8 0, .int .i64 0] 75 (0, 0))) := Lib.hid (by rw [ha0]; exact heap_alloc_new _ _); clear ha0)
          | ((with_reducible refine gate_store (t := 75) (p := 9) rfl ?_); refine put_event rfl 75 _ _ rfl wr.heap.size #[.int .u8 (m.toNat : Int), .int .i64 (k : Int)] rfl rfl 75 #[.int .u8 0, .int .i64 0] G0.out (by kernel_rfl) rfl (two_all _ _) wr.heap.size (Nat.le_refl _) ?_; intro b0 hb0 hB0 hs0 ho0; have I1 : Hid (OI w b0) := Lib.hid (OI.put A0.out I0.out.lt hB0 (by omega)); have c0 : b0.cell? ⟨wr.heap.size, 1, none⟩ = some (.int .i64 (k : Int)) := (cell_row hb0 1).trans rfl; have d0 : b0.cell? ⟨wr.heap.size, 0, none⟩ = some (.int .u8 (m.toNat : Int)) := (cell_row hb0 0).trans rfl; clear hb0 hB0 hs0 ho0)
          | ((with_reducible refine gate_store (t := 34) (p := 4) rfl ?_); refine put_event rfl 34 _ _ rfl w.heap.size (tokCells (k : Int) 0 0 0 ⟨#[]⟩ 0 false) rfl rfl 34 tok0 I1.out.r (by kernel_rfl) rfl (tok_all _ _ _ _ _ _ _) w.heap.size (Nat.le_refl _) ?_; intro wz hblkz hBz hszz hothz; have BZ := Lib.hid hBz; have OZ := Lib.hid hothz; clear hBz hszz hothz))
        refine bodyPost_ret (results_list (rs := [.cell 4 34, .tmp 5, .tmp 6]) rfl (by simp) (.cell w.heap.size 34 (tokCells (k : Int) 0 0 0 ⟨#[]⟩ 0 false) (0, 0) _ rfl hblkz Tryz.underlying34 rfl (by kernel_rfl) (.tmp (.tmp .nil)))) rfl ?_
        unfold OnePost
        rw [HO.out]
        exact ⟨by omega, rfl, I1.out.bel.trans BZ.out⟩
      · have e0 : ((m.toNat : Int) == (c.toNat : Int)) = false := by
          rw [beq_eq_false_iff_ne]; intro h; exact hm (UInt8.toNat_inj.1 (by omega))
        have HN2 : Hid (∀ j' m k, j' < j + 1 → marksL[j']? = some (m, k) → c ≠ m) := Lib.hid (by
          intro j' m' k' h1 h2
          rcases Nat.lt_or_ge j' j with h | h
          · exact HN.out j' m' k' h h2
          · obtain rfl : j' = j := by omega
            rw [HM.out.2.2] at h2
            simp only [Option.some.injEq, Prod.mk.injEq] at h2
            rw [← h2.1]; exact hm)
        clear hm
        go_wp2_with (first
          | (refine run_event rfl (.alloc 75) rfl (.pointer (some ⟨wr.heap.size, 0, none⟩)) (wr.alloc (.cells #[.int .u8 0, .int .i64 0] 75)) (by kernel_rfl) ?_; intro a0 ha0; have A0 : Hid (OI w a0) := Lib.hid (I0.out.alloc_eq ha0); have G0 : Hid (a0.heap[wr.heap.size]? = some (.cells #[.int .u8 0, .int .i64 0] 75 (0, 0))) := Lib.hid (by rw [ha0]; exact heap_alloc_new _ _); clear ha0)
          | ((with_reducible refine gate_store (t := 75) (p := 9) rfl ?_); refine put_event rfl 75 _ _ rfl wr.heap.size #[.int .u8 (m.toNat : Int), .int .i64 (k : Int)] rfl rfl 75 #[.int .u8 0, .int .i64 0] G0.out (by kernel_rfl) rfl (two_all _ _) wr.heap.size (Nat.le_refl _) ?_; intro b0 hb0 hB0 hs0 ho0; have I1 : Hid (OI w b0) := Lib.hid (OI.put A0.out I0.out.lt hB0 (by omega)); have c0 : b0.cell? ⟨wr.heap.size, 1, none⟩ = some (.int .i64 (k : Int)) := (cell_row hb0 1).trans rfl; have d0 : b0.cell? ⟨wr.heap.size, 0, none⟩ = some (.int .u8 (m.toNat : Int)) := (cell_row hb0 0).trans rfl; clear hb0 hB0 hs0 ho0))
        go_roundw
        case rel => exact ⟨j + 1, by go_num, by omega, HN2, I1⟩
        case measure => simp [intOf]; omega
    · have HK : Hid (markK c = 0) := Lib.hid (mark_of_ne c fun j' m k h1 h2 => HN.out j' m k (by omega) h2)
      obtain rfl : j = 5 := by omega
      have hn0 : ∃ n : Int, n = ((i + wordLen (text.data.toList.drop i) : Nat) : Int) := ⟨_, rfl⟩
      obtain ⟨n, hn⟩ := hn0
      have hwl := wlen_le (text.data.toList.drop i)
      rw [List.length_drop, show text.data.toList.length = text.size from by rw [Array.length_toList]; rfl] at hwl
      obtain ⟨S, hsl, hSs, HS⟩ := slice_word text i (by omega) n hn
      have HNN := Lib.hid hn
      have hSsz : S.size ≤ 1048576 := by omega
      have hSle : i + S.size ≤ text.size := by omega
      have hnI : n = (i : Int) + (S.size : Int) := by omega
      have HSs := Lib.hid hSs
      have HNI := Lib.hid hnI
      have hn0 : 0 ≤ n := by omega
      have hn1 : n ≤ (text.size : Int) := by omega
      have hni : (i : Int) ≤ n := by omega
      clear hn hSs hwl hnI hlt hj
      cases hl : letterB c with
      | true =>
        have HL := Lib.hid hl
        clear hl
        by_cases h63 : 63 < S.size
        · have HO : Hid (tok1 (text.data.toList.drop i) = .error (24, 0)) := Lib.hid (by
            rw [HD.out, tok1_name HL.out, ← HD.out, if_pos (by have := HSs.out; omega)])
          have dd : decide ((63 : Int) < n - (i : Int)) = true := decide_eq_true (by have := HNI.out; omega)
          clear h63
          go_wp2_with (first
            | (go_at_call 61; refine (letter_is HL.out _).mono ?_; rintro e w2 ⟨rfl, hB2⟩; have I2 : Hid (OI w w2) := Lib.hid (I0.out.below hB2); clear hB2)
            | (go_at_call 62; refine (word_calls text i (by omega) (by omega) n HNN.out _).mono ?_; rintro e w3 ⟨rfl, hB3⟩; have I3 : Hid (OI w w3) := Lib.hid (I2.out.below hB3); clear hB3)
            | (go_at_call 45; refine (at_calls _ _ _).mono ?_; rintro e w4 ⟨b, rfl, hb1, hb2, hb3⟩; have I4 : Hid (OI w w4) := Lib.hid (I3.out.below hb3); have HW := Lib.hid hb2; have HB := Lib.hid hb1; clear hb1 hb2 hb3)
            | ((with_reducible refine gate_store (t := 34) (p := 4) rfl ?_); refine put_event rfl 34 _ _ rfl w.heap.size (tok0) rfl rfl 34 tok0 I4.out.r (by kernel_rfl) rfl (tok_all _ _ _ _ _ _ _) w.heap.size (Nat.le_refl _) ?_; intro wz hblkz hBz hszz hothz; have BZ := Lib.hid hBz; have OZ := Lib.hid hothz; clear hBz hszz hothz))
          refine bodyPost_ret (results_list (rs := [.cell 4 34, .tmp 5, .tmp 6]) rfl (by simp) (.cell w.heap.size 34 (tok0) (0, 0) _ rfl hblkz Tryz.underlying34 rfl (by kernel_rfl) (.tmp (.tmp .nil)))) rfl ?_
          unfold OnePost
          rw [HO.out]
          exact ⟨by omega, b, rfl, by have := HB.out; have := I3.out.lt; omega, wrong_other HW.out (OZ.out b (by have := HB.out; have := I3.out.lt; omega)), I4.out.bel.trans BZ.out⟩
        · have HO : Hid (tok1 (text.data.toList.drop i) = .ok (⟨1, S.data.toList, 0, false⟩, S.size)) := Lib.hid (by
            rw [HD.out, tok1_name HL.out, ← HD.out, if_neg (by have := HSs.out; omega), HSs.out, HS.out])
          have dd : decide ((63 : Int) < n - (i : Int)) = false := decide_eq_false (by have := HNI.out; omega)
          clear h63
          go_wp2_with (first
            | (go_at_call 61; refine (letter_is HL.out _).mono ?_; rintro e w2 ⟨rfl, hB2⟩; have I2 : Hid (OI w w2) := Lib.hid (I0.out.below hB2); clear hB2)
            | (go_at_call 62; refine (word_calls text i (by omega) (by omega) n HNN.out _).mono ?_; rintro e w3 ⟨rfl, hB3⟩; have I3 : Hid (OI w w3) := Lib.hid (I2.out.below hB3); clear hB3)
            | ((with_reducible refine gate_store (t := 34) (p := 4) rfl ?_); refine put_event rfl 34 _ _ rfl w.heap.size (tokCells 1 0 0 0 S 0 false) rfl rfl 34 tok0 I3.out.r (by kernel_rfl) rfl (tok_all _ _ _ _ _ _ _) w.heap.size (Nat.le_refl _) ?_; intro wz hblkz hBz hszz hothz; have BZ := Lib.hid hBz; have OZ := Lib.hid hothz; clear hBz hszz hothz))
          refine bodyPost_ret (results_list (rs := [.cell 4 34, .tmp 5, .tmp 6]) rfl (by simp) (.cell w.heap.size 34 (tokCells 1 0 0 0 S 0 false) (0, 0) _ rfl hblkz Tryz.underlying34 rfl (by kernel_rfl) (.tmp (.tmp .nil)))) rfl ?_
          unfold OnePost
          rw [HO.out]
          refine ⟨hSle, ?_, I3.out.bel.trans BZ.out⟩
          unfold tokOf
          have HSe : (⟨S.data.toList.toArray⟩ : ByteArray) = S := by cases S; simp
          rw [HSe, show ((i + S.size : Nat) : Int) = n from by have := HNI.out; omega]
          rfl
      | false =>
        have HL := Lib.hid hl
        clear hl
        cases hd : digitB c with
        | true =>
          have hS0 : 0 < S.size := by
            have := wlen_pos (c := c) (r := text.data.toList.drop (i + 1)) (by simp [partB, hd])
            rw [← HD.out, ← HSs.out] at this
            exact this
          have HDG := Lib.hid hd
          clear hd
          cases hnl : numL S.data.toList with
          | none =>
            have HO : Hid (tok1 (text.data.toList.drop i) = .error (21, 0)) := Lib.hid (by
              rw [HD.out, tok1_num HDG.out, ← HD.out]
              have : numL ((text.data.toList.drop i).take (wordLen (text.data.toList.drop i))) = none := by rw [← hnl, HS.out]
              rw [this])
            have HP : Hid (∀ W, Glob W → Calls Tryz.prog 77 #[.string S] W fun e w' => (∃ v h, e = .returned (.tuple #[.agg (tokCells 2 0 0 0 ⟨#[]⟩ v h), .bool false])) ∧ Below W.heap.size W w') := Lib.hid (fun W hW => (number_calls S W hS0 hSsz hW).mono fun e w' h => by
              unfold NumPost at h; rw [hnl] at h; obtain ⟨a, v, h, e⟩ := h; exact ⟨⟨v, h, e⟩, a⟩)
            clear hnl
            go_wp2_with (first
              | (go_at_call 61; refine (letter_is HL.out _).mono ?_; rintro e w2 ⟨rfl, hB2⟩; have I2 : Hid (OI w w2) := Lib.hid (I0.out.below hB2); clear hB2)
              | (go_at_call 76; refine (digit_yes HDG.out _).mono ?_; rintro e wd ⟨rfl, rfl⟩)
              | (go_at_call 62; refine (word_calls text i (by omega) (by omega) n HNN.out _).mono ?_; rintro e w3 ⟨rfl, hB3⟩; have I3 : Hid (OI w w3) := Lib.hid (I2.out.below hB3); clear hB3)
              | (go_at_call 77; refine (HP.out _ (HG.out.below I3.out.bel)).mono ?_; rintro e w5 ⟨⟨nv, nh, rfl⟩, hB5⟩; have I5 : Hid (OI w w5) := Lib.hid (I3.out.below hB5); clear hB5)
              | (refine run_event rfl (.alloc 34) rfl (.pointer (some ⟨w5.heap.size, 0, none⟩)) (w5.alloc (.cells tok0 34)) (by kernel_rfl) ?_; intro w6 hw6; have I6 : Hid (OI w w6) := Lib.hid (I5.out.alloc_eq hw6); have G6 : Hid (w6.heap[w5.heap.size]? = some (.cells tok0 34 (0, 0))) := Lib.hid (by rw [hw6]; exact heap_alloc_new _ _); clear hw6)
              | ((with_reducible refine gate_store (t := 34) (p := 12) rfl ?_); refine put_event rfl 34 _ _ rfl w5.heap.size (tokCells 2 0 0 0 ⟨#[]⟩ nv nh) rfl rfl 34 tok0 G6.out (by kernel_rfl) rfl (tok_all _ _ _ _ _ _ _) w5.heap.size (Nat.le_refl _) ?_; intro w7 hb7 hB7 hs7 ho7; have I7 : Hid (OI w w7) := Lib.hid (OI.put I6.out I5.out.lt hB7 (by omega)); clear hb7 hB7 hs7 ho7)
              | (go_at_call 45; refine (at_calls _ _ _).mono ?_; rintro e w4 ⟨b, rfl, hb1, hb2, hb3⟩; have I4 : Hid (OI w w4) := Lib.hid (I7.out.below hb3); have HW := Lib.hid hb2; have HB := Lib.hid hb1; clear hb1 hb2 hb3)
              | ((with_reducible refine gate_store (t := 34) (p := 4) rfl ?_); refine put_event rfl 34 _ _ rfl w.heap.size (tok0) rfl rfl 34 tok0 I4.out.r (by kernel_rfl) rfl (tok_all _ _ _ _ _ _ _) w.heap.size (Nat.le_refl _) ?_; intro wz hblkz hBz hszz hothz; have BZ := Lib.hid hBz; have OZ := Lib.hid hothz; clear hBz hszz hothz))
            refine bodyPost_ret (results_list (rs := [.cell 4 34, .tmp 5, .tmp 6]) rfl (by simp) (.cell w.heap.size 34 (tok0) (0, 0) _ rfl hblkz Tryz.underlying34 rfl (by kernel_rfl) (.tmp (.tmp .nil)))) rfl ?_
            unfold OnePost
            rw [HO.out]
            exact ⟨by omega, b, rfl, by have := HB.out; have := I7.out.lt; omega, wrong_other HW.out (OZ.out b (by have := HB.out; have := I7.out.lt; omega)), I4.out.bel.trans BZ.out⟩
          | some vh =>
            obtain ⟨v, h⟩ := vh
            have HO : Hid (tok1 (text.data.toList.drop i) = .ok (⟨2, [], v, h⟩, S.size)) := Lib.hid (by
              rw [HD.out, tok1_num HDG.out, ← HD.out]
              have : numL ((text.data.toList.drop i).take (wordLen (text.data.toList.drop i))) = some (v, h) := by rw [← hnl, HS.out]
              rw [this, HSs.out])
            have HP : Hid (∀ W, Glob W → Calls Tryz.prog 77 #[.string S] W fun e w' => e = .returned (.tuple #[.agg (tokCells 2 0 0 0 ⟨#[]⟩ v h), .bool true]) ∧ Below W.heap.size W w') := Lib.hid (fun W hW => (number_calls S W hS0 hSsz hW).mono fun e w' h => by
              unfold NumPost at h; rw [hnl] at h; exact ⟨h.2, h.1⟩)
            clear hnl
            go_wp2_with (first
              | (go_at_call 61; refine (letter_is HL.out _).mono ?_; rintro e w2 ⟨rfl, hB2⟩; have I2 : Hid (OI w w2) := Lib.hid (I0.out.below hB2); clear hB2)
              | (go_at_call 76; refine (digit_yes HDG.out _).mono ?_; rintro e wd ⟨rfl, rfl⟩)
              | (go_at_call 62; refine (word_calls text i (by omega) (by omega) n HNN.out _).mono ?_; rintro e w3 ⟨rfl, hB3⟩; have I3 : Hid (OI w w3) := Lib.hid (I2.out.below hB3); clear hB3)
              | (go_at_call 77; refine (HP.out _ (HG.out.below I3.out.bel)).mono ?_; rintro e w5 ⟨rfl, hB5⟩; have I5 : Hid (OI w w5) := Lib.hid (I3.out.below hB5); clear hB5)
              | (refine run_event rfl (.alloc 34) rfl (.pointer (some ⟨w5.heap.size, 0, none⟩)) (w5.alloc (.cells tok0 34)) (by kernel_rfl) ?_; intro w6 hw6; have I6 : Hid (OI w w6) := Lib.hid (I5.out.alloc_eq hw6); have G6 : Hid (w6.heap[w5.heap.size]? = some (.cells tok0 34 (0, 0))) := Lib.hid (by rw [hw6]; exact heap_alloc_new _ _); clear hw6)
              | ((with_reducible refine gate_store (t := 34) (p := 12) rfl ?_); refine put_event rfl 34 _ _ rfl w5.heap.size (tokCells 2 0 0 0 ⟨#[]⟩ (v : Int) h) rfl rfl 34 tok0 G6.out (by kernel_rfl) rfl (tok_all _ _ _ _ _ _ _) w5.heap.size (Nat.le_refl _) ?_; intro w7 hb7 hB7 hs7 ho7; have I7 : Hid (OI w w7) := Lib.hid (OI.put I6.out I5.out.lt hB7 (by omega)); have y0 : w7.cell? ⟨w5.heap.size, 0, none⟩ = some (.int .i64 2) := (cell_row hb7 0).trans rfl; have y1 : w7.cell? ⟨w5.heap.size, 1, none⟩ = some (.int .i64 0) := (cell_row hb7 1).trans rfl; have y2 : w7.cell? ⟨w5.heap.size, 2, none⟩ = some (.int .i64 0) := (cell_row hb7 2).trans rfl; have y3 : w7.cell? ⟨w5.heap.size, 3, none⟩ = some (.int .i64 0) := (cell_row hb7 3).trans rfl; have y4 : w7.cell? ⟨w5.heap.size, 4, none⟩ = some (.string ⟨#[]⟩) := (cell_row hb7 4).trans rfl; have y5 : w7.cell? ⟨w5.heap.size, 5, none⟩ = some (.int .u32 (v : Int)) := (cell_row hb7 5).trans rfl; have y6 : w7.cell? ⟨w5.heap.size, 6, none⟩ = some (.bool h) := (cell_row hb7 6).trans rfl; clear hb7 hB7 hs7 ho7)
              | ((with_reducible refine gate_store (t := 34) (p := 4) rfl ?_); refine put_event rfl 34 _ _ rfl w.heap.size (tokCells 2 0 0 0 ⟨#[]⟩ (v : Int) h) rfl rfl 34 tok0 I7.out.r (by kernel_rfl) rfl (tok_all _ _ _ _ _ _ _) w.heap.size (Nat.le_refl _) ?_; intro wz hblkz hBz hszz hothz; have BZ := Lib.hid hBz; have OZ := Lib.hid hothz; clear hBz hszz hothz))
            refine bodyPost_ret (results_list (rs := [.cell 4 34, .tmp 5, .tmp 6]) rfl (by simp) (.cell w.heap.size 34 (tokCells 2 0 0 0 ⟨#[]⟩ (v : Int) h) (0, 0) _ rfl hblkz Tryz.underlying34 rfl (by kernel_rfl) (.tmp (.tmp .nil)))) rfl ?_
            unfold OnePost
            rw [HO.out]
            refine ⟨hSle, ?_, I7.out.bel.trans BZ.out⟩
            unfold tokOf
            rw [show ((i + S.size : Nat) : Int) = n from by have := HNI.out; omega]
            rfl
        | false =>
          have HDG := Lib.hid hd
          clear hd
          by_cases c34 : c = 34
          · have e34 : ((c.toNat : Int) == 34) = true := by rw [c34]; rfl
            have HT : Hid (tok1 (text.data.toList.drop i) = match qstr [] 1 (text.data.toList.drop (i + 1)) with
                | .error e => .error e
                | .ok (s, n) => .ok (⟨3, s, 0, false⟩, n)) := Lib.hid (by rw [HD.out, c34, tok1_str]; rfl)
            clear c34
            cases hq : qstr [] 1 (text.data.toList.drop (i + 1)) with
            | error ck =>
              obtain ⟨ce, ke⟩ := ck
              have HO : Hid (tok1 (text.data.toList.drop i) = .error (ce, ke)) := Lib.hid (by rw [HT.out, hq])
              have HQ : Hid (∀ W, Calls Tryz.prog 78 #[.string text, .int .i64 (i : Int)] W fun e w' => i + ke ≤ text.size ∧ ∃ b, e = .returned (.tuple #[.agg tok0, .int .i64 0, errV b]) ∧ W.heap.size ≤ b ∧ WrongAt w' b (i + ke : Nat) ce ∧ Below W.heap.size W w') := Lib.hid (fun W => (quoted_calls text i W (by omega) (by omega)).mono fun e w' h => by
                unfold QuotedPost at h; rw [hq] at h; exact h)
              clear hq
              go_wp2_with (first
                | (go_at_call 61; refine (letter_is HL.out _).mono ?_; rintro e w2 ⟨rfl, hB2⟩; have I2 : Hid (OI w w2) := Lib.hid (I0.out.below hB2); clear hB2)
                | (go_at_call 76; refine (digit_no HDG.out _).mono ?_; rintro e wd ⟨rfl, rfl⟩)
                | (go_at_call 78; refine (HQ.out _).mono ?_; rintro e w4 ⟨hle, b, rfl, hb1, hb2, hb3⟩; have I4 : Hid (OI w w4) := Lib.hid (I2.out.below hb3); have HW := Lib.hid hb2; have HB := Lib.hid hb1; have HLE := Lib.hid hle; clear hb1 hb2 hb3 hle)
                | ((with_reducible refine gate_store (t := 34) (p := 4) rfl ?_); refine put_event rfl 34 _ _ rfl w.heap.size (tok0) rfl rfl 34 tok0 I4.out.r (by kernel_rfl) rfl (tok_all _ _ _ _ _ _ _) w.heap.size (Nat.le_refl _) ?_; intro wz hblkz hBz hszz hothz; have BZ := Lib.hid hBz; have OZ := Lib.hid hothz; clear hBz hszz hothz))
              refine bodyPost_ret (results_list (rs := [.cell 4 34, .tmp 5, .tmp 6]) rfl (by simp) (.cell w.heap.size 34 (tok0) (0, 0) _ rfl hblkz Tryz.underlying34 rfl (by kernel_rfl) (.tmp (.tmp .nil)))) rfl ?_
              unfold OnePost
              rw [HO.out]
              exact ⟨HLE.out, b, rfl, by have := HB.out; have := I2.out.lt; omega, wrong_other HW.out (OZ.out b (by have := HB.out; have := I2.out.lt; omega)), I4.out.bel.trans BZ.out⟩
            | ok sn =>
              obtain ⟨qs, qn⟩ := sn
              have HO : Hid (tok1 (text.data.toList.drop i) = .ok (⟨3, qs, 0, false⟩, qn)) := Lib.hid (by rw [HT.out, hq])
              have HQ : Hid (∀ W, Calls Tryz.prog 78 #[.string text, .int .i64 (i : Int)] W fun e w' => i + qn ≤ text.size ∧ e = .returned (.tuple #[.agg (tokCells 3 0 0 0 ⟨qs.toArray⟩ 0 false), .int .i64 (i + qn : Nat), .nilIface]) ∧ Below W.heap.size W w') := Lib.hid (fun W => (quoted_calls text i W (by omega) (by omega)).mono fun e w' h => by
                unfold QuotedPost at h; rw [hq] at h; exact h)
              clear hq
              go_wp2_with (first
                | (go_at_call 61; refine (letter_is HL.out _).mono ?_; rintro e w2 ⟨rfl, hB2⟩; have I2 : Hid (OI w w2) := Lib.hid (I0.out.below hB2); clear hB2)
                | (go_at_call 76; refine (digit_no HDG.out _).mono ?_; rintro e wd ⟨rfl, rfl⟩)
                | (go_at_call 78; refine (HQ.out _).mono ?_; rintro e w4 ⟨hle, rfl, hb3⟩; have I4 : Hid (OI w w4) := Lib.hid (I2.out.below hb3); have HLE := Lib.hid hle; clear hb3 hle)
                | ((with_reducible refine gate_store (t := 34) (p := 4) rfl ?_); refine put_event rfl 34 _ _ rfl w.heap.size (tokCells 3 0 0 0 ⟨qs.toArray⟩ 0 false) rfl rfl 34 tok0 I4.out.r (by kernel_rfl) rfl (tok_all _ _ _ _ _ _ _) w.heap.size (Nat.le_refl _) ?_; intro wz hblkz hBz hszz hothz; have BZ := Lib.hid hBz; have OZ := Lib.hid hothz; clear hBz hszz hothz))
              refine bodyPost_ret (results_list (rs := [.cell 4 34, .tmp 5, .tmp 6]) rfl (by simp) (.cell w.heap.size 34 (tokCells 3 0 0 0 ⟨qs.toArray⟩ 0 false) (0, 0) _ rfl hblkz Tryz.underlying34 rfl (by kernel_rfl) (.tmp (.tmp .nil)))) rfl ?_
              unfold OnePost
              rw [HO.out]
              exact ⟨HLE.out, rfl, I4.out.bel.trans BZ.out⟩
          · have e34 : ((c.toNat : Int) == 34) = false := by
              rw [beq_eq_false_iff_ne]; intro h; exact c34 (UInt8.toNat_inj.1 (by simp; omega))
            have HO : Hid (tok1 (text.data.toList.drop i) = .error (20, 0)) := Lib.hid (by
              rw [HD.out]
              simp [tok1, HL.out, HDG.out, c34, HK.out])
            clear c34
            go_wp2_with (first
              | (go_at_call 61; refine (letter_is HL.out _).mono ?_; rintro e w2 ⟨rfl, hB2⟩; have I2 : Hid (OI w w2) := Lib.hid (I0.out.below hB2); clear hB2)
              | (go_at_call 76; refine (digit_no HDG.out _).mono ?_; rintro e wd ⟨rfl, rfl⟩)
              | (go_at_call 45; refine (at_calls _ _ _).mono ?_; rintro e w4 ⟨b, rfl, hb1, hb2, hb3⟩; have I4 : Hid (OI w w4) := Lib.hid (I2.out.below hb3); have HW := Lib.hid hb2; have HB := Lib.hid hb1; clear hb1 hb2 hb3)
              | ((with_reducible refine gate_store (t := 34) (p := 4) rfl ?_); refine put_event rfl 34 _ _ rfl w.heap.size (tok0) rfl rfl 34 tok0 I4.out.r (by kernel_rfl) rfl (tok_all _ _ _ _ _ _ _) w.heap.size (Nat.le_refl _) ?_; intro wz hblkz hBz hszz hothz; have BZ := Lib.hid hBz; have OZ := Lib.hid hothz; clear hBz hszz hothz))
            refine bodyPost_ret (results_list (rs := [.cell 4 34, .tmp 5, .tmp 6]) rfl (by simp) (.cell w.heap.size 34 (tok0) (0, 0) _ rfl hblkz Tryz.underlying34 rfl (by kernel_rfl) (.tmp (.tmp .nil)))) rfl ?_
            unfold OnePost
            rw [HO.out]
            exact ⟨by omega, b, rfl, by have := HB.out; have := I2.out.lt; omega, wrong_other HW.out (OZ.out b (by have := HB.out; have := I2.out.lt; omega)), I4.out.bel.trans BZ.out⟩
end Go.Proofs.YtpecmmicndcgjaaGreatDoor.Tok

/- CONTRACT OF package token's gone: where blanks and comments end, or the error of a comment that doesn't end. A text of fewer than 2^32 bytes; the library's MaxLen is any int. -/
import Derived.Test.YtpecmmicndcgjaaGreatDoorTok1
import Derived.Test.YtpecmmicndcgjaaGreatDoorSpec
import Derived.Test.YtpecmmicndcgjaaGreatDoorShelf
import Derived.ScopeJumps
import Derived.WalkMore
import Derived.Test.YtpecmmicndcgjaaGreatDoorGap
namespace Go.Proofs.YtpecmmicndcgjaaGreatDoor.Tok
open Go.RowKit Go.Proofs.YtpecmmicndcgjaaGreatDoor.PA Go.Proofs.YtpecmmicndcgjaaGreatDoorW.PrintWords Go.Proofs.YtpecmmicndcgjaaGreatDoorW.PrintLast Go.Proofs.YtpecmmicndcgjaaGreatDoor.Sp
set_option linter.unusedVariables false
set_option linter.unusedSimpArgs false

/-- A scope that begins with the label to which all jumps go. -/
theorem wp_scope_label {P : Program} {Q : Exit → Act → World → Prop} {a : Act} {w : World} {R : Code} (l : Nat) (J : Act → World → Prop) (μ : Act → World → Nat)
    (first : J a w)
    (pass : ∀ a w, J a w → R.wp P (Exit.jump l (fun a' w' => J a' w' ∧ μ a' w' < μ a w) Q) a w) : (Code.scope (.seq (.label l) R)).wp P Q a w := by
  refine wp_scope_jumps l J μ (rest := .seq .skip R) (by simp [findLabel]) ?_ ?_
  · refine wp_seq (wp_label ?_)
    refine wp_mono (pass a w first) ?_
    intro e a2 w2 h2
    cases e with
    | goto l' => exact ⟨h2.1, h2.2.1⟩
    | normal => exact h2
    | exit id => exact h2
    | ret => exact h2
    | panic ch => exact h2
    | outgrown => exact h2
  · intro a1 w1 h
    exact wp_seq (wp_skip (pass a1 w1 h))

def GonePost (text : ByteArray) (i : Nat) (w : World) (e : Ending) (w' : World) : Prop :=
  match gap 0 0 i (text.data.toList.drop i) with
  | .ends n => n ≤ text.size ∧ e = .returned (.tuple #[.int .i64 n, .nilIface]) ∧ w = w'
  | .open_ n => n ≤ text.size ∧ ∃ b, e = .returned (.tuple #[.int .i64 n, errV b]) ∧ w.heap.size ≤ b ∧ WrongAt w' b n 23 ∧ Below w.heap.size w w'

theorem gone_ends {text : ByteArray} {i n : Nat} {w : World} (h : gap 0 0 i (text.data.toList.drop i) = .ends n) (hn : n ≤ text.size) : GonePost text i w (.returned (.tuple #[.int .i64 n, .nilIface])) w := by
  unfold GonePost
  rw [h]
  exact ⟨hn, rfl, rfl⟩
theorem gone_open {text : ByteArray} {i n b : Nat} {w w' : World} (h : gap 0 0 i (text.data.toList.drop i) = .open_ n) (hn : n ≤ text.size) (hb : w.heap.size ≤ b) (hw : WrongAt w' b n 23) (hB : Below w.heap.size w w') : GonePost text i w (.returned (.tuple #[.int .i64 n, errV b])) w' := by
  unfold GonePost
  rw [h]
  exact ⟨hn, b, rfl, hb, hw, hB⟩

/-- What holds at the label: all slots but the text and the place are free. -/
def GoneJ (text : ByteArray) (i : Nat) (w : World) (a : Act) (w' : World) : Prop :=
  w = w' ∧ ∃ (j : Nat) (u2 u3 u4 u5 u6 u7 u8 u9 u10 u11 u12 u13 u14 u15 u16 u17 u18 u19 u20 u21 u22 u23 u24 u25 u26 u27 u28 u29 u30 u31 u32 u33 u34 u35 u36 u37 u38 u39 u40 u41 u42 u43 u44 u45 u46 u47 u48 u49 u50 : Value), a = { tmps := #[.string text, .int .i64 j, u2, u3, u4, u5, u6, u7, u8, u9, u10, u11, u12, u13, u14, u15, u16, u17, u18, u19, u20, u21, u22, u23, u24, u25, u26, u27, u28, u29, u30, u31, u32, u33, u34, u35, u36, u37, u38, u39, u40, u41, u42, u43, u44, u45, u46, u47, u48, u49, u50], defers := [] } ∧ j ≤ text.size ∧ gap 0 0 j (text.data.toList.drop j) = gap 0 0 i (text.data.toList.drop i)

theorem blank_any (c : Int) (w : World) : Calls Tryz.prog 72 #[.int .u8 c] w fun e w' => e = .returned (.bool (decide (c = 32) || (decide (c = 9) || (decide (c = 10) || decide (c = 13))))) ∧ w = w' := by
  by_cases h1 : c = 32
  · subst h1
    go_enter Tryz.func72, Tryz.ntmps72
    go_wp2
    go_ret
    exact ⟨rfl, rfl⟩
  by_cases h2 : c = 9
  · subst h2
    go_enter Tryz.func72, Tryz.ntmps72
    go_wp2
    go_ret
    exact ⟨rfl, rfl⟩
  by_cases h3 : c = 10
  · subst h3
    go_enter Tryz.func72, Tryz.ntmps72
    go_wp2
    go_ret
    exact ⟨rfl, rfl⟩
  have b1 : (c == 32) = false := by simpa using h1
  have b2 : (c == 9) = false := by simpa using h2
  have b3 : (c == 10) = false := by simpa using h3
  by_cases h4 : c = 13
  · subst h4
    go_enter Tryz.func72, Tryz.ntmps72
    go_wp2
    go_ret
    exact ⟨rfl, rfl⟩
  have b4 : (c == 13) = false := by simpa using h4
  have H : (decide (c = 32) || (decide (c = 9) || (decide (c = 10) || decide (c = 13)))) = false := by simp [h1, h2, h3, h4]
  have HH := Lib.hid H; clear H h1 h2 h3 h4
  go_enter Tryz.func72, Tryz.ntmps72
  go_wp2
  go_ret
  exact ⟨by rw [HH.out]; rfl, rfl⟩

theorem blank_u8 (c : UInt8) (w : World) : Calls Tryz.prog 72 #[.int .u8 (c.toNat : Int)] w fun e w' => e = .returned (.bool (blankB c)) ∧ w = w' := by
  refine (blank_any _ w).mono ?_
  rintro e w' ⟨rfl, rfl⟩
  refine ⟨?_, rfl⟩
  congr 2
  have h : ∀ n : Nat, n < 256 → (decide ((c.toNat : Int) = (n : Int))) = (c == UInt8.ofNat n) := by
    intro n hn
    rw [Bool.eq_iff_iff]
    simp only [decide_eq_true_eq, beq_iff_eq]
    constructor
    · intro h
      apply UInt8.toNat_inj.1
      simp
      omega
    · rintro rfl
      simp
      omega
  unfold blankB
  rw [show ((32 : Int)) = ((32 : Nat) : Int) from rfl, show ((9 : Int)) = ((9 : Nat) : Int) from rfl, show ((10 : Int)) = ((10 : Nat) : Int) from rfl, show ((13 : Int)) = ((13 : Nat) : Int) from rfl, h 32 (by omega), h 9 (by omega), h 10 (by omega), h 13 (by omega)]
  simp only [Bool.or_assoc]
  rfl

set_option maxHeartbeats 4000000 in
set_option maxRecDepth 100000 in
theorem gone_calls (text : ByteArray) (i : Nat) (w : World) (hi : i ≤ text.size) (hs : text.size < 4294967281) (hG : w.ShapedOpen Tryz.prog) :
    Calls Tryz.prog 46 #[.string text, .int .i64 i] w (GonePost text i w) := by
  go_enter Tryz.func46, Tryz.ntmps46
  go_wp2
  refine wp_scope_label 0 (GoneJ text i w) (fun a _ => text.size - (intOf (a.tmps.getD 1 undef)).toNat) ⟨rfl, i, _, _, _, _, _, _, _, _, _, _, _, _, _, _, _, _, _, _, _, _, _, _, _, _, _, _, _, _, _, _, _, _, _, _, _, _, _, _, _, _, _, _, _, _, _, _, _, _, _, rfl, hi, rfl⟩ ?_
  rintro a' w' ⟨rfl, j, u2, u3, u4, u5, u6, u7, u8, u9, u10, u11, u12, u13, u14, u15, u16, u17, u18, u19, u20, u21, u22, u23, u24, u25, u26, u27, u28, u29, u30, u31, u32, u33, u34, u35, u36, u37, u38, u39, u40, u41, u42, u43, u44, u45, u46, u47, u48, u49, u50, rfl, hj, hg⟩
  have HG := Lib.hid hg; clear hg
  go_wp2
  go_loop [1] (fun v => ∃ m : Nat, v = .int .i64 m ∧ j ≤ m ∧ m ≤ text.size ∧ gap 0 0 m (text.data.toList.drop m) = gap 0 0 i (text.data.toList.drop i)) (fun v => text.size - (intOf v).toNat)
  case atStart => exact ⟨j, rfl, Nat.le_refl _, hj, HG.out⟩
  case round =>
    obtain ⟨m, rfl, hjm, hm, hg⟩ := hrel
    clear HG
    have hlen : text.data.toList.length = text.size := by rw [Array.length_toList]; rfl
    by_cases hlt : m < text.size
    · have hdr : text.data.toList.drop m = text[m] :: text.data.toList.drop (m + 1) := by
        rw [List.drop_eq_getElem_cons (by omega)]
        rfl
      by_cases hb : blankB text[m] = true
      · have hg2 : gap 0 0 (m + 1) (text.data.toList.drop (m + 1)) = gap 0 0 i (text.data.toList.drop i) := by
          rw [← hg, hdr, gap_blank hb]
        have HG := Lib.hid hg2; clear hg2 hg hdr hlen
        go_wp2_with (go_at_call 72; refine (blank_u8 _ _).mono ?_; rintro e w' ⟨rfl, rfl⟩)
        go_round
        case rel => exact ⟨m + 1, by go_num, by omega, by omega, HG.out⟩
        case measure => simp [intOf]; omega
      · have hb0 : blankB text[m] = false := by simpa using hb
        have hx : List.take (text.size - m) (List.drop m text.data.toList) = List.drop m text.data.toList := List.take_of_length_le (by rw [List.length_drop, hlen]; omega)
        by_cases p1 : Lib.hasPrefix (List.drop m text.data.toList) [47, 47] = true
        · have HG := Lib.hid hg; have HD := Lib.hid hdr; have HL := Lib.hid hlen; clear hg hdr hlen hb
          by_cases p2 : Lib.indexByte (List.drop m text.data.toList) 10 < 0
          · go_wp2_with (first
              | (go_at_call 72; refine (blank_u8 _ _).mono ?_; rintro e w' ⟨rfl, rfl⟩)
              | (go_at_call 73; refine (Tryz.strings_HasPrefix _ _ _).mono ?_; rintro e w' ⟨rfl, rfl⟩)
              | (go_at_call 74; refine (Tryz.strings_IndexByte _ _ _).mono ?_; rintro e w' ⟨rfl, rfl⟩))
            simp only [Exit.jump]
            go_ret2
            have hend : gap 0 0 i (text.data.toList.drop i) = .ends text.size := by
              rw [← HG.out, line_none p1 p2 m, List.length_drop, HL.out]
              congr 1
              omega
            exact gone_ends hend (Nat.le_refl _)
          · obtain ⟨k, hk⟩ : ∃ k : Nat, Lib.indexByte (List.drop m text.data.toList) 10 = k := ⟨_, (Int.toNat_of_nonneg (by omega)).symm⟩
            have hkl := byte_lt hk
            rw [List.length_drop, HL.out] at hkl
            have hnext : gap 0 0 (m + k + 1) (text.data.toList.drop (m + k + 1)) = gap 0 0 i (text.data.toList.drop i) := by
              rw [← HG.out, line_some p1 hk m, List.drop_drop]
              rfl
            have HN := Lib.hid hnext; clear hnext p2
            go_wp2_with (first
              | (go_at_call 72; refine (blank_u8 _ _).mono ?_; rintro e w' ⟨rfl, rfl⟩)
              | (go_at_call 73; refine (Tryz.strings_HasPrefix _ _ _).mono ?_; rintro e w' ⟨rfl, rfl⟩)
              | (go_at_call 74; refine (Tryz.strings_IndexByte _ _ _).mono ?_; rintro e w' ⟨rfl, rfl⟩))
            go_step3
            have hc : ((m : Int) + ((k : Int) + 1)) = ((m + k + 1 : Nat) : Int) := by omega
            rw [hc]
            exact ⟨rfl, ⟨rfl, m + k + 1, _, _, _, _, _, _, _, _, _, _, _, _, _, _, _, _, _, _, _, _, _, _, _, _, _, _, _, _, _, _, _, _, _, _, _, _, _, _, _, _, _, _, _, _, _, _, _, _, _, rfl, by omega, HN.out⟩, by simp [intOf]; omega⟩
        · by_cases q1 : Lib.hasPrefix (List.drop m text.data.toList) [47, 42] = true
          · have HG := Lib.hid hg; have HD := Lib.hid hdr; have HL := Lib.hid hlen; clear hg hdr hlen hb
            have h2 := two_le q1
            rw [List.length_drop, HL.out] at h2
            have hx2 : List.take (text.size - (m + 2)) (List.drop (m + 2) text.data.toList) = List.drop (m + 2) text.data.toList := List.take_of_length_le (by rw [List.length_drop, HL.out]; omega)
            by_cases p2 : Lib.index (List.drop (m + 2) text.data.toList) [42, 47] < 0
            · have hend : gap 0 0 i (text.data.toList.drop i) = .open_ m := by
                rw [← HG.out, block_none q1 (by rw [List.drop_drop]; exact p2) m]
              have HE := Lib.hid hend; clear hend
              go_wp2_with (first
                | (go_at_call 72; refine (blank_u8 _ _).mono ?_; rintro e w' ⟨rfl, rfl⟩)
                | (go_at_call 73; refine (Tryz.strings_HasPrefix _ _ _).mono ?_; rintro e w' ⟨rfl, rfl⟩)
                | (go_at_call 74; refine (Tryz.strings_IndexByte _ _ _).mono ?_; rintro e w' ⟨rfl, rfl⟩)
                | (go_at_call 75; refine (Tryz.strings_Index_shaped _ _ _ ?_ ?_).mono ?_; exact hG; simp; omega; rintro e w' ⟨rfl, rfl⟩)
                | (go_at_call 45; refine (at_calls _ _ _).mono ?_; rintro e w' ⟨b, rfl, hb1, hb2, hb3⟩))
              simp only [Exit.jump]
              go_ret2
              exact gone_open HE.out hm hb1 hb2 hb3
            · obtain ⟨k, hk⟩ : ∃ k : Nat, Lib.index (List.drop (m + 2) text.data.toList) [42, 47] = k := ⟨_, (Int.toNat_of_nonneg (by omega)).symm⟩
              have hkl := index_lt hk
              rw [List.length_drop, HL.out] at hkl
              have hnext : gap 0 0 (m + k + 4) (text.data.toList.drop (m + k + 4)) = gap 0 0 i (text.data.toList.drop i) := by
                rw [← HG.out, block_some q1 (by rw [List.drop_drop]; exact hk) m, List.drop_drop]
                rfl
              have HN := Lib.hid hnext; clear hnext p2
              go_wp2_with (first
                | (go_at_call 72; refine (blank_u8 _ _).mono ?_; rintro e w' ⟨rfl, rfl⟩)
                | (go_at_call 73; refine (Tryz.strings_HasPrefix _ _ _).mono ?_; rintro e w' ⟨rfl, rfl⟩)
                | (go_at_call 74; refine (Tryz.strings_IndexByte _ _ _).mono ?_; rintro e w' ⟨rfl, rfl⟩)
                | (go_at_call 75; refine (Tryz.strings_Index_shaped _ _ _ ?_ ?_).mono ?_; exact hG; simp; omega; rintro e w' ⟨rfl, rfl⟩)
                | (go_at_call 45; refine (at_calls _ _ _).mono ?_; rintro e w' ⟨b, rfl, hb1, hb2, hb3⟩))
              go_step3
              have hc : ((m : Int) + ((k : Int) + 4)) = ((m + k + 4 : Nat) : Int) := by omega
              rw [hc]
              exact ⟨rfl, ⟨rfl, m + k + 4, _, _, _, _, _, _, _, _, _, _, _, _, _, _, _, _, _, _, _, _, _, _, _, _, _, _, _, _, _, _, _, _, _, _, _, _, _, _, _, _, _, _, _, _, _, _, _, _, _, rfl, by omega, HN.out⟩, by simp [intOf]; omega⟩
          · have hend : gap 0 0 i (text.data.toList.drop i) = .ends m := by
              rw [← hg, hdr]
              exact gap_here hb0 0 m _ (by rw [← hdr]; exact p1) (by rw [← hdr]; exact q1)
            have HE := Lib.hid hend; clear hend hg hdr hlen hb
            go_wp2_with (first
              | (go_at_call 72; refine (blank_u8 _ _).mono ?_; rintro e w' ⟨rfl, rfl⟩)
              | (go_at_call 73; refine (Tryz.strings_HasPrefix _ _ _).mono ?_; rintro e w' ⟨rfl, rfl⟩)
              | (go_at_call 74; refine (Tryz.strings_IndexByte _ _ _).mono ?_; rintro e w' ⟨rfl, rfl⟩)
              | (go_at_call 75; refine (Tryz.strings_Index_shaped _ _ _ ?_ ?_).mono ?_; exact hG; simp; omega; rintro e w' ⟨rfl, rfl⟩)
              | (go_at_call 45; refine (at_calls _ _ _).mono ?_; rintro e w' ⟨b, rfl, hb1, hb2, hb3⟩))
            simp only [Exit.jump]
            go_ret2
            exact gone_ends HE.out hm
    · have hm' : m = text.size := by omega
      have hnil : List.drop m text.data.toList = [] := List.drop_eq_nil_of_le (by omega)
      have hend : gap 0 0 i (text.data.toList.drop i) = .ends m := by
        rw [← hg, hnil]
        rfl
      have HE := Lib.hid hend; clear hend hg hlen
      have p1 : Lib.hasPrefix (List.drop m text.data.toList) [47, 47] = false := by rw [hnil]; rfl
      have q1 : Lib.hasPrefix (List.drop m text.data.toList) [47, 42] = false := by rw [hnil]; rfl
      have hx : List.take (text.size - m) (List.drop m text.data.toList) = List.drop m text.data.toList := by rw [hnil, List.take_nil]
      clear hnil hm'
      go_wp2_with (first
        | (go_at_call 72; refine (blank_u8 _ _).mono ?_; rintro e w' ⟨rfl, rfl⟩)
        | (go_at_call 73; refine (Tryz.strings_HasPrefix _ _ _).mono ?_; rintro e w' ⟨rfl, rfl⟩)
        | (go_at_call 74; refine (Tryz.strings_IndexByte _ _ _).mono ?_; rintro e w' ⟨rfl, rfl⟩)
        | (go_at_call 75; refine (Tryz.strings_Index_shaped _ _ _ ?_ ?_).mono ?_; exact hG; simp; omega; rintro e w' ⟨rfl, rfl⟩)
        | (go_at_call 45; refine (at_calls _ _ _).mono ?_; rintro e w' ⟨b, rfl, hb1, hb2, hb3⟩))
      simp only [Exit.jump]
      go_ret2
      exact gone_ends HE.out hm
end Go.Proofs.YtpecmmicndcgjaaGreatDoor.Tok

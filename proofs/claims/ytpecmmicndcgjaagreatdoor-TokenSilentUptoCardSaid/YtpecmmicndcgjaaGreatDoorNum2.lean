/- CONTRACT: package token's number, at a word that begins with a digit. -/
import Derived.Test.YtpecmmicndcgjaaGreatDoorNum
import Derived.Test.YtpecmmicndcgjaaGreatDoorWalk
import Derived.Test.YtpecmmicndcgjaaGreatDoorLawB
import Derived.StillTailTactics
namespace Go.Proofs.YtpecmmicndcgjaaGreatDoor.Tok
open Go.RowKit Go.Proofs.YtpecmmicndcgjaaGreatDoor.PA Go.Proofs.YtpecmmicndcgjaaGreatDoorW.PrintWords Go.Proofs.YtpecmmicndcgjaaGreatDoorW.PrintLast Go.Proofs.YtpecmmicndcgjaaGreatDoor.Sp
set_option linter.unusedVariables false
set_option linter.unusedSimpArgs false
set_option maxRecDepth 100000

/-- What stands in number's own blocks. -/
structure NI (w : World) (v : Int) (h : Bool) (wr : World) : Prop where
  r : wr.heap[w.heap.size]? = some (.cells tok0 34 (0, 0))
  t : wr.heap[w.heap.size + 1]? = some (.cells (tokCells 2 0 0 0 ⟨#[]⟩ v h) 34 (0, 0))
  lt : w.heap.size + 1 < wr.heap.size
  bel : Below w.heap.size w wr
theorem NI.below {w wr w2 : World} {v : Int} {h : Bool} (I : NI w v h wr) (hB : Below wr.heap.size wr w2) : NI w v h w2 :=
  ⟨(hB.block _ (by have := I.lt; omega)).trans I.r, (hB.block _ I.lt).trans I.t, Nat.lt_of_lt_of_le I.lt hB.size, I.bel.trans (hB.mono (by have := I.lt; omega))⟩
theorem NI.new (w : World) (h : Bool) : NI w 0 h ((w.alloc (.cells #[.int .i64 0, .int .i64 0, .int .i64 0, .int .i64 0, .string ⟨#[]⟩, .int .u32 0, .bool false] 34)).alloc (.cells #[.int .i64 2, .int .i64 0, .int .i64 0, .int .i64 0, .string ⟨#[]⟩, .int .u32 0, .bool h] 34)) := by
  refine ⟨?_, ?_, by simp, ?_⟩
  · rw [Below.heap_alloc _ _ _ (by simp)]
    exact heap_alloc_new _ _
  · have := heap_alloc_new (w.alloc (.cells #[.int .i64 0, .int .i64 0, .int .i64 0, .int .i64 0, .string ⟨#[]⟩, .int .u32 0, .bool false] 34)) (Obj.cells #[.int .i64 2, .int .i64 0, .int .i64 0, .int .i64 0, .string ⟨#[]⟩, .int .u32 0, .bool h] 34)
    unfold tokCells
    simpa using this
  · exact ((Below.refl _ _).alloc (Nat.le_refl _) _).alloc (by simp) _
structure NumConv (S : ByteArray) (w : World) (h : Bool) (W2 : World) : Prop where
  ni : NI w 0 h W2
  at_ : ∀ j (hj : j < S.size), W2.cell? ⟨w.heap.size + 1 + 1, j, none⟩ = some (.int .u8 (S[j].toNat : Int))
theorem num_conv (S : ByteArray) (w : World) (h : Bool) : ∃ W2 cp, (convert 9 48 (.string S)).run Tryz.prog ((w.alloc (.cells #[.int .i64 0, .int .i64 0, .int .i64 0, .int .i64 0, .string ⟨#[]⟩, .int .u32 0, .bool false] 34)).alloc (.cells #[.int .i64 2, .int .i64 0, .int .i64 0, .int .i64 0, .string ⟨#[]⟩, .int .u32 0, .bool h] 34)) = .ok (.slice (some ⟨w.heap.size + 1 + 1, 0, none⟩) S.size cp) W2 ∧ Hid (NumConv S w h W2) := by
  have hcv := Lib.run_convert_string_bytes (P := Tryz.prog) ((w.alloc (.cells #[.int .i64 0, .int .i64 0, .int .i64 0, .int .i64 0, .string ⟨#[]⟩, .int .u32 0, .bool false] 34)).alloc (.cells #[.int .i64 2, .int .i64 0, .int .i64 0, .int .i64 0, .string ⟨#[]⟩, .int .u32 0, .bool h] 34)) 9 48 5 S (u := .string) Tryz.underlying9 Tryz.underlying48 Tryz.underlying5
  have hsz : ((w.alloc (.cells #[.int .i64 0, .int .i64 0, .int .i64 0, .int .i64 0, .string ⟨#[]⟩, .int .u32 0, .bool false] 34)).alloc (.cells #[.int .i64 2, .int .i64 0, .int .i64 0, .int .i64 0, .string ⟨#[]⟩, .int .u32 0, .bool h] 34)).heap.size = w.heap.size + 1 + 1 := by simp
  rw [hsz] at hcv
  refine ⟨_, _, hcv, Lib.hid ⟨(NI.new w h).below (bytesWorld_below _ S), fun j hj => ?_⟩⟩
  have := Lib.bytesWorld_cell ((w.alloc (.cells #[.int .i64 0, .int .i64 0, .int .i64 0, .int .i64 0, .string ⟨#[]⟩, .int .u32 0, .bool false] 34)).alloc (.cells #[.int .i64 2, .int .i64 0, .int .i64 0, .int .i64 0, .string ⟨#[]⟩, .int .u32 0, .bool h] 34)) 5 S j hj
  rw [hsz, ← Lib.getD_at S j hj] at this
  exact this
theorem digit_yes {c : UInt8} (h : digitB c = true) (w : World) : Calls Tryz.prog 76 #[.int .u8 (c.toNat : Int)] w fun e w' => e = .returned (.bool true) ∧ w = w' := by
  have := digit_u8 c w; rw [h] at this; exact this
theorem digit_no {c : UInt8} (h : digitB c = false) (w : World) : Calls Tryz.prog 76 #[.int .u8 (c.toNat : Int)] w fun e w' => e = .returned (.bool false) ∧ w = w' := by
  have := digit_u8 c w; rw [h] at this; exact this
def NumPost (o : Option (Nat × Bool)) (w : World) (e : Ending) (w' : World) : Prop :=
  Below w.heap.size w w' ∧ match o with
    | some (v, h) => e = .returned (.tuple #[tokV 2 0 0 0 ⟨#[]⟩ (v : Int) h, .bool true])
    | none => ∃ v h, e = .returned (.tuple #[tokV 2 0 0 0 ⟨#[]⟩ v h, .bool false])
theorem numVal_bad : ∀ (l : Bs) (b v : Nat) (c : UInt8), c ∈ l → ¬ digitVal c < b → numVal b v l = none
  | [], b, v, c, h, hc => by simp at h
  | d :: r, b, v, c, h, hc => by
    simp only [numVal]
    by_cases hd : digitVal d < b
    · rw [if_pos hd]
      split
      · refine numVal_bad r b _ c ?_ hc
        rcases List.mem_cons.1 h with rfl | h
        · exact absurd hd hc
        · exact h
      · rfl
    · rw [if_neg hd]

theorem below_of_grown {w w2 : World} {B g : Nat} (h : w.grownBy w2 (some g)) (hB : B ≤ g) (hs : B ≤ w.heap.size) : Below B w w2 := ⟨h.os, h.tape, h.output, h.size, fun k hk => h.block k (by omega) (fun e => by injection e with e; omega)⟩
theorem put7 {w4 : World} {g : Nat} (h : w4.heap[g]? = some (.cells tok0 34 (0, 0))) (k o l c : Int) (t : ByteArray) (v : Int) (b : Bool) {w5 : World}
    (hw : w5 = (((((((w4.setCell ⟨g, 0, none⟩ (.int .i64 k)).setCell ⟨g, 1, none⟩ (.int .i64 o)).setCell ⟨g, 2, none⟩ (.int .i64 l)).setCell ⟨g, 3, none⟩ (.int .i64 c)).setCell ⟨g, 4, none⟩ (.string t)).setCell ⟨g, 5, none⟩ (.int .u32 v)).setCell ⟨g, 6, none⟩ (.bool b)).drew) :
    w5.heap[g]? = some (.cells (tokCells k o l c t v b) 34 (0, 0)) ∧ w4.grownBy w5 (some g) := by
  subst hw
  have g0 := setCell_grown w4 g 0 (.int .i64 k)
  have h0 : (w4.setCell ⟨g, 0, none⟩ (.int .i64 k)).heap[g]? = some (.cells #[.int .i64 k, .int .i64 0, .int .i64 0, .int .i64 0, .string ⟨#[]⟩, .int .u32 0, .bool false] 34 (0, 0)) := setCell_row h _
  generalize w4.setCell ⟨g, 0, none⟩ (.int .i64 k) = x0 at g0 h0 ⊢
  have g1 := setCell_grown x0 g 1 (.int .i64 o)
  have h1 : (x0.setCell ⟨g, 1, none⟩ (.int .i64 o)).heap[g]? = some (.cells #[.int .i64 k, .int .i64 o, .int .i64 0, .int .i64 0, .string ⟨#[]⟩, .int .u32 0, .bool false] 34 (0, 0)) := setCell_row h0 _
  generalize x0.setCell ⟨g, 1, none⟩ (.int .i64 o) = x1 at g1 h1 ⊢
  have g2 := setCell_grown x1 g 2 (.int .i64 l)
  have h2 : (x1.setCell ⟨g, 2, none⟩ (.int .i64 l)).heap[g]? = some (.cells #[.int .i64 k, .int .i64 o, .int .i64 l, .int .i64 0, .string ⟨#[]⟩, .int .u32 0, .bool false] 34 (0, 0)) := setCell_row h1 _
  generalize x1.setCell ⟨g, 2, none⟩ (.int .i64 l) = x2 at g2 h2 ⊢
  have g3 := setCell_grown x2 g 3 (.int .i64 c)
  have h3 : (x2.setCell ⟨g, 3, none⟩ (.int .i64 c)).heap[g]? = some (.cells #[.int .i64 k, .int .i64 o, .int .i64 l, .int .i64 c, .string ⟨#[]⟩, .int .u32 0, .bool false] 34 (0, 0)) := setCell_row h2 _
  generalize x2.setCell ⟨g, 3, none⟩ (.int .i64 c) = x3 at g3 h3 ⊢
  have g4 := setCell_grown x3 g 4 (.string t)
  have h4 : (x3.setCell ⟨g, 4, none⟩ (.string t)).heap[g]? = some (.cells #[.int .i64 k, .int .i64 o, .int .i64 l, .int .i64 c, .string t, .int .u32 0, .bool false] 34 (0, 0)) := setCell_row h3 _
  generalize x3.setCell ⟨g, 4, none⟩ (.string t) = x4 at g4 h4 ⊢
  have g5 := setCell_grown x4 g 5 (.int .u32 v)
  have h5 : (x4.setCell ⟨g, 5, none⟩ (.int .u32 v)).heap[g]? = some (.cells #[.int .i64 k, .int .i64 o, .int .i64 l, .int .i64 c, .string t, .int .u32 v, .bool false] 34 (0, 0)) := setCell_row h4 _
  generalize x4.setCell ⟨g, 5, none⟩ (.int .u32 v) = x5 at g5 h5 ⊢
  have g6 := setCell_grown x5 g 6 (.bool b)
  have h6 : (x5.setCell ⟨g, 6, none⟩ (.bool b)).heap[g]? = some (.cells #[.int .i64 k, .int .i64 o, .int .i64 l, .int .i64 c, .string t, .int .u32 v, .bool b] 34 (0, 0)) := setCell_row h5 _
  generalize x5.setCell ⟨g, 6, none⟩ (.bool b) = x6 at g6 h6 ⊢
  refine ⟨h6, ?_⟩
  exact ((((((g0.trans g1).trans g2).trans g3).trans g4).trans g5).trans g6).trans (below_grown (below_dN (Below.refl _ _) 1))
theorem NI.val {w wr w2 : World} {v v2 : Int} {h : Bool} (I : NI w v h wr) (hw : w2 = wr.setCells (w.heap.size + 1) 5 [.int .u32 v2]) : NI w v2 h w2 := by
  subst hw
  have hl := I.lt
  refine ⟨?_, ?_, ?_, ?_⟩
  · exact ((setCell_grown wr (w.heap.size + 1) 5 (.int .u32 v2)).block w.heap.size (by omega) (fun e => by injection e with e; omega)).trans I.r
  · exact (setCell_row I.t (k := 5) (.int .u32 v2)).trans rfl
  · exact Nat.lt_of_lt_of_le hl (setCell_grown wr (w.heap.size + 1) 5 (.int .u32 v2)).size
  · exact I.bel.trans (below_of_grown (setCell_grown wr (w.heap.size + 1) 5 (.int .u32 v2)) (by omega) (by omega))

set_option maxHeartbeats 16000000 in
theorem num_dec (s : ByteArray) (w : World) (h0 : 0 < s.size) (hs : s.size ≤ 1048576) (h1 : s.size = 1 ∨ (s[0]'h0) ≠ 48) (hn : numL s.data.toList = (numVal 10 0 s.data.toList).map fun v => (v, false)) (hG : Glob w) :
    Calls Tryz.prog 77 #[.string s] w (NumPost (numL s.data.toList) w) := by
  obtain ⟨W2, cp, hcv, H2⟩ := num_conv s w false
  have HN := Lib.hid hn
  have HG := Lib.hid hG
  clear hn hG
  have hcase : (decide ((2 : Int) < (s.size : Int)) = false ∧ decide ((1 : Int) < (s.size : Int)) = false) ∨ (decide ((2 : Int) < (s.size : Int)) = false ∧ decide ((1 : Int) < (s.size : Int)) = true ∧ (((s[0]'h0).toNat : Int) == 48) = false) ∨ (decide ((2 : Int) < (s.size : Int)) = true ∧ decide ((1 : Int) < (s.size : Int)) = true ∧ (((s[0]'h0).toNat : Int) == 48) = false) := by
    rcases h1 with h1 | h1
    · exact .inl ⟨decide_eq_false (by omega), decide_eq_false (by omega)⟩
    · have e : (((s[0]'h0).toNat : Int) == 48) = false := by
        rw [beq_eq_false_iff_ne]; intro h; exact h1 (UInt8.toNat_inj.1 (by simp; omega))
      by_cases h2 : 2 < s.size
      · exact .inr (.inr ⟨decide_eq_true (by omega), decide_eq_true (by omega), e⟩)
      · by_cases h3 : 1 < s.size
        · exact .inr (.inl ⟨decide_eq_false (by omega), decide_eq_true (by omega), e⟩)
        · exact .inl ⟨decide_eq_false (by omega), decide_eq_false (by omega)⟩
  clear h1
  rcases hcase with ⟨d1, d2⟩ | ⟨d1, d2, d3⟩ | ⟨d1, d2, d3⟩
  all_goals
    go_enter Tryz.func77, Tryz.ntmps77
    go_wp2_with fail
    try clear d1
    try clear d2
    try clear d3
    clear hcv
    go_loop [51] (fun i => ∃ k : Nat, i = .int .i64 k ∧ k ≤ s.size ∧ Hid (∀ c ∈ s.data.toList.take k, digitVal c < 10)) (fun i => s.size - (intOf i).toNat)
    case atStart => exact ⟨0, rfl, Nat.zero_le _, Lib.hid (by simp)⟩
    case round =>
      obtain ⟨k, rfl, hk, hall⟩ := hrel
      by_cases hkn : k < s.size
      · have hc := H2.out.at_ k hkn
        have hmem : Hid (s[k] ∈ s.data.toList) := Lib.hid (List.mem_iff_getElem.2 ⟨k, by simpa using hkn, rfl⟩)
        have htk : Hid (s.data.toList.take (k + 1) = s.data.toList.take k ++ [s[k]]) := Lib.hid (by rw [List.take_succ_eq_append_getElem (by simpa using hkn)]; rfl)
        generalize s[k] = c at hc hmem htk
        have hc256 : c.toNat < 256 := c.toNat_lt
        by_cases hdv : digitVal c < 10
        · have HA : Hid (∀ x ∈ s.data.toList.take (k + 1), digitVal x < 10) := Lib.hid (by
            rw [htk.out]; intro x hx
            rcases List.mem_append.1 hx with h | h
            · exact hall.out x h
            · rw [List.mem_singleton.1 h]; exact hdv)
          rcases dig_cases (by omega) hdv with ⟨g1, g2, _⟩ | ⟨g1, g2, _, hbb⟩ | ⟨g1, g2, _, hbb⟩
          · have hdg : Hid (digitB c = true) := Lib.hid (by unfold digitB; simp; omega)
            have p1 : decide ((97 : Int) ≤ (c.toNat : Int)) = false := decide_eq_false (by omega)
            have p2 : decide ((65 : Int) ≤ (c.toNat : Int)) = false := decide_eq_false (by omega)
            clear hdv g1 g2
            go_wp2_with (first
              | (go_at_call 76; refine (digit_yes hdg.out _).mono ?_; rintro e w' ⟨rfl, rfl⟩))
            go_round
            case rel => exact ⟨k + 1, by go_num, by omega, HA⟩
            case measure => simp [intOf]; omega
          · omega
          · omega
        · have HO : Hid (numL s.data.toList = none) := Lib.hid (by rw [HN.out, numVal_bad _ _ _ c hmem.out hdv]; rfl)
          have hnd : digitB c = false := by
            rw [Bool.eq_false_iff]; intro h
            apply hdv; unfold digitVal; rw [if_pos h]; unfold digitB at h; simp at h; omega
          have hdg := Lib.hid hnd
          obtain ⟨p1, hp1⟩ : ∃ p : Bool, decide ((97 : Int) ≤ (c.toNat : Int)) = p := ⟨_, rfl⟩
          obtain ⟨p2, hp2⟩ : ∃ p : Bool, decide ((c.toNat : Int) ≤ 102) = p := ⟨_, rfl⟩
          obtain ⟨p3, hp3⟩ : ∃ p : Bool, decide ((65 : Int) ≤ (c.toNat : Int)) = p := ⟨_, rfl⟩
          obtain ⟨p4, hp4⟩ : ∃ p : Bool, decide ((c.toNat : Int) ≤ 70) = p := ⟨_, rfl⟩
          cases p1 <;> cases p2 <;> cases p3 <;> cases p4
          all_goals try (exfalso; simp only [decide_eq_true_eq, decide_eq_false_iff_not] at hp1 hp2 hp3 hp4; omega)
          all_goals
            clear hnd hdv
            have y0 : W2.cell? ⟨w.heap.size + 1, 0, none⟩ = some (.int .i64 2) := (cell_row H2.out.ni.t 0).trans rfl
            have y1 : W2.cell? ⟨w.heap.size + 1, 1, none⟩ = some (.int .i64 0) := (cell_row H2.out.ni.t 1).trans rfl
            have y2 : W2.cell? ⟨w.heap.size + 1, 2, none⟩ = some (.int .i64 0) := (cell_row H2.out.ni.t 2).trans rfl
            have y3 : W2.cell? ⟨w.heap.size + 1, 3, none⟩ = some (.int .i64 0) := (cell_row H2.out.ni.t 3).trans rfl
            have y4 : W2.cell? ⟨w.heap.size + 1, 4, none⟩ = some (.string ⟨#[]⟩) := (cell_row H2.out.ni.t 4).trans rfl
            have y5 : W2.cell? ⟨w.heap.size + 1, 5, none⟩ = some (.int .u32 0) := (cell_row H2.out.ni.t 5).trans rfl
            have y6 : W2.cell? ⟨w.heap.size + 1, 6, none⟩ = some (.bool false) := (cell_row H2.out.ni.t 6).trans rfl
            go_wp2_with (first
              | (go_at_call 76; refine (digit_no hdg.out _).mono ?_; rintro e w' ⟨rfl, rfl⟩)
              | ((with_reducible refine gate_store (t := 34) (p := 2) rfl ?_); refine put_event rfl 34 _ _ rfl w.heap.size (tokCells 2 0 0 0 ⟨#[]⟩ 0 false) rfl rfl 34 tok0 H2.out.ni.r (by kernel_rfl) rfl (tok_all _ _ _ _ _ _ _) w.heap.size (Nat.le_refl _) ?_; intro w1 hblk1 hB1 hsz1 hoth; have HB1 := Lib.hid hB1; clear hB1))
            refine bodyPost_ret (results_list (rs := [.cell 2 34, .tmp 3]) rfl (by simp) (.cell w.heap.size 34 (tokCells 2 0 0 0 ⟨#[]⟩ 0 false) (0, 0) _ rfl hblk1 Tryz.underlying34 rfl (by kernel_rfl) (.tmp .nil))) rfl ?_
            exact ⟨H2.out.ni.bel.trans HB1.out, by rw [HO.out]; exact ⟨_, _, rfl⟩⟩
      · obtain rfl : k = s.size := by omega
        have HA : Hid (∀ c ∈ s.data.toList, digitVal c < 10) := Lib.hid (by
          have := hall.out
          rw [List.take_of_length_le (by rw [Array.length_toList]; exact Nat.le_refl _)] at this
          exact this)
        have HG2 : Hid (Glob W2) := Lib.hid (HG.out.below ((H2.out.ni).bel))
        cases hv : numVal 10 0 s.data.toList with
        | none =>
          have HO : Hid (numL s.data.toList = none) := Lib.hid (by rw [HN.out, hv]; rfl)
          have HP := Lib.hid (pub_no 10 10 (by simp) s (by omega) (by omega) HA.out W2 hv HG2.out)
          clear hv
          go_wp2_with (first
            | (go_at_call 100; refine HP.out.mono ?_; rintro e w3 ⟨⟨p, rfl⟩, hB3⟩; have H3 : Hid (NI w 0 false w3) := Lib.hid (H2.out.ni.below hB3); clear hB3)
            | ((with_reducible refine gate_store (t := 32) (p := 90) rfl ?_); refine cell_event rfl 32 _ _ rfl (w.heap.size + 1) 5 (.int .u32 4294967295) rfl rfl rfl (there_row (by simp [tokCells]) H3.out.t) (by kernel_rfl) (w.heap.size + 1) (Nat.le_refl _) ?_; intro w4 hw4 hB4 hs4; have H4 : Hid (NI w 4294967295 false w4) := Lib.hid (NI.val H3.out hw4); clear hw4 hB4 hs4))
          have y0 : w4.cell? ⟨w.heap.size + 1, 0, none⟩ = some (.int .i64 2) := (cell_row H4.out.t 0).trans rfl
          have y1 : w4.cell? ⟨w.heap.size + 1, 1, none⟩ = some (.int .i64 0) := (cell_row H4.out.t 1).trans rfl
          have y2 : w4.cell? ⟨w.heap.size + 1, 2, none⟩ = some (.int .i64 0) := (cell_row H4.out.t 2).trans rfl
          have y3 : w4.cell? ⟨w.heap.size + 1, 3, none⟩ = some (.int .i64 0) := (cell_row H4.out.t 3).trans rfl
          have y4 : w4.cell? ⟨w.heap.size + 1, 4, none⟩ = some (.string ⟨#[]⟩) := (cell_row H4.out.t 4).trans rfl
          have y5 : w4.cell? ⟨w.heap.size + 1, 5, none⟩ = some (.int .u32 4294967295) := (cell_row H4.out.t 5).trans rfl
          have y6 : w4.cell? ⟨w.heap.size + 1, 6, none⟩ = some (.bool false) := (cell_row H4.out.t 6).trans rfl
          have z0 : w4.cell? ⟨w.heap.size, 0, none⟩ = some (.int .i64 0) := (cell_row H4.out.r 0).trans rfl
          have z1 : w4.cell? ⟨w.heap.size, 1, none⟩ = some (.int .i64 0) := (cell_row H4.out.r 1).trans rfl
          have z2 : w4.cell? ⟨w.heap.size, 2, none⟩ = some (.int .i64 0) := (cell_row H4.out.r 2).trans rfl
          have z3 : w4.cell? ⟨w.heap.size, 3, none⟩ = some (.int .i64 0) := (cell_row H4.out.r 3).trans rfl
          have z4 : w4.cell? ⟨w.heap.size, 4, none⟩ = some (.string ⟨#[]⟩) := (cell_row H4.out.r 4).trans rfl
          have z5 : w4.cell? ⟨w.heap.size, 5, none⟩ = some (.int .u32 0) := (cell_row H4.out.r 5).trans rfl
          have z6 : w4.cell? ⟨w.heap.size, 6, none⟩ = some (.bool false) := (cell_row H4.out.r 6).trans rfl
          have f0 : ∀ k, w4.frozen? ⟨w.heap.size, k, none⟩ = false := fun k => frozen_row H4.out.r k
          (try simp only [Act.put, List.setIfInBounds_toArray, List.set_cons_zero, List.set_cons_succ])
          go_region
          clear y0 y1 y2 y3 y4 y5 y6 z0 z1 z2 z3 z4 z5 z6 f0
          obtain ⟨w5, hw5⟩ : ∃ w5 : World, w5 = (((((((w4.setCell ⟨w.heap.size, 0, none⟩ (.int .i64 2)).setCell ⟨w.heap.size, 1, none⟩ (.int .i64 0)).setCell ⟨w.heap.size, 2, none⟩ (.int .i64 0)).setCell ⟨w.heap.size, 3, none⟩ (.int .i64 0)).setCell ⟨w.heap.size, 4, none⟩ (.string ⟨#[]⟩)).setCell ⟨w.heap.size, 5, none⟩ (.int .u32 4294967295)).setCell ⟨w.heap.size, 6, none⟩ (.bool false)).drew := ⟨_, rfl⟩
          rw [← hw5]
          obtain ⟨hblk5, hg5⟩ := put7 H4.out.r 2 0 0 0 ⟨#[]⟩ 4294967295 false hw5
          clear hw5
          go_wp2_with fail
          refine bodyPost_ret (results_list (rs := [.cell 2 34, .tmp 3]) rfl (by simp) (.cell w.heap.size 34 (tokCells 2 0 0 0 ⟨#[]⟩ 4294967295 false) (0, 0) _ rfl hblk5 Tryz.underlying34 rfl (by kernel_rfl) (.tmp .nil))) rfl ?_
          exact ⟨H4.out.bel.trans (below_of_grown hg5 (Nat.le_refl _) (by have := H4.out.lt; omega)), by rw [HO.out]; exact ⟨_, _, rfl⟩⟩
        | some v =>
          have hv32 := numVal_lt _ _ _ _ (by omega) hv
          have HO : Hid (numL s.data.toList = some (v, false)) := Lib.hid (by rw [HN.out, hv]; rfl)
          have HP := Lib.hid (pub_yes 10 10 (by simp) s (by omega) (by omega) HA.out W2 v hv)
          clear hv
          have hvw : IntKind.u32.wrap (v : Int) = (v : Int) := by rw [show IntKind.u32.wrap (v : Int) = (v : Int) % 4294967296 from rfl]; omega
          go_wp2_with (first
            | (go_at_call 100; refine HP.out.mono ?_; rintro e w3 ⟨rfl, hB3⟩; have H3 : Hid (NI w 0 false w3) := Lib.hid (H2.out.ni.below hB3); clear hB3)
            | ((with_reducible refine gate_store (t := 32) (p := 90) rfl ?_); refine cell_event rfl 32 _ _ rfl (w.heap.size + 1) 5 (.int .u32 (v : Int)) rfl rfl rfl (there_row (by simp [tokCells]) H3.out.t) (by kernel_rfl) (w.heap.size + 1) (Nat.le_refl _) ?_; intro w4 hw4 hB4 hs4; have H4 : Hid (NI w (v : Int) false w4) := Lib.hid (NI.val H3.out hw4); clear hw4 hB4 hs4))
          clear hvw
          have y0 : w4.cell? ⟨w.heap.size + 1, 0, none⟩ = some (.int .i64 2) := (cell_row H4.out.t 0).trans rfl
          have y1 : w4.cell? ⟨w.heap.size + 1, 1, none⟩ = some (.int .i64 0) := (cell_row H4.out.t 1).trans rfl
          have y2 : w4.cell? ⟨w.heap.size + 1, 2, none⟩ = some (.int .i64 0) := (cell_row H4.out.t 2).trans rfl
          have y3 : w4.cell? ⟨w.heap.size + 1, 3, none⟩ = some (.int .i64 0) := (cell_row H4.out.t 3).trans rfl
          have y4 : w4.cell? ⟨w.heap.size + 1, 4, none⟩ = some (.string ⟨#[]⟩) := (cell_row H4.out.t 4).trans rfl
          have y5 : w4.cell? ⟨w.heap.size + 1, 5, none⟩ = some (.int .u32 (v : Int)) := (cell_row H4.out.t 5).trans rfl
          have y6 : w4.cell? ⟨w.heap.size + 1, 6, none⟩ = some (.bool false) := (cell_row H4.out.t 6).trans rfl
          have z0 : w4.cell? ⟨w.heap.size, 0, none⟩ = some (.int .i64 0) := (cell_row H4.out.r 0).trans rfl
          have z1 : w4.cell? ⟨w.heap.size, 1, none⟩ = some (.int .i64 0) := (cell_row H4.out.r 1).trans rfl
          have z2 : w4.cell? ⟨w.heap.size, 2, none⟩ = some (.int .i64 0) := (cell_row H4.out.r 2).trans rfl
          have z3 : w4.cell? ⟨w.heap.size, 3, none⟩ = some (.int .i64 0) := (cell_row H4.out.r 3).trans rfl
          have z4 : w4.cell? ⟨w.heap.size, 4, none⟩ = some (.string ⟨#[]⟩) := (cell_row H4.out.r 4).trans rfl
          have z5 : w4.cell? ⟨w.heap.size, 5, none⟩ = some (.int .u32 0) := (cell_row H4.out.r 5).trans rfl
          have z6 : w4.cell? ⟨w.heap.size, 6, none⟩ = some (.bool false) := (cell_row H4.out.r 6).trans rfl
          have f0 : ∀ k, w4.frozen? ⟨w.heap.size, k, none⟩ = false := fun k => frozen_row H4.out.r k
          (try simp only [Act.put, List.setIfInBounds_toArray, List.set_cons_zero, List.set_cons_succ])
          go_region
          clear y0 y1 y2 y3 y4 y5 y6 z0 z1 z2 z3 z4 z5 z6 f0
          obtain ⟨w5, hw5⟩ : ∃ w5 : World, w5 = (((((((w4.setCell ⟨w.heap.size, 0, none⟩ (.int .i64 2)).setCell ⟨w.heap.size, 1, none⟩ (.int .i64 0)).setCell ⟨w.heap.size, 2, none⟩ (.int .i64 0)).setCell ⟨w.heap.size, 3, none⟩ (.int .i64 0)).setCell ⟨w.heap.size, 4, none⟩ (.string ⟨#[]⟩)).setCell ⟨w.heap.size, 5, none⟩ (.int .u32 (v : Int))).setCell ⟨w.heap.size, 6, none⟩ (.bool false)).drew := ⟨_, rfl⟩
          rw [← hw5]
          obtain ⟨hblk5, hg5⟩ := put7 H4.out.r 2 0 0 0 ⟨#[]⟩ (v : Int) false hw5
          clear hw5
          go_wp2_with fail
          refine bodyPost_ret (results_list (rs := [.cell 2 34, .tmp 3]) rfl (by simp) (.cell w.heap.size 34 (tokCells 2 0 0 0 ⟨#[]⟩ (v : Int) false) (0, 0) _ rfl hblk5 Tryz.underlying34 rfl (by kernel_rfl) (.tmp .nil))) rfl ?_
          exact ⟨H4.out.bel.trans (below_of_grown hg5 (Nat.le_refl _) (by have := H4.out.lt; omega)), by rw [HO.out]; rfl⟩
end Go.Proofs.YtpecmmicndcgjaaGreatDoor.Tok

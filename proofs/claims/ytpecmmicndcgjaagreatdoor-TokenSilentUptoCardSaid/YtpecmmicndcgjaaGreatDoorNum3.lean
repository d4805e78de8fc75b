/- CONTRACT: package token's number: hex digits; number whole. -/
import Derived.Test.YtpecmmicndcgjaaGreatDoorNum2
import Derived.RegionTactic
namespace Go.Proofs.YtpecmmicndcgjaaGreatDoor.Tok
open Go.RowKit Go.Proofs.YtpecmmicndcgjaaGreatDoor.PA Go.Proofs.YtpecmmicndcgjaaGreatDoorW.PrintWords Go.Proofs.YtpecmmicndcgjaaGreatDoorW.PrintLast Go.Proofs.YtpecmmicndcgjaaGreatDoor.Sp
set_option linter.unusedVariables false
set_option linter.unusedSimpArgs false
set_option maxRecDepth 100000

theorem hex_pre (s : ByteArray) (h2 : 2 < s.size) (h0 : s[0] = 48) (h1 : s[1] = 120 ∨ s[1] = 88) : decide ((2 : Int) < (s.size : Int)) = true ∧ ((s[0].toNat : Int) == 48) = true ∧ ((((s[1].toNat : Int) == 120) = true) ∨ (((s[1].toNat : Int) == 120) = false ∧ ((s[1].toNat : Int) == 88) = true)) := by
  refine ⟨decide_eq_true (by omega), by rw [h0]; rfl, ?_⟩
  rcases h1 with h | h
  · exact .inl (by rw [h]; rfl)
  · exact .inr ⟨by rw [h]; rfl, by rw [h]; rfl⟩
theorem trim_facts (s : ByteArray) : ∃ T : ByteArray, (∀ W, Calls Tryz.prog 99 #[.string (s.extract 2 s.size), .string ⟨#[48]⟩] W fun e w' => e = .returned (.string T) ∧ W = w') ∧ T.size ≤ s.size ∧ (T ++ (⟨#[]⟩ : ByteArray)) = T ∧ Hid (T.data.toList = (s.data.toList.drop 2).dropWhile (· == 48)) := by
  have he : (s.extract 2 s.size).data.toList = s.data.toList.drop 2 := Lib.extract_to_end s 2
  refine ⟨⟨(Lib.trimLeftB (s.extract 2 s.size).data.toList 48).toArray⟩, fun W => (Tryz.strings_TrimLeft_one _ 48 (by decide) W).mono fun e w' ⟨h1, h2⟩ => ⟨h1, h2.symm⟩, ?_, ?_, Lib.hid ?_⟩
  · show (Lib.trimLeftB (s.extract 2 s.size).data.toList 48).toArray.size ≤ s.size
    rw [List.size_toArray, he]
    unfold Lib.trimLeftB
    have h1 := (List.dropWhile_suffix (· == 48) (l := s.data.toList.drop 2)).length_le
    rw [List.length_drop] at h1
    have h2 : s.data.toList.length = s.size := by rw [Array.length_toList]; rfl
    omega
  · apply ByteArray.ext; simp
  · rw [he]; rfl
theorem numVal_zeros : ∀ l : Bs, numVal 16 0 (l.dropWhile (· == 48)) = numVal 16 0 l
  | [] => rfl
  | c :: r => by
    rw [List.dropWhile_cons]
    by_cases h : c = 48
    · subst h
      rw [if_pos (beq_self_eq_true (48 : UInt8)), numVal_zeros r]
      have : digitVal 48 = 0 := by decide
      simp [numVal, this]
    · rw [if_neg (by simpa using h)]
theorem num_conv2 (S : ByteArray) (w : World) : ∃ W2 cp, (convert 9 48 (.string S)).run Tryz.prog ((w.alloc (.cells #[.int .i64 0, .int .i64 0, .int .i64 0, .int .i64 0, .string ⟨#[]⟩, .int .u32 0, .bool false] 34)).alloc (.cells #[.int .i64 2, .int .i64 0, .int .i64 0, .int .i64 0, .string ⟨#[]⟩, .int .u32 0, .bool true] 34)).drew = .ok (.slice (some ⟨w.heap.size + 1 + 1, 0, none⟩) S.size cp) W2 ∧ Hid (NumConv S w true W2) := by
  have hI := NI.new w true
  have hsz : ((w.alloc (.cells #[.int .i64 0, .int .i64 0, .int .i64 0, .int .i64 0, .string ⟨#[]⟩, .int .u32 0, .bool false] 34)).alloc (.cells #[.int .i64 2, .int .i64 0, .int .i64 0, .int .i64 0, .string ⟨#[]⟩, .int .u32 0, .bool true] 34)).heap.size = w.heap.size + 1 + 1 := by simp
  generalize (w.alloc (.cells #[.int .i64 0, .int .i64 0, .int .i64 0, .int .i64 0, .string ⟨#[]⟩, .int .u32 0, .bool false] 34)).alloc (.cells #[.int .i64 2, .int .i64 0, .int .i64 0, .int .i64 0, .string ⟨#[]⟩, .int .u32 0, .bool true] 34) = W at hI hsz
  have hI2 : NI w 0 true W.drew := hI.below (below_dN (Below.refl _ _) 1)
  have hsz2 : W.drew.heap.size = w.heap.size + 1 + 1 := hsz
  generalize W.drew = V at hI2 hsz2
  have hcv := Lib.run_convert_string_bytes (P := Tryz.prog) V 9 48 5 S (u := .string) Tryz.underlying9 Tryz.underlying48 Tryz.underlying5
  rw [hsz2] at hcv
  refine ⟨_, _, hcv, Lib.hid ⟨hI2.below (bytesWorld_below _ S), fun j hj => ?_⟩⟩
  have := Lib.bytesWorld_cell V 5 S j hj
  rw [hsz2, ← Lib.getD_at S j hj] at this
  exact this
set_option maxHeartbeats 16000000 in
theorem num_hex (s : ByteArray) (w : World) (hs : s.size ≤ 1048576) (h2 : 2 < s.size) (h0 : s[0] = 48) (h1 : s[1] = 120 ∨ s[1] = 88) (hn : numL s.data.toList = (numVal 16 0 (s.data.toList.drop 2)).map fun v => (v, true)) (hG : Glob w) :
    Calls Tryz.prog 77 #[.string s] w (NumPost (numL s.data.toList) w) := by
  obtain ⟨d1, d2, d3⟩ := hex_pre s h2 h0 h1
  obtain ⟨T, hT, hTs, hTc, HT⟩ := trim_facts s
  have HTR := Lib.hid hT
  have HN : Hid (numL s.data.toList = (numVal 16 0 T.data.toList).map fun v => (v, true)) := Lib.hid (by rw [hn, HT.out, numVal_zeros])
  have HG := Lib.hid hG
  clear h0 h1 hT hn hG
  by_cases hTe : T.toList.isEmpty = true
  · have HO : Hid (numL s.data.toList = some (0, true)) := Lib.hid (by
      rw [HN.out]
      have : T.data.toList = [] := by rw [← ByteArray.toList_eq]; simpa using hTe
      rw [this]; rfl)
    rcases d3 with d3 | ⟨d3, d4⟩
    all_goals
      go_enter Tryz.func77, Tryz.ntmps77
      go_wp2_with fail
      go_region
      go_wp2_with (first
        | (go_at_call 99; refine (HTR.out _).mono ?_; rintro e w' ⟨rfl, rfl⟩))
      clear d1 d2 d3 hTe hTc
      refine bodyPost_ret (v := .tuple #[tokV 2 0 0 0 ⟨#[]⟩ 0 true, .bool true]) (by simp [results, Tryz.results77, go_sem, tokV, tokCells]) rfl ⟨?_, ?_⟩
      · exact ((((Below.refl _ _).alloc (Nat.le_refl _) _).alloc (by simp) _).trans (below_dN (Below.refl _ _) 1))
      · rw [HO.out]; rfl
  have hTn : T.toList.isEmpty = false := by simpa using hTe
  have hT0 : 0 < T.size := by
    rcases Nat.eq_zero_or_pos T.size with h | h
    · exfalso; apply hTe; rw [ByteArray.toList_eq]
      have : T.data.toList = [] := List.eq_nil_of_length_eq_zero (by rw [Array.length_toList]; exact h)
      rw [this]; rfl
    · exact h
  clear hTe
  obtain ⟨W2, cp, hcv, H2⟩ := num_conv2 T w
  rcases d3 with d3 | ⟨d3, d4⟩
  all_goals
    go_enter Tryz.func77, Tryz.ntmps77
    go_wp2_with fail
    go_region
    go_wp2_with (first
      | (go_at_call 99; refine (HTR.out _).mono ?_; rintro e w' ⟨rfl, rfl⟩))
    clear d1 d2 d3 hcv
    try clear d4
    go_loop [51] (fun i => ∃ k : Nat, i = .int .i64 k ∧ k ≤ T.size ∧ Hid (∀ c ∈ T.data.toList.take k, digitVal c < 16)) (fun i => T.size - (intOf i).toNat)
    case atStart => exact ⟨0, rfl, Nat.zero_le _, Lib.hid (by simp)⟩
    case round =>
      obtain ⟨k, rfl, hk, hall⟩ := hrel
      by_cases hkn : k < T.size
      · have hc := H2.out.at_ k hkn
        have hmem : Hid (T[k] ∈ T.data.toList) := Lib.hid (List.mem_iff_getElem.2 ⟨k, by simpa using hkn, rfl⟩)
        have htk : Hid (T.data.toList.take (k + 1) = T.data.toList.take k ++ [T[k]]) := Lib.hid (by rw [List.take_succ_eq_append_getElem (by simpa using hkn)]; rfl)
        generalize T[k] = c at hc hmem htk
        have hc256 : c.toNat < 256 := c.toNat_lt
        by_cases hdv : digitVal c < 16
        · have HA : Hid (∀ x ∈ T.data.toList.take (k + 1), digitVal x < 16) := Lib.hid (by
            rw [htk.out]; intro x hx
            rcases List.mem_append.1 hx with h | h
            · exact hall.out x h
            · rw [List.mem_singleton.1 h]; exact hdv)
          rcases dig_cases (by omega) hdv with ⟨g1, g2, _⟩ | ⟨g1, g2, _, hbb⟩ | ⟨g1, g2, _, hbb⟩
          · have hdg : Hid (digitB c = true) := Lib.hid (by unfold digitB; simp; omega)
            have p1 : decide ((97 : Int) ≤ (c.toNat : Int)) = false := decide_eq_false (by omega)
            have p2 : decide ((65 : Int) ≤ (c.toNat : Int)) = false := decide_eq_false (by omega)
            clear hdv g1 g2
            go_wp2_with (first
              | (go_at_call 76; refine (digit_yes hdg.out _).mono ?_; rintro e w' ⟨rfl, rfl⟩))
            go_round
            case rel => exact ⟨k + 1, by go_num, by omega, HA⟩
            case measure => simp [intOf]; omega
          · have hdg : Hid (digitB c = false) := Lib.hid (by unfold digitB; simp; omega)
            have p1 : decide ((97 : Int) ≤ (c.toNat : Int)) = true := decide_eq_true (by omega)
            have p2 : decide ((c.toNat : Int) ≤ 102) = true := decide_eq_true (by omega)
            clear hdv g1 g2
            go_wp2_with (first
              | (go_at_call 76; refine (digit_no hdg.out _).mono ?_; rintro e w' ⟨rfl, rfl⟩))
            go_round
            case rel => exact ⟨k + 1, by go_num, by omega, HA⟩
            case measure => simp [intOf]; omega
          · have hdg : Hid (digitB c = false) := Lib.hid (by unfold digitB; simp; omega)
            have p1 : decide ((97 : Int) ≤ (c.toNat : Int)) = false := decide_eq_false (by omega)
            have p2 : decide ((65 : Int) ≤ (c.toNat : Int)) = true := decide_eq_true (by omega)
            have p3 : decide ((c.toNat : Int) ≤ 70) = true := decide_eq_true (by omega)
            clear hdv g1 g2
            go_wp2_with (first
              | (go_at_call 76; refine (digit_no hdg.out _).mono ?_; rintro e w' ⟨rfl, rfl⟩))
            go_round
            case rel => exact ⟨k + 1, by go_num, by omega, HA⟩
            case measure => simp [intOf]; omega
        · have HO : Hid (numL s.data.toList = none) := Lib.hid (by rw [HN.out, numVal_bad _ _ _ c hmem.out hdv]; rfl)
          have hnd : digitB c = false ∧ ¬ (97 ≤ c.toNat ∧ c.toNat ≤ 102) ∧ ¬ (65 ≤ c.toNat ∧ c.toNat ≤ 70) := by
            unfold digitVal at hdv
            split at hdv
            · rename_i h; unfold digitB at h; simp at h; omega
            · rename_i h
              split at hdv
              · omega
              · split at hdv
                · omega
                · exact ⟨by simpa using h, by assumption, by assumption⟩
          have hdg := Lib.hid hnd.1
          obtain ⟨p1, hp1⟩ : ∃ p : Bool, decide ((97 : Int) ≤ (c.toNat : Int)) = p := ⟨_, rfl⟩
          obtain ⟨p2, hp2⟩ : ∃ p : Bool, decide ((c.toNat : Int) ≤ 102) = p := ⟨_, rfl⟩
          obtain ⟨p3, hp3⟩ : ∃ p : Bool, decide ((65 : Int) ≤ (c.toNat : Int)) = p := ⟨_, rfl⟩
          obtain ⟨p4, hp4⟩ : ∃ p : Bool, decide ((c.toNat : Int) ≤ 70) = p := ⟨_, rfl⟩
          cases p1 <;> cases p2 <;> cases p3 <;> cases p4
          all_goals try (exfalso; simp only [decide_eq_true_eq, decide_eq_false_iff_not] at hp1 hp2 hp3 hp4; omega)
          all_goals
            clear hnd hdv
            have y0 : W2.cell? ⟨w.heap.size + 1, 0, none⟩ = some (.int .i64 2) := (cell_row H2.out.ni.t 0).trans rfl
            have y1 : W2.cell? ⟨w.heap.size + 1, 1, none⟩ = some (.int .i64 0) := (cell_row H2.out.ni.t 1).trans rfl
            have y2 : W2.cell? ⟨w.heap.size + 1, 2, none⟩ = some (.int .i64 0) := (cell_row H2.out.ni.t 2).trans rfl
            have y3 : W2.cell? ⟨w.heap.size + 1, 3, none⟩ = some (.int .i64 0) := (cell_row H2.out.ni.t 3).trans rfl
            have y4 : W2.cell? ⟨w.heap.size + 1, 4, none⟩ = some (.string ⟨#[]⟩) := (cell_row H2.out.ni.t 4).trans rfl
            have y5 : W2.cell? ⟨w.heap.size + 1, 5, none⟩ = some (.int .u32 0) := (cell_row H2.out.ni.t 5).trans rfl
            have y6 : W2.cell? ⟨w.heap.size + 1, 6, none⟩ = some (.bool true) := (cell_row H2.out.ni.t 6).trans rfl
            go_wp2_with (first
              | (go_at_call 76; refine (digit_no hdg.out _).mono ?_; rintro e w' ⟨rfl, rfl⟩)
              | ((with_reducible refine gate_store (t := 34) (p := 2) rfl ?_); refine put_event rfl 34 _ _ rfl w.heap.size (tokCells 2 0 0 0 ⟨#[]⟩ 0 true) rfl rfl 34 tok0 H2.out.ni.r (by kernel_rfl) rfl (tok_all _ _ _ _ _ _ _) w.heap.size (Nat.le_refl _) ?_; intro w1 hblk1 hB1 hsz1 hoth; have HB1 := Lib.hid hB1; clear hB1))
            refine bodyPost_ret (results_list (rs := [.cell 2 34, .tmp 3]) rfl (by simp) (.cell w.heap.size 34 (tokCells 2 0 0 0 ⟨#[]⟩ 0 true) (0, 0) _ rfl hblk1 Tryz.underlying34 rfl (by kernel_rfl) (.tmp .nil))) rfl ?_
            exact ⟨H2.out.ni.bel.trans HB1.out, by rw [HO.out]; exact ⟨_, _, rfl⟩⟩
      · obtain rfl : k = T.size := by omega
        have HA : Hid (∀ c ∈ T.data.toList, digitVal c < 16) := Lib.hid (by
          have := hall.out
          rw [List.take_of_length_le (by rw [Array.length_toList]; exact Nat.le_refl _)] at this
          exact this)
        have HG2 : Hid (Glob W2) := Lib.hid (HG.out.below ((H2.out.ni).bel))
        cases hv : numVal 16 0 T.data.toList with
        | none =>
          have HO : Hid (numL s.data.toList = none) := Lib.hid (by rw [HN.out, hv]; rfl)
          have HP := Lib.hid (pub_no 16 16 (by simp) T (by omega) (by omega) HA.out W2 hv HG2.out)
          clear hv
          go_wp2_with (first
            | (go_at_call 100; refine HP.out.mono ?_; rintro e w3 ⟨⟨p, rfl⟩, hB3⟩; have H3 : Hid (NI w 0 true w3) := Lib.hid (H2.out.ni.below hB3); clear hB3)
            | ((with_reducible refine gate_store (t := 32) (p := 90) rfl ?_); refine cell_event rfl 32 _ _ rfl (w.heap.size + 1) 5 (.int .u32 4294967295) rfl rfl rfl (there_row (by simp [tokCells]) H3.out.t) (by kernel_rfl) (w.heap.size + 1) (Nat.le_refl _) ?_; intro w4 hw4 hB4 hs4; have H4 : Hid (NI w 4294967295 true w4) := Lib.hid (NI.val H3.out hw4); clear hw4 hB4 hs4))
          have y0 : w4.cell? ⟨w.heap.size + 1, 0, none⟩ = some (.int .i64 2) := (cell_row H4.out.t 0).trans rfl
          have y1 : w4.cell? ⟨w.heap.size + 1, 1, none⟩ = some (.int .i64 0) := (cell_row H4.out.t 1).trans rfl
          have y2 : w4.cell? ⟨w.heap.size + 1, 2, none⟩ = some (.int .i64 0) := (cell_row H4.out.t 2).trans rfl
          have y3 : w4.cell? ⟨w.heap.size + 1, 3, none⟩ = some (.int .i64 0) := (cell_row H4.out.t 3).trans rfl
          have y4 : w4.cell? ⟨w.heap.size + 1, 4, none⟩ = some (.string ⟨#[]⟩) := (cell_row H4.out.t 4).trans rfl
          have y5 : w4.cell? ⟨w.heap.size + 1, 5, none⟩ = some (.int .u32 4294967295) := (cell_row H4.out.t 5).trans rfl
          have y6 : w4.cell? ⟨w.heap.size + 1, 6, none⟩ = some (.bool true) := (cell_row H4.out.t 6).trans rfl
          have z0 : w4.cell? ⟨w.heap.size, 0, none⟩ = some (.int .i64 0) := (cell_row H4.out.r 0).trans rfl
          have z1 : w4.cell? ⟨w.heap.size, 1, none⟩ = some (.int .i64 0) := (cell_row H4.out.r 1).trans rfl
          have z2 : w4.cell? ⟨w.heap.size, 2, none⟩ = some (.int .i64 0) := (cell_row H4.out.r 2).trans rfl
          have z3 : w4.cell? ⟨w.heap.size, 3, none⟩ = some (.int .i64 0) := (cell_row H4.out.r 3).trans rfl
          have z4 : w4.cell? ⟨w.heap.size, 4, none⟩ = some (.string ⟨#[]⟩) := (cell_row H4.out.r 4).trans rfl
          have z5 : w4.cell? ⟨w.heap.size, 5, none⟩ = some (.int .u32 0) := (cell_row H4.out.r 5).trans rfl
          have z6 : w4.cell? ⟨w.heap.size, 6, none⟩ = some (.bool false) := (cell_row H4.out.r 6).trans rfl
          have f0 : ∀ k, w4.frozen? ⟨w.heap.size, k, none⟩ = false := fun k => frozen_row H4.out.r k
          (try simp only [Act.put, List.setIfInBounds_toArray, List.set_cons_zero, List.set_cons_succ])
          go_region
          clear y0 y1 y2 y3 y4 y5 y6 z0 z1 z2 z3 z4 z5 z6 f0
          obtain ⟨w5, hw5⟩ : ∃ w5 : World, w5 = (((((((w4.setCell ⟨w.heap.size, 0, none⟩ (.int .i64 2)).setCell ⟨w.heap.size, 1, none⟩ (.int .i64 0)).setCell ⟨w.heap.size, 2, none⟩ (.int .i64 0)).setCell ⟨w.heap.size, 3, none⟩ (.int .i64 0)).setCell ⟨w.heap.size, 4, none⟩ (.string ⟨#[]⟩)).setCell ⟨w.heap.size, 5, none⟩ (.int .u32 4294967295)).setCell ⟨w.heap.size, 6, none⟩ (.bool true)).drew := ⟨_, rfl⟩
          rw [← hw5]
          obtain ⟨hblk5, hg5⟩ := put7 H4.out.r 2 0 0 0 ⟨#[]⟩ 4294967295 true hw5
          clear hw5
          go_wp2_with fail
          refine bodyPost_ret (results_list (rs := [.cell 2 34, .tmp 3]) rfl (by simp) (.cell w.heap.size 34 (tokCells 2 0 0 0 ⟨#[]⟩ 4294967295 true) (0, 0) _ rfl hblk5 Tryz.underlying34 rfl (by kernel_rfl) (.tmp .nil))) rfl ?_
          exact ⟨H4.out.bel.trans (below_of_grown hg5 (Nat.le_refl _) (by have := H4.out.lt; omega)), by rw [HO.out]; exact ⟨_, _, rfl⟩⟩
        | some v =>
          have hv32 := numVal_lt _ _ _ _ (by omega) hv
          have HO : Hid (numL s.data.toList = some (v, true)) := Lib.hid (by rw [HN.out, hv]; rfl)
          have HP := Lib.hid (pub_yes 16 16 (by simp) T (by omega) (by omega) HA.out W2 v hv)
          clear hv
          have hvw : IntKind.u32.wrap (v : Int) = (v : Int) := by rw [show IntKind.u32.wrap (v : Int) = (v : Int) % 4294967296 from rfl]; omega
          go_wp2_with (first
            | (go_at_call 100; refine HP.out.mono ?_; rintro e w3 ⟨rfl, hB3⟩; have H3 : Hid (NI w 0 true w3) := Lib.hid (H2.out.ni.below hB3); clear hB3)
            | ((with_reducible refine gate_store (t := 32) (p := 90) rfl ?_); refine cell_event rfl 32 _ _ rfl (w.heap.size + 1) 5 (.int .u32 (v : Int)) rfl rfl rfl (there_row (by simp [tokCells]) H3.out.t) (by kernel_rfl) (w.heap.size + 1) (Nat.le_refl _) ?_; intro w4 hw4 hB4 hs4; have H4 : Hid (NI w (v : Int) true w4) := Lib.hid (NI.val H3.out hw4); clear hw4 hB4 hs4))
          clear hvw
          have y0 : w4.cell? ⟨w.heap.size + 1, 0, none⟩ = some (.int .i64 2) := (cell_row H4.out.t 0).trans rfl
          have y1 : w4.cell? ⟨w.heap.size + 1, 1, none⟩ = some (.int .i64 0) := (cell_row H4.out.t 1).trans rfl
          have y2 : w4.cell? ⟨w.heap.size + 1, 2, none⟩ = some (.int .i64 0) := (cell_row H4.out.t 2).trans rfl
          have y3 : w4.cell? ⟨w.heap.size + 1, 3, none⟩ = some (.int .i64 0) := (cell_row H4.out.t 3).trans rfl
          have y4 : w4.cell? ⟨w.heap.size + 1, 4, none⟩ = some (.string ⟨#[]⟩) := (cell_row H4.out.t 4).trans rfl
          have y5 : w4.cell? ⟨w.heap.size + 1, 5, none⟩ = some (.int .u32 (v : Int)) := (cell_row H4.out.t 5).trans rfl
          have y6 : w4.cell? ⟨w.heap.size + 1, 6, none⟩ = some (.bool true) := (cell_row H4.out.t 6).trans rfl
          have z0 : w4.cell? ⟨w.heap.size, 0, none⟩ = some (.int .i64 0) := (cell_row H4.out.r 0).trans rfl
          have z1 : w4.cell? ⟨w.heap.size, 1, none⟩ = some (.int .i64 0) := (cell_row H4.out.r 1).trans rfl
          have z2 : w4.cell? ⟨w.heap.size, 2, none⟩ = some (.int .i64 0) := (cell_row H4.out.r 2).trans rfl
          have z3 : w4.cell? ⟨w.heap.size, 3, none⟩ = some (.int .i64 0) := (cell_row H4.out.r 3).trans rfl
          have z4 : w4.cell? ⟨w.heap.size, 4, none⟩ = some (.string ⟨#[]⟩) := (cell_row H4.out.r 4).trans rfl
          have z5 : w4.cell? ⟨w.heap.size, 5, none⟩ = some (.int .u32 0) := (cell_row H4.out.r 5).trans rfl
          have z6 : w4.cell? ⟨w.heap.size, 6, none⟩ = some (.bool false) := (cell_row H4.out.r 6).trans rfl
          have f0 : ∀ k, w4.frozen? ⟨w.heap.size, k, none⟩ = false := fun k => frozen_row H4.out.r k
          (try simp only [Act.put, List.setIfInBounds_toArray, List.set_cons_zero, List.set_cons_succ])
          go_region
          clear y0 y1 y2 y3 y4 y5 y6 z0 z1 z2 z3 z4 z5 z6 f0
          obtain ⟨w5, hw5⟩ : ∃ w5 : World, w5 = (((((((w4.setCell ⟨w.heap.size, 0, none⟩ (.int .i64 2)).setCell ⟨w.heap.size, 1, none⟩ (.int .i64 0)).setCell ⟨w.heap.size, 2, none⟩ (.int .i64 0)).setCell ⟨w.heap.size, 3, none⟩ (.int .i64 0)).setCell ⟨w.heap.size, 4, none⟩ (.string ⟨#[]⟩)).setCell ⟨w.heap.size, 5, none⟩ (.int .u32 (v : Int))).setCell ⟨w.heap.size, 6, none⟩ (.bool true)).drew := ⟨_, rfl⟩
          rw [← hw5]
          obtain ⟨hblk5, hg5⟩ := put7 H4.out.r 2 0 0 0 ⟨#[]⟩ (v : Int) true hw5
          clear hw5
          go_wp2_with fail
          refine bodyPost_ret (results_list (rs := [.cell 2 34, .tmp 3]) rfl (by simp) (.cell w.heap.size 34 (tokCells 2 0 0 0 ⟨#[]⟩ (v : Int) true) (0, 0) _ rfl hblk5 Tryz.underlying34 rfl (by kernel_rfl) (.tmp .nil))) rfl ?_
          exact ⟨H4.out.bel.trans (below_of_grown hg5 (Nat.le_refl _) (by have := H4.out.lt; omega)), by rw [HO.out]; rfl⟩
set_option maxHeartbeats 16000000 in
theorem num_bad (s : ByteArray) (w : World) (h1 : 1 < s.size) (hs : s.size ≤ 1048576) (h0 : s[0] = 48) (hx : s.size ≤ 2 ∨ (2 < s.size ∧ s[1] ≠ 120 ∧ s[1] ≠ 88)) (hn : numL s.data.toList = none) :
    Calls Tryz.prog 77 #[.string s] w (NumPost (numL s.data.toList) w) := by
  have HO := Lib.hid hn
  have e0 : ((s[0].toNat : Int) == 48) = true := by rw [h0]; rfl
  have d1 : decide ((1 : Int) < (s.size : Int)) = true := decide_eq_true (by omega)
  have hcase : decide ((2 : Int) < (s.size : Int)) = false ∨ (decide ((2 : Int) < (s.size : Int)) = true ∧ ((s[1].toNat : Int) == 120) = false ∧ ((s[1].toNat : Int) == 88) = false) := by
    rcases hx with h | ⟨h, ha, hb⟩
    · exact .inl (decide_eq_false (by omega))
    · refine .inr ⟨decide_eq_true (by omega), ?_, ?_⟩
      · rw [beq_eq_false_iff_ne]; intro h; exact ha (UInt8.toNat_inj.1 (by simp; omega))
      · rw [beq_eq_false_iff_ne]; intro h; exact hb (UInt8.toNat_inj.1 (by simp; omega))
  clear h0 hx hn
  rcases hcase with d2 | ⟨d2, d3, d4⟩
  all_goals
    go_enter Tryz.func77, Tryz.ntmps77
    go_wp2_with fail
    refine bodyPost_ret (v := .tuple #[tokV 2 0 0 0 ⟨#[]⟩ 0 false, .bool false]) (by simp [results, Tryz.results77, go_sem, tokV, tokCells]) rfl ⟨?_, ?_⟩
    · exact ((Below.refl _ _).alloc (Nat.le_refl _) _).alloc (by simp) _
    · rw [HO.out]; exact ⟨_, _, rfl⟩

theorem drop_two (s : ByteArray) (h : 2 ≤ s.size) : s.data.toList = s[0] :: s[1] :: s.data.toList.drop 2 := by
  have h0 := drop_at s 0 (by omega)
  have h1 := drop_at s 1 (by omega)
  rw [List.drop_zero] at h0
  rw [← h1]; exact h0
/-- number at a word that begins with a digit. -/
theorem number_calls (s : ByteArray) (w : World) (h0 : 0 < s.size) (hs : s.size ≤ 1048576) (hG : Glob w) :
    Calls Tryz.prog 77 #[.string s] w (NumPost (numL s.data.toList) w) := by
  have hlen : s.data.toList.length = s.size := by rw [Array.length_toList]; rfl
  by_cases h1 : s.size = 1
  · have hl := drop_at s 0 h0
    rw [List.drop_zero, List.drop_eq_nil_of_le (by omega)] at hl
    exact num_dec s w h0 hs (.inl h1) (by rw [hl]; rfl) hG
  · have hl := drop_two s (by omega)
    by_cases hc : s[0] = 48
    · by_cases hx : s.size > 2 ∧ (s[1] = 120 ∨ s[1] = 88)
      · refine num_hex s w hs hx.1 hc hx.2 ?_ hG
        conv => lhs; rw [hl]
        have hne : s.data.toList.drop 2 ≠ [] := fun e => by
          have := List.drop_eq_nil_iff.1 e; omega
        simp only [numL, hc, if_true, if_pos hx.2, if_neg hne]
      · refine num_bad s w (by omega) hs hc ?_ ?_
        · by_cases hz : 2 < s.size
          · exact .inr ⟨hz, fun e => hx ⟨hz, .inl e⟩, fun e => hx ⟨hz, .inr e⟩⟩
          · exact .inl (by omega)
        · rw [hl]
          simp only [numL, hc, if_true]
          by_cases hx2 : s[1] = 120 ∨ s[1] = 88
          · rw [if_pos hx2]
            have : s.data.toList.drop 2 = [] := List.drop_eq_nil_of_le (by
              rcases Nat.lt_or_ge 2 s.size with h | h
              · exact absurd ⟨h, hx2⟩ hx
              · omega)
            rw [if_pos this]
          · rw [if_neg hx2]
    · refine num_dec s w h0 hs (.inr hc) ?_ hG
      conv => lhs; rw [hl]
      simp only [numL, if_neg hc]
      rw [← hl]
end Go.Proofs.YtpecmmicndcgjaaGreatDoor.Tok

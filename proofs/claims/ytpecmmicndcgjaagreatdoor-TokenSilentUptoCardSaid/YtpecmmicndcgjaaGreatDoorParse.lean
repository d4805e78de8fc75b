/- CONTRACT: strconv.ParseUint to the base 10 or 16, at 32 bits, of a string that holds digits of that base alone. -/
import Derived.Test.YtpecmmicndcgjaaGreatDoorEv
import Derived.Test.YtpecmmicndcgjaaGreatDoorGlob
import Derived.Test.YtpecmmicndcgjaaGreatDoorLawA
import Derived.Test.YtpecmmicndcgjaaGreatDoorShelf
import Derived.Lib.ConvBytes
import Derived.Lib.Strings
import Derived.Lib.Walk
import Derived.Laws.Strings3
import Derived.Laws.Closers25
import Derived.Laws.Closers25b
import Derived.BigCall
import Derived.BigGuard
namespace Go.Proofs.YtpecmmicndcgjaaGreatDoor.Tok
open Go.RowKit Go.Proofs.YtpecmmicndcgjaaGreatDoor.PA Go.Proofs.YtpecmmicndcgjaaGreatDoorW.PrintWords Go.Proofs.YtpecmmicndcgjaaGreatDoorW.PrintLast Go.Proofs.YtpecmmicndcgjaaGreatDoor.Sp
set_option linter.unusedVariables false
set_option linter.unusedSimpArgs false
set_option maxRecDepth 100000

theorem or_low (c : UInt8) : 97 ≤ c.toNat ∧ c.toNat ≤ 102 → bits .or .u8 (c.toNat : Int) 32 = (c.toNat : Int) := u8_forall (p := fun c => 97 ≤ c.toNat ∧ c.toNat ≤ 102 → bits .or .u8 (c.toNat : Int) 32 = (c.toNat : Int)) (by decide +kernel) c
theorem or_up (c : UInt8) : 65 ≤ c.toNat ∧ c.toNat ≤ 70 → bits .or .u8 (c.toNat : Int) 32 = (c.toNat : Int) + 32 := u8_forall (p := fun c => 65 ≤ c.toNat ∧ c.toNat ≤ 70 → bits .or .u8 (c.toNat : Int) 32 = (c.toNat : Int) + 32) (by decide +kernel) c
theorem lower_calls (c v : Int) (w : World) (h : bits .or .u8 c 32 = v) : Calls Tryz.prog 141 #[.int .u8 c] w fun e w' => e = .returned (.int .u8 v) ∧ w = w' := by
  go_enter Tryz.func141, Tryz.ntmps141
  go_wp2
  go_ret
  exact ⟨rfl, rfl⟩
def puV : Option Nat → Value
  | some v => .tuple #[.int .u64 (v : Int), .nilIface]
  | none => .tuple #[.int .u64 4294967295, .iface 236 (.int .i64 1)]
/-- A digit's three make. -/
theorem dig_cases {c : UInt8} {b : Nat} (hb : b ≤ 16) (h : digitVal c < b) : (48 ≤ c.toNat ∧ c.toNat ≤ 57 ∧ digitVal c = c.toNat - 48) ∨ (97 ≤ c.toNat ∧ c.toNat ≤ 102 ∧ digitVal c = c.toNat - 87 ∧ b > 10) ∨ (65 ≤ c.toNat ∧ c.toNat ≤ 70 ∧ digitVal c = c.toNat - 55 ∧ b > 10) := by
  unfold digitVal at h ⊢
  split at h
  · rename_i hd
    rw [if_pos hd]
    unfold digitB at hd
    simp at hd
    exact .inl ⟨hd.1, hd.2, rfl⟩
  · rename_i hd
    rw [if_neg hd]
    split at h
    · rename_i h2
      rw [if_pos h2]
      exact .inr (.inl ⟨h2.1, h2.2, rfl, by omega⟩)
    · rename_i h2
      rw [if_neg h2]
      split at h
      · rename_i h3
        rw [if_pos h3]
        exact .inr (.inr ⟨h3.1, h3.2, rfl, by omega⟩)
      · omega
set_option maxHeartbeats 32000000 in
theorem pu_calls (b : Nat) (B : Int) (hb : (b = 10 ∧ B = 10) ∨ (b = 16 ∧ B = 16)) (t : ByteArray) (hne : t.size ≠ 0) (hmax : t.size ≤ 1048576) (hall : ∀ c ∈ t.data.toList, digitVal c < b) (w : World) :
    Calls Tryz.prog 125 #[.string t, .int .i64 B, .int .i64 32] w fun e w' => e = .returned (puV (numVal b 0 t.data.toList)) ∧ w' = Lib.bytesWorld w 5 t := by
  have hemp : t.toList.isEmpty = false := by
    rw [← decide_eq_emptyBytes]
    exact decide_eq_false (fun h => hne (by rw [h]; rfl))
  have hcv := Lib.run_convert_string_bytes (P := Tryz.prog) w 9 48 5 t (u := .string) Tryz.underlying9 Tryz.underlying48 Tryz.underlying5
  have hB : ∀ j, j < t.size → (Lib.bytesWorld w 5 t).cell? ⟨w.heap.size, j, none⟩ = some (.int .u8 (t.data.toList.getD j 0).toNat) := fun j hj => Lib.bytesWorld_cell w 5 t j hj
  obtain ⟨W1, hW1⟩ : ∃ W1, W1 = Lib.bytesWorld w 5 t := ⟨_, rfl⟩
  rw [← hW1] at hcv hB ⊢
  clear hW1
  obtain ⟨bs, hL⟩ : ∃ bs, bs = t.data.toList := ⟨_, rfl⟩
  have hLn : bs.length = t.size := by rw [hL, Lib.size_eq]
  rw [← hL] at hB hall ⊢
  clear hL
  have HA := Lib.hid hall
  clear hall
  have hmv : IntKind.u64.wrap (IntKind.u64.wrap 4294967296 - 1) = 4294967295 := by
    rw [IntKind.wrap_u64, IntKind.wrap_u64]
    decide
  rcases hb with ⟨rfl, rfl⟩ | ⟨rfl, rfl⟩
  all_goals
    go_enter Tryz.func125, Tryz.ntmps125
    go_wp2
  · go_loop [12, 13, 101] (fun vu vn vi => ∃ (k acc : Nat) (a : Int), vu = .bool false ∧ vn = .int .u64 a ∧ vi = .int .i64 k ∧ k ≤ t.size ∧ Hid (a = (acc : Int) ∧ acc ≤ 4294967295 ∧ numVal 10 0 bs = numVal 10 acc (bs.drop k)))
      (fun _ _ vi => t.size - (intOf vi).toNat)
    case atStart => exact ⟨0, 0, 0, rfl, rfl, rfl, by omega, rfl, by omega, rfl⟩
    case round =>
      obtain ⟨k, acc, a, rfl, rfl, rfl, hk, hh⟩ := hrel
      obtain ⟨ha, hacc, hdec⟩ := hh.out
      clear hh
      have a0 : 0 ≤ a := by omega
      have a1 : a ≤ 4294967295 := by omega
      by_cases hkn : k < t.size
      · have hc := hB k hkn
        have hdrop : bs.drop k = bs[k]'(by omega) :: bs.drop (k + 1) := List.drop_eq_getElem_cons (by omega)
        have hget : bs.getD k 0 = bs[k]'(by omega) := by simp [List.getD, List.getElem?_eq_getElem (show k < bs.length by omega)]
        have hdv := HA.out (bs[k]'(by omega)) (List.getElem_mem _)
        rw [hdrop] at hdec
        rw [hget] at hc
        generalize bs[k]'(by omega) = c at hc hdec hdv
        have hc256 : c.toNat < 256 := c.toNat_lt
        clear hB hdrop hget
        rcases dig_cases (by omega) hdv with ⟨hd0, hd1, he⟩ | ⟨_, _, _, _⟩ | ⟨_, _, _, _⟩
        · by_cases hov : 4294967295 < acc * 10 + (c.toNat - 48)
          · have hF : numVal 10 acc (c :: bs.drop (k + 1)) = none := by
              simp only [numVal, he]
              rw [if_pos (by omega), if_neg (by omega)]
            rw [hF] at hdec
            have HD := Lib.hid hdec
            have iov : 4294967295 < a * 10 + ((c.toNat : Int) - 48) := by omega
            clear hacc hF hov ha he hdv hdec
            go_wp2
            go_ret2
            exact ⟨by rw [HD.out]; rfl, rfl⟩
          · have hF : numVal 10 acc (c :: bs.drop (k + 1)) = numVal 10 (acc * 10 + (c.toNat - 48)) (bs.drop (k + 1)) := by
              simp only [numVal, he]
              rw [if_pos (by omega), if_pos (by omega)]
            have HN : Hid (a * 10 + ((c.toNat : Int) - 48) = ((acc * 10 + (c.toNat - 48) : Nat) : Int) ∧ acc * 10 + (c.toNat - 48) ≤ 4294967295 ∧ numVal 10 0 bs = numVal 10 (acc * 10 + (c.toNat - 48)) (bs.drop (k + 1))) := Lib.hid ⟨by omega, by omega, hdec.trans hF⟩
            have iov : a * 10 + ((c.toNat : Int) - 48) ≤ 4294967295 := by omega
            clear hacc hF hov hdec ha he hdv
            go_wp2
            refine ⟨⟨k + 1, acc * 10 + (c.toNat - 48), a * 10 + ((c.toNat : Int) - 48), rfl, (by first | rfl | (congr 1; omega)), (by first | rfl | (congr 1; omega)), by omega, HN⟩, by simp [intOf]; omega⟩
        · omega
        · omega
      · have hkk : k = t.size := by omega
        subst hkk
        have hF : numVal 10 acc (bs.drop t.size) = some acc := by rw [List.drop_eq_nil_of_le (by omega)]; rfl
        rw [hF] at hdec
        have HD := Lib.hid hdec
        subst ha
        clear hacc hF a0 a1 hdec
        go_wp2
        go_ret2
        exact ⟨by rw [HD.out]; rfl, rfl⟩
  · go_loop [12, 13, 101] (fun vu vn vi => ∃ (k acc : Nat) (a : Int), vu = .bool false ∧ vn = .int .u64 a ∧ vi = .int .i64 k ∧ k ≤ t.size ∧ Hid (a = (acc : Int) ∧ acc ≤ 4294967295 ∧ numVal 16 0 bs = numVal 16 acc (bs.drop k)))
      (fun _ _ vi => t.size - (intOf vi).toNat)
    case atStart => exact ⟨0, 0, 0, rfl, rfl, rfl, by omega, rfl, by omega, rfl⟩
    case round =>
      obtain ⟨k, acc, a, rfl, rfl, rfl, hk, hh⟩ := hrel
      obtain ⟨ha, hacc, hdec⟩ := hh.out
      clear hh
      have a0 : 0 ≤ a := by omega
      have a1 : a ≤ 4294967295 := by omega
      by_cases hkn : k < t.size
      · have hc := hB k hkn
        have hdrop : bs.drop k = bs[k]'(by omega) :: bs.drop (k + 1) := List.drop_eq_getElem_cons (by omega)
        have hget : bs.getD k 0 = bs[k]'(by omega) := by simp [List.getD, List.getElem?_eq_getElem (show k < bs.length by omega)]
        have hdv := HA.out (bs[k]'(by omega)) (List.getElem_mem _)
        rw [hdrop] at hdec
        rw [hget] at hc
        generalize bs[k]'(by omega) = c at hc hdec hdv
        have hc256 : c.toNat < 256 := c.toNat_lt
        clear hB hdrop hget
        obtain ⟨d, v, hd16, HE, hcase⟩ : ∃ (d : Nat) (v : Int), d < 16 ∧ Hid (digitVal c = d) ∧ ((48 ≤ c.toNat ∧ c.toNat ≤ 57 ∧ (d : Int) = (c.toNat : Int) - 48) ∨ (57 < c.toNat ∧ c.toNat ≠ 95 ∧ Hid (bits .or .u8 (c.toNat : Int) 32 = v) ∧ 97 ≤ v ∧ v ≤ 102 ∧ (d : Int) = v - 97 + 10)) := by
          rcases dig_cases (by omega) hdv with ⟨h1, h2, h3⟩ | ⟨h1, h2, h3, _⟩ | ⟨h1, h2, h3, _⟩
          · exact ⟨c.toNat - 48, 0, by omega, Lib.hid h3, .inl ⟨h1, h2, by omega⟩⟩
          · exact ⟨c.toNat - 87, c.toNat, by omega, Lib.hid h3, .inr ⟨by omega, by omega, Lib.hid (or_low c ⟨h1, h2⟩), by omega, by omega, by omega⟩⟩
          · exact ⟨c.toNat - 55, c.toNat + 32, by omega, Lib.hid h3, .inr ⟨by omega, by omega, Lib.hid (or_up c ⟨h1, h2⟩), by omega, by omega, by omega⟩⟩
        clear hdv
        by_cases hov : 4294967295 < acc * 16 + d
        · have hF : numVal 16 acc (c :: bs.drop (k + 1)) = none := by
            simp only [numVal, HE.out]
            rw [if_pos (by omega), if_neg (by omega)]
          rw [hF] at hdec
          have HD := Lib.hid hdec
          rcases hcase with ⟨h1, h2, h3⟩ | ⟨h1, h2, h3, h4, h5, h6⟩
          · have iov : 4294967295 < a * 16 + ((c.toNat : Int) - 48) := by omega
            clear hacc hF hov ha hdec h3 hd16
            go_wp2
            go_ret2
            exact ⟨by rw [HD.out]; rfl, rfl⟩
          · have iov : 4294967295 < a * 16 + (v - 97 + 10) := by omega
            have h95 : ((c.toNat : Int) == 95) = false := by rw [beq_eq_false_iff_ne]; omega
            clear hacc hF hov ha hdec h6 hd16 h2
            go_wp2_with (go_at_call 141; refine (lower_calls _ v _ h3.out).mono ?_; rintro e w' ⟨rfl, rfl⟩)
            go_ret2
            exact ⟨by rw [HD.out]; rfl, rfl⟩
        · have hF : numVal 16 acc (c :: bs.drop (k + 1)) = numVal 16 (acc * 16 + d) (bs.drop (k + 1)) := by
            simp only [numVal, HE.out]
            rw [if_pos (by omega), if_pos (by omega)]
          have HD := Lib.hid (hdec.trans hF)
          rcases hcase with ⟨h1, h2, h3⟩ | ⟨h1, h2, h3, h4, h5, h6⟩
          · have HN : Hid (a * 16 + ((c.toNat : Int) - 48) = ((acc * 16 + d : Nat) : Int) ∧ acc * 16 + d ≤ 4294967295 ∧ numVal 16 0 bs = numVal 16 (acc * 16 + d) (bs.drop (k + 1))) := Lib.hid ⟨by omega, by omega, HD.out⟩
            have iov : a * 16 + ((c.toNat : Int) - 48) ≤ 4294967295 := by omega
            clear hacc hF hov ha hdec h3 hd16
            go_wp2
            refine ⟨⟨k + 1, acc * 16 + d, a * 16 + ((c.toNat : Int) - 48), rfl, (by first | rfl | (congr 1; omega)), (by first | rfl | (congr 1; omega)), by omega, HN⟩, by simp [intOf]; omega⟩
          · have HN : Hid (a * 16 + (v - 97 + 10) = ((acc * 16 + d : Nat) : Int) ∧ acc * 16 + d ≤ 4294967295 ∧ numVal 16 0 bs = numVal 16 (acc * 16 + d) (bs.drop (k + 1))) := Lib.hid ⟨by omega, by omega, HD.out⟩
            have iov : a * 16 + (v - 97 + 10) ≤ 4294967295 := by omega
            have h95 : ((c.toNat : Int) == 95) = false := by rw [beq_eq_false_iff_ne]; omega
            clear hacc hF hov ha hdec h6 hd16 h2
            go_wp2_with (go_at_call 141; refine (lower_calls _ v _ h3.out).mono ?_; rintro e w' ⟨rfl, rfl⟩)
            refine ⟨⟨k + 1, acc * 16 + d, a * 16 + (v - 97 + 10), rfl, (by first | rfl | (congr 1; omega)), (by first | rfl | (congr 1; omega)), by omega, HN⟩, by simp [intOf]; omega⟩
      · have hkk : k = t.size := by omega
        subst hkk
        have hF : numVal 16 acc (bs.drop t.size) = some acc := by rw [List.drop_eq_nil_of_le (by omega)]; rfl
        rw [hF] at hdec
        have HD := Lib.hid hdec
        subst ha
        clear hacc hF a0 a1 hdec
        go_wp2
        go_ret2
        exact ⟨by rw [HD.out]; rfl, rfl⟩
end Go.Proofs.YtpecmmicndcgjaaGreatDoor.Tok

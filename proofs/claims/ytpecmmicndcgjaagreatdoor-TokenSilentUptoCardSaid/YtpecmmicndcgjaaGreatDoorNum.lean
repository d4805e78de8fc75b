/- CONTRACTS: strconv.ParseUint (public), package token's digit and number. -/
import Derived.Test.YtpecmmicndcgjaaGreatDoorParse
import Derived.Test.YtpecmmicndcgjaaGreatDoorTok3
import Derived.Test.YtpecmmicndcgjaaGreatDoorTok3
namespace Go.Proofs.YtpecmmicndcgjaaGreatDoor.Tok
open Go.RowKit Go.Proofs.YtpecmmicndcgjaaGreatDoor.PA Go.Proofs.YtpecmmicndcgjaaGreatDoorW.PrintWords Go.Proofs.YtpecmmicndcgjaaGreatDoorW.PrintLast Go.Proofs.YtpecmmicndcgjaaGreatDoor.Sp
set_option linter.unusedVariables false
set_option linter.unusedSimpArgs false
set_option maxRecDepth 100000

theorem range_cell {w : World} (h : Glob w) : ∃ tp p, w.cell? ⟨9, 0, none⟩ = some (.iface tp p) := by
  obtain ⟨tp, p, hv⟩ := h.range
  refine ⟨tp, p, ?_⟩
  unfold World.var? at hv
  have hg : Tryz.prog.globalNamed "strconv.ErrRange" = some 9 := by kernel_rfl
  simp only [hg, Option.bind_some] at hv
  unfold World.cell?
  cases hb : w.heap[9]? with
  | none => simp [hb] at hv
  | some o =>
    simp only [hb, Option.bind_some] at hv ⊢
    cases o <;> simp_all
theorem bytesWorld_below (w : World) (t : ByteArray) : Below w.heap.size w (Lib.bytesWorld w 5 t) := by
  unfold Lib.bytesWorld
  refine ⟨rfl, rfl, rfl, ?_, ?_⟩
  · simp [World.freeze]
  · intro i hi
    simp only [World.freeze]
    rw [if_neg (by omega)]
    simp only
    rw [Array.getElem?_modify, if_neg (by omega)]
    exact Below.heap_alloc _ _ _ (by simpa using hi)
def PubPost (o : Option Nat) (w : World) (e : Ending) (w' : World) : Prop :=
  Below w.heap.size w w' ∧ match o with
    | some v => e = .returned (.tuple #[.int .u64 (v : Int), .nilIface])
    | none => ∃ p, e = .returned (.tuple #[.int .u64 4294967295, .iface 238 p])
theorem pub_yes (b : Nat) (B : Int) (hb : (b = 10 ∧ B = 10) ∨ (b = 16 ∧ B = 16)) (t : ByteArray) (hne : t.size ≠ 0) (hmax : t.size ≤ 1048576) (hall : ∀ c ∈ t.data.toList, digitVal c < b) (w : World) (v : Nat) (hv : numVal b 0 t.data.toList = some v) :
    Calls Tryz.prog 100 #[.string t, .int .i64 B, .int .i64 32] w fun e w' => e = .returned (.tuple #[.int .u64 (v : Int), .nilIface]) ∧ Below w.heap.size w w' := by
  have hp := pu_calls b B hb t hne hmax hall w
  rw [hv] at hp
  have HP := Lib.hid hp
  clear hp hv hall hb
  go_enter Tryz.func100, Tryz.ntmps100
  go_wp2_with (first
    | (go_at_call 125; refine HP.out.mono ?_; rintro e w' ⟨rfl, hw⟩; have HB : Hid (Below w.heap.size w w') := Lib.hid (by rw [hw]; exact bytesWorld_below w t); clear hw; unfold puV))
  go_ret2
  exact ⟨rfl, HB.out⟩
theorem pub_no (b : Nat) (B : Int) (hb : (b = 10 ∧ B = 10) ∨ (b = 16 ∧ B = 16)) (t : ByteArray) (hne : t.size ≠ 0) (hmax : t.size ≤ 1048576) (hall : ∀ c ∈ t.data.toList, digitVal c < b) (w : World) (hv : numVal b 0 t.data.toList = none) (hG : Glob w) :
    Calls Tryz.prog 100 #[.string t, .int .i64 B, .int .i64 32] w fun e w' => (∃ p, e = .returned (.tuple #[.int .u64 4294967295, .iface 238 p])) ∧ Below w.heap.size w w' := by
  have hp := pu_calls b B hb t hne hmax hall w
  rw [hv] at hp
  have HP := Lib.hid hp
  have HG := Lib.hid hG
  clear hp hv hall hb hG
  go_enter Tryz.func100, Tryz.ntmps100
  go_wp2_with (first
    | (go_at_call 125; refine HP.out.mono ?_; rintro e w' ⟨rfl, hw⟩; have HB : Hid (Below w.heap.size w w') := Lib.hid (by rw [hw]; exact bytesWorld_below w t); clear hw; unfold puV)
    | (go_at_call 126; obtain ⟨tp, p, hev⟩ := range_cell (HG.out.below HB.out); refine (Tryz.strconv_toError_range _ _ _ _ _ _ (by omega) hev (.inr ⟨tp, p, rfl⟩)).mono ?_; rintro e w2 ⟨N, rfl, hN, hc, hB2⟩; clear hc hN hev; have HB2 := Lib.hid (HB.out.trans (hB2.mono HB.out.size)); clear hB2))
  go_ret2
  exact ⟨⟨_, rfl⟩, HB2.out⟩
theorem digit_u8 (c : UInt8) (w : World) : Calls Tryz.prog 76 #[.int .u8 (c.toNat : Int)] w fun e w' => e = .returned (.bool (digitB c)) ∧ w = w' := by
  by_cases h1 : 48 ≤ c.toNat
  · have d1 : decide ((48 : Int) ≤ (c.toNat : Int)) = true := decide_eq_true (by omega)
    by_cases h2 : c.toNat ≤ 57
    · have d2 : decide ((c.toNat : Int) ≤ 57) = true := decide_eq_true (by omega)
      have H := Lib.hid (show digitB c = true by simp [digitB, h1, h2])
      clear h1 h2
      go_enter Tryz.func76, Tryz.ntmps76
      go_wp2
      go_ret
      exact ⟨by rw [H.out]; rfl, rfl⟩
    · have d2 : decide ((c.toNat : Int) ≤ 57) = false := decide_eq_false (by omega)
      have H := Lib.hid (show digitB c = false by simp [digitB, h1, h2])
      clear h1 h2
      go_enter Tryz.func76, Tryz.ntmps76
      go_wp2
      go_ret
      exact ⟨by rw [H.out]; rfl, rfl⟩
  · have d1 : decide ((48 : Int) ≤ (c.toNat : Int)) = false := decide_eq_false (by omega)
    have H := Lib.hid (show digitB c = false by simp [digitB, h1])
    clear h1
    go_enter Tryz.func76, Tryz.ntmps76
    go_wp2
    go_ret
    exact ⟨by rw [H.out]; rfl, rfl⟩
end Go.Proofs.YtpecmmicndcgjaaGreatDoor.Tok

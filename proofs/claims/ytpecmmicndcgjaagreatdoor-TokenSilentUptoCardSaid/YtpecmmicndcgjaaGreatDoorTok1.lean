/- CONTRACTS OF package token: at, plain, marks: what they answer, in any world. No condition but a string's size. -/
import Derived.Test.YtpecmmicndcgjaaGreatDoorPAy0
import Derived.WalkKit
import Derived.KernelRfl
import Derived.RowKit3
import Derived.Deep.LoopGhost
import Derived.Deep.QuietTactic
import Derived.BigQuiet
import Derived.Lib.Hide
namespace Go.Proofs.YtpecmmicndcgjaaGreatDoor.Tok
open Go.RowKit Go.Proofs.YtpecmmicndcgjaaGreatDoor.PA Go.Proofs.YtpecmmicndcgjaaGreatDoorW.PrintWords Go.Proofs.YtpecmmicndcgjaaGreatDoorW.PrintLast
set_option linter.unusedVariables false
set_option linter.unusedSimpArgs false

/-- What an error of package token holds: where, and its number. -/
def WrongAt (W : World) (b : Nat) (off code : Int) : Prop := W.heap[b]? = some (.cells #[.int .i64 off, .iface 62 (.int .i64 code)] 59 (0, 0))
def errV (b : Nat) : Value := .iface 55 (.pointer (some ⟨b, 0, none⟩))

def AtPost (off code : Int) (w : World) (e : Ending) (w' : World) : Prop := ∃ b, e = .returned (errV b) ∧ w.heap.size ≤ b ∧ WrongAt w' b off code ∧ Below w.heap.size w w'
theorem at_calls (off code : Int) (w : World) : Calls Tryz.prog 45 #[.int .i64 off, .int .i64 code] w (AtPost off code w) := by
  go_enter Tryz.func45, Tryz.ntmps45
  go_wp2
  go_ret
  refine ⟨w.heap.size, rfl, Nat.le_refl _, ?_, (Below.refl _ _).alloc (Nat.le_refl _) _⟩
  unfold WrongAt
  simpa using heap_alloc_new w _


/-! ### plain -/
def plainC (c : UInt8) : Bool := decide (32 ≤ c.toNat ∧ c.toNat ≤ 126)
def plainS (s : ByteArray) : Bool := s.data.toList.all plainC
theorem plainS_of (s : ByteArray) (h : ∀ (j : Nat) (hj : j < s.size), plainC (s[j]'hj) = true) : plainS s = true := by
  unfold plainS
  rw [List.all_eq_true]
  intro c hc
  obtain ⟨j, hj, rfl⟩ := List.mem_iff_getElem.1 hc
  exact h j (by simpa using hj)
theorem plainS_not (s : ByteArray) (j : Nat) (hj : j < s.size) (h : plainC (s[j]'hj) = false) : plainS s = false := by
  rw [Bool.eq_false_iff]
  intro hp
  unfold plainS at hp
  rw [List.all_eq_true] at hp
  have := hp (s[j]'hj) (List.mem_iff_getElem.2 ⟨j, by simpa using hj, rfl⟩)
  rw [h] at this
  cases this
structure PlainTo (s : ByteArray) (pos : Nat) : Prop where mk :: (out : ∀ (j : Nat) (hj : j < s.size), j < pos → plainC (s[j]'hj) = true)
theorem PlainTo.step {s : ByteArray} {pos : Nat} (h : PlainTo s pos) (hp : pos < s.size) (hc : plainC (s[pos]'hp) = true) : PlainTo s (pos + 1) :=
  ⟨fun j hj hlt => by
    rcases Nat.lt_or_ge j pos with h1 | h1
    · exact h.out j hj h1
    · have : j = pos := by omega
      subst this
      exact hc⟩
def PlainPost (s : ByteArray) (w : World) (e : Ending) (w' : World) : Prop := e = .returned (.bool (plainS s)) ∧ Below w.heap.size w w'
set_option maxHeartbeats 1000000 in
theorem plain_calls (s : ByteArray) (w : World) (hs : s.size ≤ 9223372036854775807) : Calls Tryz.prog 33 #[.string s] w (PlainPost s w) := by
  go_enter Tryz.func33, Tryz.ntmps33
  go_wp2
  go_loopw [4] (fun v wr => ∃ pos : Nat, pos ≤ s.size ∧ wr = w.iter s pos ∧ PlainTo s pos) (fun v wr => s.size - wr.iterPos w.heap.size)
  case atStart => exact ⟨0, Nat.zero_le _, rfl, ⟨fun j hj h => by omega⟩⟩
  case round =>
    obtain ⟨pos, hle, rfl, HP⟩ := hrel
    have hB : ∀ p, Below w.heap.size w (w.iter s p) := fun p => (Below.refl _ _).alloc (Nat.le_refl _) _
    by_cases hp : pos < s.size
    · have hnx : ∀ ty, (Instr.next (.pointer (some ⟨w.heap.size, 0, none⟩)) true ty).run Tryz.prog (w.iter s pos) = _ := fun ty => run_next_any w s pos ty hp
      by_cases hasc : (s[pos]'hp).toNat < 128
      · rw [decode_ascii s pos hp hasc] at hnx
        by_cases h1 : (s[pos]'hp).toNat < 32
        · have hc := plainS_not s pos hp (by unfold plainC; rw [decide_eq_false_iff_not]; omega)
          have H := Lib.hid hc; clear hc
          have hd : decide ((((s[pos]'hp).toNat : Nat) : Int) < 32) = true := by rw [decide_eq_true_eq]; omega
          go_wp2
          go_ret
          exact ⟨by rw [H.out]; rfl, hB _⟩
        · by_cases h2 : 126 < (s[pos]'hp).toNat
          · have hc := plainS_not s pos hp (by unfold plainC; rw [decide_eq_false_iff_not]; omega)
            have H := Lib.hid hc; clear hc
            have hd : decide ((((s[pos]'hp).toNat : Nat) : Int) < 32) = false := by rw [decide_eq_false_iff_not]; omega
            have hd2 : decide (126 < (((s[pos]'hp).toNat : Nat) : Int)) = true := by rw [decide_eq_true_eq]; omega
            go_wp2
            go_ret
            exact ⟨by rw [H.out]; rfl, hB _⟩
          · have hc : plainC (s[pos]'hp) = true := by unfold plainC; rw [decide_eq_true_eq]; omega
            have HP1 := HP.step hp hc; clear hc HP
            have hd : decide ((((s[pos]'hp).toNat : Nat) : Int) < 32) = false := by rw [decide_eq_false_iff_not]; omega
            have hd2 : decide (126 < (((s[pos]'hp).toNat : Nat) : Int)) = false := by rw [decide_eq_false_iff_not]; omega
            go_wp2
            go_roundw
            case rel => exact ⟨pos + 1, by omega, rfl, HP1⟩
            case measure => simp; omega
      · have hhi := (decode_high s pos hp (by omega)).1
        have hc := plainS_not s pos hp (by unfold plainC; rw [decide_eq_false_iff_not]; omega)
        have H := Lib.hid hc; clear hc
        have hd : decide (((Utf8.decode s pos).1 : Int) < 32) = false := by rw [decide_eq_false_iff_not]; omega
        have hd2 : decide (126 < ((Utf8.decode s pos).1 : Int)) = true := by rw [decide_eq_true_eq]; omega
        clear hhi
        go_wp2
        go_ret
        exact ⟨by rw [H.out]; rfl, hB _⟩
    · have hnx : ∀ ty, (Instr.next (.pointer (some ⟨w.heap.size, 0, none⟩)) true ty).run Tryz.prog (w.iter s pos) = _ := fun ty => run_next_end w s pos ty hp
      have hc := plainS_of s fun j hj => HP.out j hj (by omega)
      have H := Lib.hid hc; clear hc HP
      go_wp2
      go_ret
      exact ⟨by rw [H.out]; rfl, hB _⟩

/-! ### marks -/
def marksV : Value := .agg #[.int .u8 123, .int .i64 4, .int .u8 125, .int .i64 5, .int .u8 61, .int .i64 6, .int .u8 59, .int .i64 7, .int .u8 58, .int .i64 8]
def MarksPost (w : World) (e : Ending) (w' : World) : Prop := e = .returned marksV ∧ Below w.heap.size w w'
theorem marks_calls (w : World) : Calls Tryz.prog 36 #[] w (MarksPost w) := by
  go_enter Tryz.func36, Tryz.ntmps36
  go_wp2
  refine bodyPost_ret (v := marksV) (by simp [results, Tryz.results36, go_sem, marksV]) rfl ⟨rfl, ?_⟩
  exact (Below.refl _ _).alloc (Nat.le_refl _) _

end Go.Proofs.YtpecmmicndcgjaaGreatDoor.Tok

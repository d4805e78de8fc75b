/- THE LAWS' WALKS: TokenOrder answers true, of every text of at most 2^20 bytes. -/
import Derived.Test.YtpecmmicndcgjaaGreatDoorLawOrdA
import Derived.Test.YtpecmmicndcgjaaGreatDoorLawOrdB
namespace Go.Proofs.YtpecmmicndcgjaaGreatDoor.Tok
open Go.RowKit Go.Proofs.YtpecmmicndcgjaaGreatDoor.PA Go.Proofs.YtpecmmicndcgjaaGreatDoorW.PrintWords Go.Proofs.YtpecmmicndcgjaaGreatDoorW.PrintLast Go.Proofs.YtpecmmicndcgjaaGreatDoor.Sp
set_option linter.unusedVariables false
set_option linter.unusedSimpArgs false

theorem law_order (text : ByteArray) (w : World) (hs : text.size ≤ 1048576) (hG : Glob w) :
    Calls Tryz.prog 9 #[.string text] w fun e w' => e = .returned (.bool true) ∧ Below w.heap.size w w' := by
  cases h : scanT text.data.toList with
  | error cp => obtain ⟨c, p⟩ := cp; exact law_order_bad text w hs hG c p h
  | ok l =>
    have hsc : Scans text.data.toList 0 l := by
      have h' := h
      unfold scanT at h'
      split at h'
      · cases h'
      · exact scans_of _ _ _ _ h'
    have hb := scans_bound hsc (Nat.zero_le _)
    have e : text.data.toList.length = text.size := by rw [Array.length_toList]; rfl
    exact law_order_ok text w hs hG l h hb.1 (by omega) (Sp.facts hsc (Nat.zero_le _))
end Go.Proofs.YtpecmmicndcgjaaGreatDoor.Tok

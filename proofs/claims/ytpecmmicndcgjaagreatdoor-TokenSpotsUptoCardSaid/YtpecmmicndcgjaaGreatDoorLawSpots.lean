/- THE LAWS' WALKS: TokenSpots answers true, of every text of at most 2^20 bytes and every place. -/
import Derived.Test.YtpecmmicndcgjaaGreatDoorLive
import Derived.Test.YtpecmmicndcgjaaGreatDoorRspot
namespace Go.Proofs.YtpecmmicndcgjaaGreatDoor.Tok
open Go.RowKit Go.Proofs.YtpecmmicndcgjaaGreatDoor.PA Go.Proofs.YtpecmmicndcgjaaGreatDoorW.PrintWords Go.Proofs.YtpecmmicndcgjaaGreatDoorW.PrintLast Go.Proofs.YtpecmmicndcgjaaGreatDoor.Sp
set_option linter.unusedVariables false
set_option linter.unusedSimpArgs false
set_option maxRecDepth 100000

theorem law_spots (text : ByteArray) (off : Int) (w : World) (hs : text.size ≤ 1048576) (hG : Glob w) :
    Calls Tryz.prog 6 #[.string text, .int .i64 off] w fun e w' => e = .returned (.bool true) ∧ Below w.heap.size w w' := by
  have HG := Lib.hid hG
  have HR := Lib.hid (rspot_spec text hs off)
  have HC := Lib.hid (at_calls2 text off w (by omega))
  clear hG
  generalize ((clampT off text.size : Nat) : Int) = a at HR HC
  generalize (((spotT text.data.toList (clampT off text.size)).1 : Nat) : Int) = b at HR HC
  generalize (((spotT text.data.toList (clampT off text.size)).2 : Nat) : Int) = c at HR HC
  go_enter Tryz.func6, Tryz.ntmps6
  go_wp2_with (first
    | (go_at_call 19; refine HC.out.mono ?_; rintro e w2 ⟨rfl, hB2⟩; have B2 := Lib.hid hB2; clear hB2)
    | (go_at_call 20; refine (tappetref02_Spot.calls _ _ _ _ _ _ _ HR.out).mono ?_; rintro e w3 ⟨rfl, hB3⟩; have B3 := Lib.hid (B2.out.trans (hB3.mono B2.out.size)); clear hB3)
    | (go_at_call 13; refine (alive_calls _ (HG.out.below B3.out)).mono ?_; rintro e w4 ⟨rfl, hB4⟩; have B4 := Lib.hid (B3.out.trans (hB4.mono B3.out.size)); clear hB4))
  go_ret
  exact ⟨rfl, B4.out⟩
end Go.Proofs.YtpecmmicndcgjaaGreatDoor.Tok

/- THE LAWS' WALKS: TokenSpells answers true, of every token whose text is at most 2^20 bytes. -/
import Derived.Test.YtpecmmicndcgjaaGreatDoorLive
import Derived.Test.YtpecmmicndcgjaaGreatDoorPure4
namespace Go.Proofs.YtpecmmicndcgjaaGreatDoor.Tok
open Go.RowKit Go.Proofs.YtpecmmicndcgjaaGreatDoor.PA Go.Proofs.YtpecmmicndcgjaaGreatDoorW.PrintWords Go.Proofs.YtpecmmicndcgjaaGreatDoorW.PrintLast Go.Proofs.YtpecmmicndcgjaaGreatDoor.Sp
set_option linter.unusedVariables false
set_option linter.unusedSimpArgs false
set_option maxRecDepth 100000

theorem spell_pair (k o l c : Int) (t : ByteArray) (v : Nat) (h : Bool) (w : World) (hv : v < 4294967296) (hG : Glob w) :
    Calls Tryz.prog 14 #[tokV k o l c t v h] w fun e w' => e = .returned (.tuple #[.string (spellR (spellT k t.data.toList v h)).1, .int .i64 (spellR (spellT k t.data.toList v h)).2]) ∧ Below w.heap.size w w' :=
  (spell_calls k o l c t v h w hv hG).mono fun e w' hp => by
    obtain ⟨hB, he⟩ := hp
    refine ⟨?_, hB⟩
    rw [he]
    cases spellT k t.data.toList v h <;> rfl
theorem law_spells (k o l c : Int) (t : ByteArray) (v : Nat) (h : Bool) (w : World) (ht : t.size ≤ 1048576) (hv : v < 4294967296) (hG : Glob w) :
    Calls Tryz.prog 4 #[tokV k o l c t v h] w fun e w' => e = .returned (.bool true) ∧ Below w.heap.size w w' := by
  have HG := Lib.hid hG
  have HR := Lib.hid (rspell_spec k o l c t v h (t.size + 60) (by omega) hv (Nat.le_refl _))
  have HC := Lib.hid (fun W hW => spell_pair k o l c t v h W hv hW)
  clear hG hv ht
  generalize spellR (spellT k t.data.toList v h) = R at HR HC
  obtain ⟨r1, r2⟩ := R
  generalize (v : Int) = vi at *
  unfold tokV tokCells at *
  go_enter Tryz.func4, Tryz.ntmps4
  have B0 := Lib.hid (alloc_below w (.cells #[.int .i64 k, .int .i64 o, .int .i64 l, .int .i64 c, .string t, .int .u32 vi, .bool h] 34))
  go_wp2_with (first
    | (go_at_call 14; refine (HC.out _ (HG.out.below B0.out)).mono ?_; rintro e w2 ⟨rfl, hB2⟩; have y0 := cell_new (k := 0) hB2 rfl; have y1 := cell_new (k := 1) hB2 rfl; have y2 := cell_new (k := 2) hB2 rfl; have y3 := cell_new (k := 3) hB2 rfl; have y4 := cell_new (k := 4) hB2 rfl; have y5 := cell_new (k := 5) hB2 rfl; have y6 := cell_new (k := 6) hB2 rfl; have B2 := Lib.hid (B0.out.trans (hB2.mono B0.out.size)); clear hB2)
    | (go_at_call 15; refine (tappetref02_Spell.calls _ _ _ _ _ _ _ _ _ _ _ HR.out).mono ?_; rintro e w3 ⟨rfl, hB3⟩; have B3 := Lib.hid (B2.out.trans (hB3.mono B2.out.size)); clear hB3)
    | (go_at_call 16; refine (num_calls _ _).mono ?_; rintro e w4 ⟨rfl, hB4⟩; have B4 := Lib.hid (B3.out.trans (hB4.mono B3.out.size)); clear hB4)
    | (go_at_call 13; refine (alive_calls _ (HG.out.below B4.out)).mono ?_; rintro e w5 ⟨rfl, hB5⟩; have B5 := Lib.hid (B4.out.trans (hB5.mono B4.out.size)); clear hB5))
  go_ret
  exact ⟨rfl, B5.out⟩
end Go.Proofs.YtpecmmicndcgjaaGreatDoor.Tok

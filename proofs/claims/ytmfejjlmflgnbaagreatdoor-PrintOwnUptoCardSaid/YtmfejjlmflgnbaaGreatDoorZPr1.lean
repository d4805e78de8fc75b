/- CONTRACTS: package printer's is, name, text, note, valued. -/
import Derived.Test.YtmfejjlmflgnbaaGreatDoorZMark
import Derived.Test.YtmfejjlmflgnbaaGreatDoorZTree
import Derived.BigQuiet
import Derived.Deep.RegionHeld3
namespace Go.Proofs.YtmfejjlmflgnbaaGreatDoor.Tok
open Go.RowKit Go.Proofs.YtmfejjlmflgnbaaGreatDoor.PA Go.Proofs.YtmfejjlmflgnbaaGreatDoorW.PrintWords Go.Proofs.YtmfejjlmflgnbaaGreatDoorW.PrintLast Go.Proofs.YtmfejjlmflgnbaaGreatDoor.Sp Go.Proofs.YtmfejjlmflgnbaaGreatDoor.Tr
set_option linter.unusedVariables false
set_option linter.unusedSimpArgs false
set_option maxRecDepth 100000

theorem spell_is (k o l c : Int) (t : ByteArray) (v : Nat) (h : Bool) (w : World) (hv : v < 4294967296) (hG : Glob w) (r : Bool) (hr : (spellT k t.data.toList v h).isSome = r) :
    Calls Tryz.prog 97 #[tokV k o l c t v h] w fun e w' => (∃ s en, e = .returned (.tuple #[.string s, .int .i64 en]) ∧ ((en : Int) == 0) = r) ∧ Below w.heap.size w w' :=
  (spell_calls k o l c t v h w hv hG).mono fun e w' ⟨hB, he⟩ => by
    refine ⟨?_, hB⟩
    rw [he]
    cases hs : spellT k t.data.toList v h with
    | none => rw [hs] at hr; exact ⟨_, _, rfl, by rw [← hr]; rfl⟩
    | some s => rw [hs] at hr; exact ⟨_, _, rfl, by rw [← hr]; rfl⟩
theorem pis_calls (k o l c : Int) (t : ByteArray) (v : Nat) (h : Bool) (w : World) (hv : v < 4294967296) (hG : Glob w) (r : Bool) (hr : (spellT k t.data.toList v h).isSome = r) :
    Calls Tryz.prog 119 #[tokV k o l c t v h] w fun e w' => e = .returned (.bool r) ∧ Below w.heap.size w w' := by
  have HG := Lib.hid hG
  have HC := Lib.hid (fun W hW => spell_is k o l c t v h W hv hW r hr)
  clear hG hv hr
  generalize (v : Int) = vi at *
  unfold tokV tokCells at *
  have B0 := Lib.hid (alloc_below w (.cells #[.int .i64 k, .int .i64 o, .int .i64 l, .int .i64 c, .string t, .int .u32 vi, .bool h] 104))
  go_enter Tryz.func119, Tryz.ntmps119
  go_wp2_with (first
    | (go_at_call 97; refine (HC.out _ (HG.out.below B0.out)).mono ?_; rintro e w2 ⟨⟨s, en, rfl, hen⟩, hB2⟩; have B2 := Lib.hid (B0.out.trans (hB2.mono B0.out.size)); clear hB2))
  go_ret
  exact ⟨by first | rw [hen] | rfl, B2.out⟩
theorem spell_name (t : Bs) : (spellT 1 t 0 false).isSome = nameB t := by
  unfold spellT
  cases h : nameB t <;> simp [h]
theorem spell_text (t : Bs) : (spellT 3 t 0 false).isSome = stringB t := by
  unfold spellT
  cases h : stringB t <;> simp [h]
theorem pname_calls (t : ByteArray) (w : World) (hG : Glob w) (r : Bool) (hr : nameB (bs t) = r) :
    Calls Tryz.prog 84 #[.string t] w fun e w' => e = .returned (.bool r) ∧ Below w.heap.size w w' := by
  have HC := Lib.hid (pis_calls 1 0 0 0 t 0 false w (by omega) hG r ((spell_name t.data.toList).trans hr))
  clear hG hr
  unfold tokV tokCells at HC
  go_enter Tryz.func84, Tryz.ntmps84
  go_wp2_with (first
    | (go_at_call 119; refine HC.out.mono ?_; rintro e w2 ⟨rfl, hB2⟩; have B2 := Lib.hid hB2; clear hB2))
  go_ret
  exact ⟨rfl, B2.out⟩
theorem ptext_calls (t : ByteArray) (w : World) (hG : Glob w) (r : Bool) (hr : stringB (bs t) = r) :
    Calls Tryz.prog 83 #[.string t] w fun e w' => e = .returned (.bool r) ∧ Below w.heap.size w w' := by
  have HC := Lib.hid (pis_calls 3 0 0 0 t 0 false w (by omega) hG r ((spell_text t.data.toList).trans hr))
  clear hG hr
  unfold tokV tokCells at HC
  go_enter Tryz.func83, Tryz.ntmps83
  go_wp2_with (first
    | (go_at_call 119; refine HC.out.mono ?_; rintro e w2 ⟨rfl, hB2⟩; have B2 := Lib.hid hB2; clear hB2))
  go_ret
  exact ⟨rfl, B2.out⟩
theorem str_empty (t : ByteArray) : t.toList.isEmpty = (bs t).isEmpty := by
  rw [ByteArray.toList_eq]; rfl
theorem pnote_calls (noted : Bool) (t : ByteArray) (w : World) (hG : Glob w) (r : Bool) (hr : noteB noted t = r) :
    Calls Tryz.prog 88 #[.bool noted, .string t] w fun e w' => e = .returned (.bool r) ∧ Below w.heap.size w w' := by
  have HG := Lib.hid hG
  clear hG
  cases noted with
  | true =>
    have HC := Lib.hid (ptext_calls t w HG.out r hr)
    clear hr
    cases r
    all_goals
      go_enter Tryz.func88, Tryz.ntmps88
      go_wp2_with (first
        | (go_at_call 83; refine HC.out.mono ?_; rintro e w2 ⟨rfl, hB2⟩; have B2 := Lib.hid hB2; clear hB2))
      go_ret
      exact ⟨rfl, B2.out⟩
  | false =>
    have he : t.toList.isEmpty = r := by rw [str_empty]; exact hr
    clear hr
    go_enter Tryz.func88, Tryz.ntmps88
    go_wp2_with fail
    go_ret
    exact ⟨by first | rw [he] | rfl | simp, Below.refl _ _⟩
end Go.Proofs.YtmfejjlmflgnbaaGreatDoor.Tok

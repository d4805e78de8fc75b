/- PLAIN LAWS: the reference's printed Spell, in the plain spec's words. -/
import Derived.Test.YtpecmmicndcgjaaGreatDoorPure3
import Derived.Test.YtpecmmicndcgjaaGreatDoorPAy9
namespace Go.Proofs.YtpecmmicndcgjaaGreatDoor.Tok
open Go.RowKit Go.Proofs.YtpecmmicndcgjaaGreatDoor.PA Go.Proofs.YtpecmmicndcgjaaGreatDoorW.PrintWords Go.Proofs.YtpecmmicndcgjaaGreatDoorW.PrintLast Go.Proofs.YtpecmmicndcgjaaGreatDoor.Sp
set_option linter.unusedVariables false
set_option linter.unusedSimpArgs false

def spellR (o : Option Bs) : ByteArray × Int := match o with | some s => (⟨s.toArray⟩, 0) | none => (⟨#[]⟩, 20)
theorem tl (t : ByteArray) : t.toList = t.data.toList := ByteArray.toList_eq t
theorem rspell_j5 (N : Nat) (x : Bool) (k o l c : Int) (t : ByteArray) (v : Int) (h : Bool) : tappetref02_Spell.j5 (N + 1) x false k o l c t v h = some (spellR (if 4 ≤ k ∧ k ≤ 8 ∧ x = true ∧ t.data.toList = [] then some [markC k.toNat] else none)) := by
  simp only [tappetref02_Spell.j5, tl, Bool.false_eq_true, if_false]
  by_cases h1 : 4 ≤ k
  · by_cases h2 : k ≤ 8
    · by_cases h3 : x = true
      · by_cases h4 : t.data.toList = []
        · have hk : k = 4 ∨ k = 5 ∨ k = 6 ∨ k = 7 ∨ k = 8 := by omega
          have e : (if 4 ≤ k ∧ k ≤ 8 ∧ x = true ∧ t.data.toList = [] then some [markC k.toNat] else none) = some [markC k.toNat] := if_pos ⟨h1, h2, h3, h4⟩
          rw [e, if_pos h1, if_pos h2, if_pos h3, if_pos h4]
          clear e
          rcases hk with rfl | rfl | rfl | rfl | rfl <;> decide +kernel
        · simp [h1, h2, h3, h4, spellR]
      · simp [h1, h2, h3, spellR]
    · simp [h1, h2, spellR]
  · simp [h1, spellR]
theorem rspell_spec (k o l c : Int) (t : ByteArray) (v : Nat) (h : Bool) (N : Nat) (ht : t.size ≤ 100000000) (hv : v < 4294967296) (hN : t.size + 60 ≤ N) :
    tappetref02_Spell.f (N + 6) k o l c t (v : Int) h = some (spellR (spellT k t.data.toList v h)) := by
  have h1 := fuel_le (fun k => tappetref02_Name.f k t) (tappetref02_Name.mono t) (rname_spec t) (by omega : t.size + 1 ≤ N + 5)
  have h2 := rhex_spec v (N + 3) hv (by omega)
  have h3 := rdec_spec v (N + 2) hv (by omega)
  have h4 := fuel_le (fun k => tappetref02_String.f k t) (tappetref02_String.mono t) (rstring_spec t (by omega)) (by omega : t.size + 1 ≤ N + 2)
  have h5 := fuel_le (fun k => tappetref02_quote.f k t) (tappetref02_quote.mono t) (rquote_spec t ht) (by omega : t.size + 1 ≤ N + 1)
  replace h1 : tappetref02_Name.f (N + 5) t = some (nameB t.data.toList) := h1
  replace h4 : tappetref02_String.f (N + 2) t = some (stringB t.data.toList) := h4
  replace h5 : tappetref02_quote.f (N + 1) t = some ⟨(quoteT t.data.toList).toArray⟩ := h5
  have hv0 : ((v : Int) = 0) ↔ v = 0 := by omega
  simp only [tappetref02_Spell.f, tappetref02_Spell.j0, tappetref02_Spell.j1, tappetref02_Spell.j2, tappetref02_Spell.j3, tappetref02_Spell.j4, h1, h2, h3, h4, h5, Option.bind_some, tl, hv0]
  unfold spellT
  by_cases k1 : k = 1
  · subst k1
    by_cases v0 : v = 0 <;> cases h <;> cases hn : nameB t.data.toList <;> simp [v0, rspell_j5, spellR]
  by_cases k2 : k = 2
  · subst k2
    by_cases t0 : t.data.toList = [] <;> by_cases v0 : v = 0 <;> cases h <;> simp [v0, t0, rspell_j5, spellR]
    all_goals (intro e; exact t0 (by rw [e]))
  by_cases k3 : k = 3
  · subst k3
    by_cases v0 : v = 0 <;> cases h <;> cases hn : stringB t.data.toList <;> simp [v0, rspell_j5, spellR]
  by_cases k0 : k = 0
  · subst k0
    by_cases t0 : t.data.toList = [] <;> by_cases v0 : v = 0 <;> cases h <;> simp [v0, t0, rspell_j5, spellR, tappetref02_Spell.j5]
    all_goals (intro e; exact t0 (by rw [e]))
  by_cases t0 : t.data.toList = [] <;> by_cases v0 : v = 0 <;> cases h <;> simp [k0, k1, k2, k3, v0, t0, rspell_j5, spellR]
end Go.Proofs.YtpecmmicndcgjaaGreatDoor.Tok

/- PLAIN LAWS: the reference's printed Join, in the plain spec's words. -/
import Derived.Test.YtpecmmicndcgjaaGreatDoorPure4
import Derived.Test.YtpecmmicndcgjaaGreatDoorPAy10
import Derived.Test.YtpecmmicndcgjaaGreatDoorJoin
namespace Go.Proofs.YtpecmmicndcgjaaGreatDoor.Tok
open Go.RowKit Go.Proofs.YtpecmmicndcgjaaGreatDoor.PA Go.Proofs.YtpecmmicndcgjaaGreatDoorW.PrintWords Go.Proofs.YtpecmmicndcgjaaGreatDoorW.PrintLast Go.Proofs.YtpecmmicndcgjaaGreatDoor.Sp
set_option linter.unusedVariables false
set_option linter.unusedSimpArgs false

/-- What a token's fields may hold, and how long its text may be. -/
structure TokOk (M : Nat) (x : S34) : Prop where
  lo : 0 ≤ x.f3
  hi : x.f3 < 4294967296
  len : x.f2.size ≤ M
theorem decF_len : ∀ (f v : Nat) (acc : Bs), (decF f v acc).length ≤ acc.length + f
  | 0, _, acc => Nat.le_refl _
  | f + 1, v, acc => by
    unfold decF
    split
    · simp
    · have := decF_len f (v / 10) (UInt8.ofNat (48 + v % 10) :: acc)
      rw [List.length_cons] at this
      omega
theorem spell_len (k : Int) (t : Bs) (v : Nat) (h : Bool) (s : Bs) (e : spellT k t v h = some s) : s.length ≤ 3 * t.length + 50 := by
  unfold spellT at e
  split at e
  · split at e <;> simp at e; subst e; omega
  split at e
  · split at e
    · split at e
      · simp at e; subst e
        have := hexF_len v
        simp [hexL]; omega
      · simp at e; subst e
        have := decF_len 40 v []
        simp [decT] at *; omega
    · simp at e
  split at e
  · split at e <;> simp at e
    subst e
    have h1 := escT_len t
    have h2 := cnt_le t
    simp [quoteT]; omega
  split at e
  · split at e <;> simp at e; subst e; simp
  split at e
  · split at e <;> simp at e; subst e; simp
  simp at e
def joinR (o : Option (List Bs)) (n : Nat) (acc : Bs) : ByteArray × Int := match o with
  | some ss => (⟨(acc ++ (if n = 0 then Lib.join ss [32] else Lib.joinTail [32] ss)).toArray⟩, 0)
  | none => (⟨#[]⟩, 20)
def room (l : List S34) : Nat := (l.map fun x => 3 * x.f2.size + 60).sum
theorem rjoin_l0 (M : Nat) (hM : M ≤ 100000000) (l : List S34) (hl : l.length < 4611686018427387904) (hwf : ∀ x ∈ l, TokOk M x) : ∀ (d n : Nat) (acc : Bs), n + d = l.length → (n = 0 → acc = []) → acc.length + room (l.drop n) ≤ 4611686018427387904 →
    tappetref02_Join.l0 (2 * d + 1 + (M + 70)) l ⟨acc.toArray⟩ (n : Int) = some (joinR (joinF (l.drop n)) n acc)
  | 0, n, acc, h, h0, hr => by
    have e : l.drop n = [] := List.drop_eq_nil_of_le (by omega)
    rw [e, show 2 * 0 + 1 + (M + 70) = (M + 70) + 1 by omega]
    simp only [tappetref02_Join.l0]
    rw [if_neg (by omega)]
    simp [joinR, joinF, Lib.join_nil, Lib.joinTail]
  | d + 1, n, acc, h, h0, hr => by
    have hlt : n < l.length := by omega
    have hd := join_drop l n hlt
    have hx := hwf _ (rd_mem l n hlt)
    rw [hd]
    rw [hd] at hr
    rw [show 2 * (d + 1) + 1 + (M + 70) = (2 * d + 1 + (M + 70) + 1) + 1 by omega]
    simp only [tappetref02_Join.l0]
    rw [if_pos (by omega), if_pos (by omega)]
    have ih := rjoin_l0 M hM l hl hwf d (n + 1)
    generalize rd_T34 l (n : Int) = x at hx hr
    obtain ⟨v, hv⟩ : ∃ v : Nat, x.f3 = (v : Int) := ⟨x.f3.toNat, by have := hx.lo; omega⟩
    have hsp := rspell_spec x.f0 x.f1.f0 x.f1.f1 x.f1.f2 x.f2 v x.f4 (2 * d + 1 + (M + 70) + 1 - 6) (by have := hx.len; omega) (by have := hx.hi; omega) (by have := hx.len; omega)
    rw [show 2 * d + 1 + (M + 70) + 1 - 6 + 6 = 2 * d + 1 + (M + 70) + 1 by omega] at hsp
    rw [hv, hsp, Option.bind_some]
    have htn : x.f3.toNat = v := by omega
    simp only [joinF, htn]
    cases hs : spellT x.f0 x.f2.data.toList v x.f4 with
    | none => simp [spellR, joinR, tappetref02_Join.j1]
    | some s =>
      have hsl := spell_len _ _ _ _ _ hs
      have hll : x.f2.data.toList.length = x.f2.size := by rw [Array.length_toList]; rfl
      rw [hll] at hsl
      have hroom : room (x :: l.drop (n + 1)) = 3 * x.f2.size + 60 + room (l.drop (n + 1)) := by simp [room]
      rw [hroom] at hr
      have hnil : (l.drop (n + 1) ≠ []) ↔ n + 1 < l.length := by
        rw [Ne, List.drop_eq_nil_iff]
        omega
      simp only [spellR, if_true]
      by_cases hk : x.f0 = 0 ∧ n + 1 < l.length
      · rw [if_pos hk.1, if_pos ⟨hk.1, hnil.2 hk.2⟩, wrap_nat n (by omega)]
        have : decide (((n + 1 : Nat) : Int) < (l.length : Int)) = true := decide_eq_true (by omega)
        rw [this]
        simp [tappetref02_Join.j1, joinR]
      · have hk' : ¬ (x.f0 = 0 ∧ l.drop (n + 1) ≠ []) := fun hh => hk ⟨hh.1, hnil.1 hh.2⟩
        rw [if_neg hk']
        have hb : (if x.f0 = 0 then tappetref02_Join.j1 (2 * d + 1 + (M + 70) + 1) l ⟨acc.toArray⟩ (n : Int) ⟨s.toArray⟩ (decide (wrap64 ((n : Int) + 1) < (l.length : Int))) else tappetref02_Join.j1 (2 * d + 1 + (M + 70) + 1) l ⟨acc.toArray⟩ (n : Int) ⟨s.toArray⟩ false) = tappetref02_Join.j1 (2 * d + 1 + (M + 70) + 1) l ⟨acc.toArray⟩ (n : Int) ⟨s.toArray⟩ false := by
          by_cases h1 : x.f0 = 0
          · have : decide (wrap64 ((n : Int) + 1) < (l.length : Int)) = false := by
              rw [wrap_nat n (by omega)]
              exact decide_eq_false (by intro h2; exact hk ⟨h1, by omega⟩)
            rw [if_pos h1, this]
          · rw [if_neg h1]
        rw [hb]
        have s1 : (⟨#[32]⟩ : ByteArray) = ⟨[32].toArray⟩ := rfl
        simp only [tappetref02_Join.j1, Bool.false_eq_true, if_false, s1, bapp, bsize, wrap_nat n (by omega)]
        by_cases hn : n = 0
        · subst hn
          obtain rfl := h0 rfl
          rw [if_neg (by omega), if_pos (by simp; omega), ih ([] ++ s) (by omega) (by omega) (by simp at hr ⊢; omega)]
          cases joinF (l.drop (0 + 1)) with
          | none => rfl
          | some ss => simp [joinR, Lib.join_cons]
        · rw [if_pos (by omega), if_pos (by omega), if_pos (by simp; omega), ih (acc ++ [32] ++ s) (by omega) (by omega) (by simp; omega)]
          cases joinF (l.drop (n + 1)) with
          | none => rfl
          | some ss => simp [joinR, hn, Lib.joinTail]
theorem rjoin_spec (M : Nat) (hM : M ≤ 100000000) (l : List S34) (hl : l.length < 4611686018427387904) (hwf : ∀ x ∈ l, TokOk M x) (hr : room l ≤ 4611686018427387904) :
    tappetref02_Join.f (2 * l.length + 1 + (M + 70)) l = some (joinR (joinF l) 0 []) := by
  have := rjoin_l0 M hM l hl hwf l.length 0 [] (by omega) (fun _ => rfl) (by simpa using hr)
  rw [List.drop_zero] at this
  exact this
end Go.Proofs.YtpecmmicndcgjaaGreatDoor.Tok

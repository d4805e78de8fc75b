/- PLAIN LAWS: the reference's printed one, in the plain spec's words. -/
import Derived.Test.YtpecmmicndcgjaaGreatDoorPure6
namespace Go.Proofs.YtpecmmicndcgjaaGreatDoor.Tok
open Go.RowKit Go.Proofs.YtpecmmicndcgjaaGreatDoor.PA Go.Proofs.YtpecmmicndcgjaaGreatDoorW.PrintWords Go.Proofs.YtpecmmicndcgjaaGreatDoorW.PrintLast Go.Proofs.YtpecmmicndcgjaaGreatDoor.Sp
set_option linter.unusedVariables false
set_option linter.unusedSimpArgs false

def oneR (i : Nat) : Except (Nat × Nat) (Tok × Nat) → Int × Int × Int × Int × ByteArray × Int × Bool × Int × Int × Int
  | .ok (x, k) => ((x.kind : Int), 0, 0, 0, ⟨x.text.toArray⟩, (x.val : Int), x.hex, ((i + k : Nat) : Int), 0, 0)
  | .error (c, n) => (0, 0, 0, 0, ⟨#[]⟩, 0, false, 0, (c : Int), ((i + n : Nat) : Int))
theorem rmark_spec (c : UInt8) : tappetref02_mark.f (c.toNat : Int) = some ((markK c : Nat) : Int) := by
  have h : ∀ n : Fin 256, tappetref02_mark.f ((UInt8.ofNat n.1).toNat : Int) = some ((markK (UInt8.ofNat n.1) : Nat) : Int) := by decide +kernel
  have := h ⟨c.toNat, c.toNat_lt⟩
  simpa using this
theorem ext_take (t : ByteArray) (i k : Nat) (h : i + k ≤ t.size) : t.extract i (i + k) = ⟨((t.data.toList.drop i).take k).toArray⟩ := by
  apply ByteArray.ext
  apply Array.toList_inj.1
  rw [Lib.extract_data]
  simp
theorem qstr_c {acc : Bs} {n : Nat} {l : Bs} {c p : Nat} (h : qstr acc n l = .error (c, p)) : c ≠ 0 := by
  have := qstr_err l.length l (Nat.le_refl _) acc n c p h
  omega
theorem rone_spec (t : ByteArray) (ht : t.size ≤ 1048576) (i : Nat) (hi : i < t.size) : tappetref02_one.f (3 * t.size + 8) t (i : Int) = some (oneR i (tok1 (t.data.toList.drop i))) := by
  have hd := at_drop t i hi
  have hw : tappetref02_word.f (3 * t.size + 8) t (i : Int) = some ((i + wordLen (t.data.toList.drop i) : Nat) : Int) :=
    fuel_le (fun k => tappetref02_word.l0 k t (i : Int)) (fun k => tappetref02_word.mono_l k _ _) (rword_spec t (by omega) (t.size - i) i (by omega)) (by omega)
  have hwl := wlen_le (t.data.toList.drop i)
  rw [List.length_drop, t_len] at hwl
  have hq : tappetref02_Quoted.f (3 * t.size + 8) t (i : Int) = some (quotR i (qstr [] 1 (t.data.toList.drop (i + 1)))) :=
    fuel_le (fun k => tappetref02_Quoted.f k t (i : Int)) (tappetref02_Quoted.mono _ _) (rquoted_spec t ht i hi) (by omega)
  unfold tappetref02_one.f
  rw [if_pos (by omega), if_pos (by omega), bt_nat t i hi, rfirst_spec, Option.bind_some]
  cases hl : letterB t[i] with
  | true =>
    rw [if_pos rfl, hw, Option.bind_some]
    have e1 : wrap64 (((i + wordLen (t.data.toList.drop i) : Nat) : Int) - (i : Int)) = (wordLen (t.data.toList.drop i) : Int) := by unfold wrap64; omega
    have ht1 := tok1_name (r := t.data.toList.drop (i + 1)) hl
    rw [← hd] at ht1
    rw [e1, ht1]
    by_cases h63 : wordLen (t.data.toList.drop i) > 63
    · rw [if_pos (by omega), if_pos h63]
      simp [oneR]
    · have e2 : (((i : Nat) : Int)).toNat = i := by omega
      have e3 : (((i + wordLen (t.data.toList.drop i) : Nat) : Int)).toNat = i + wordLen (t.data.toList.drop i) := by omega
      rw [if_neg (by omega), if_neg h63, if_pos (by omega), if_pos (by omega), e2, e3, ext_take t i _ (by omega)]
      rfl
  | false =>
    rw [if_neg (by decide), rdigit_spec, Option.bind_some]
    cases hdg : digitB t[i] with
    | true =>
      rw [if_pos rfl, hw, Option.bind_some, if_pos (by omega), if_pos (by omega)]
      have ht1 := tok1_num (r := t.data.toList.drop (i + 1)) hdg
      rw [← hd] at ht1
      have e2 : (((i : Nat) : Int)).toNat = i := by omega
      have e3 : (((i + wordLen (t.data.toList.drop i) : Nat) : Int)).toNat = i + wordLen (t.data.toList.drop i) := by omega
      rw [e2, e3, ext_take t i _ (by omega), ht1]
      have hp := wlen_pos (c := t[i]) (r := t.data.toList.drop (i + 1)) (by simp [partB, hdg])
      rw [← hd] at hp
      have hsz : (⟨((t.data.toList.drop i).take (wordLen (t.data.toList.drop i))).toArray⟩ : ByteArray).size = wordLen (t.data.toList.drop i) := by
        rw [bsize, List.length_take, List.length_drop, t_len]; omega
      have hn := rnumber_spec ⟨((t.data.toList.drop i).take (wordLen (t.data.toList.drop i))).toArray⟩ (by omega) (by omega)
      have hn2 : tappetref02_Number.f (3 * t.size + 8) ⟨((t.data.toList.drop i).take (wordLen (t.data.toList.drop i))).toArray⟩ = some (numF (numL ((t.data.toList.drop i).take (wordLen (t.data.toList.drop i))))) :=
        fuel_le (fun k => tappetref02_Number.f k _) (tappetref02_Number.mono _) hn (by omega)
      rw [hn2, Option.bind_some]
      cases numL ((t.data.toList.drop i).take (wordLen (t.data.toList.drop i))) with
      | none => simp [numF, oneR]
      | some vh => obtain ⟨v, h⟩ := vh; rfl
    | false =>
      rw [if_neg (by decide)]
      by_cases c34 : t[i] = 34
      · rw [if_pos (by rw [c34]; rfl), hq, Option.bind_some]
        have ht1 := tok1_str (t.data.toList.drop (i + 1))
        rw [hd, c34, ht1]
        cases hqs : qstr [] 1 (t.data.toList.drop (i + 1)) with
        | ok sn => obtain ⟨s, n⟩ := sn; rfl
        | error cn =>
          obtain ⟨c, n⟩ := cn
          have := qstr_c hqs
          have hc : ¬ (quotR i (.error (c, n))).2.2.1 = 0 := by simp only [quotR]; omega
          rw [if_neg hc]
          rfl
      · rw [if_neg (fun h => c34 (UInt8.toNat_inj.1 (by simp; omega))), rmark_spec, Option.bind_some, hd]
        by_cases hm : markK t[i] = 0
        · rw [if_pos (by omega)]
          simp [tok1, hl, hdg, c34, hm, oneR]
        · rw [if_neg (by omega), tok1_mark _ hm, Option.bind_some, wrap_nat i (by omega)]
          rfl
end Go.Proofs.YtpecmmicndcgjaaGreatDoor.Tok

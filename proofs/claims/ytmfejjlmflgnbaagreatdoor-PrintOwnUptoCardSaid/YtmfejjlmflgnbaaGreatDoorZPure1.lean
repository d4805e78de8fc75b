/- PLAIN LAWS: what package token's printed letter, digit, word, name answer, in the plain spec's words. -/
import Derived.Test.YtmfejjlmflgnbaaGreatDoorZPAy1
import Derived.Test.YtmfejjlmflgnbaaGreatDoorZBase
import Derived.Lib.Strings
namespace Go.Proofs.YtmfejjlmflgnbaaGreatDoor.Tok
open Go.RowKit Go.Proofs.YtmfejjlmflgnbaaGreatDoor.PA Go.Proofs.YtmfejjlmflgnbaaGreatDoorW.PrintWords Go.Proofs.YtmfejjlmflgnbaaGreatDoorW.PrintLast Go.Proofs.YtmfejjlmflgnbaaGreatDoor.Sp
set_option linter.unusedVariables false
set_option linter.unusedSimpArgs false

theorem fuel_up {α : Type} (F : Nat → Option α) (h : ∀ k, LeO (F k) (F (k + 1))) (k d : Nat) (r : α) (e : F k = some r) : F (k + d) = some r := by
  induction d with
  | zero => exact e
  | succ d ih => exact h (k + d) r ih
theorem fuel_le {α : Type} (F : Nat → Option α) (h : ∀ k, LeO (F k) (F (k + 1))) {k k' : Nat} {r : α} (e : F k = some r) (hk : k ≤ k') : F k' = some r := by
  have := fuel_up F h k (k' - k) r e
  rwa [Nat.add_sub_cancel' hk] at this
theorem u8_lt (c : UInt8) : c.toNat < 256 := c.toNat_lt
theorem u8_eq (c : UInt8) (n : Nat) (h : n < 256) : c = UInt8.ofNat n ↔ c.toNat = n := by
  constructor
  · rintro rfl; simp; omega
  · intro e
    apply UInt8.toNat_inj.1
    rw [e]; simp; omega
theorem letter_spec (c : UInt8) : token_letter.f (c.toNat : Int) = some (letterB c) := by
  have h95 : (c == 95) = decide (c.toNat = 95) := by
    rw [Bool.eq_iff_iff, beq_iff_eq, decide_eq_true_iff]
    exact u8_eq c 95 (by omega)
  have h95' : (((c.toNat : Nat) : Int) == 95) = decide (c.toNat = 95) := by
    rw [Bool.eq_iff_iff, beq_iff_eq, decide_eq_true_iff]
    omega
  unfold token_letter.f letterB
  rw [h95, h95']
  repeat' split
  all_goals (congr 1; rw [eq_comm]; simp; try omega)
theorem digit_spec (c : UInt8) : token_digit.f (c.toNat : Int) = some (digitB c) := by
  unfold token_digit.f digitB
  split
  · rename_i h
    have h1 : decide (48 ≤ c.toNat) = true := decide_eq_true (by omega)
    rw [h1, Bool.true_and]
    congr 1
    rw [Bool.eq_iff_iff, decide_eq_true_iff, decide_eq_true_iff]
    omega
  · rename_i h
    have h1 : decide (48 ≤ c.toNat) = false := decide_eq_false (by omega)
    rw [h1, Bool.false_and]
theorem bt_nat (t : ByteArray) (i : Nat) (h : i < t.size) : bt t (i : Int) = ((t[i]).toNat : Int) := by
  simp [bt, h]
theorem at_drop (t : ByteArray) (m : Nat) (h : m < t.size) : t.data.toList.drop m = t[m] :: t.data.toList.drop (m + 1) := by
  have hlen : t.data.toList.length = t.size := by rw [Array.length_toList]; rfl
  rw [List.drop_eq_getElem_cons (by omega)]
  rfl
theorem wrap_nat (n : Nat) (h : n < 9223372036854775807) : wrap64 ((n : Int) + 1) = ((n + 1 : Nat) : Int) := by
  unfold wrap64
  omega
theorem wordLen_cons (c : UInt8) (l : Bs) : wordLen (c :: l) = if partB c then wordLen l + 1 else 0 := by
  unfold wordLen
  rw [List.takeWhile_cons]
  split <;> simp
theorem word_spec (t : ByteArray) (ht : t.size < 9223372036854775807) : ∀ (d i : Nat), i + d = t.size → token_word.l0 (d + 1) t (i : Int) = some ((i + wordLen (t.data.toList.drop i) : Nat) : Int)
  | 0, i, h => by
    have e : t.data.toList.drop i = [] := List.drop_eq_nil_of_le (by rw [Array.length_toList]; show t.size ≤ _; omega)
    rw [e, token_word.l0, if_neg (by omega)]
    rfl
  | d + 1, i, h => by
    have hi : i < t.size := by omega
    rw [at_drop t i hi, wordLen_cons, token_word.l0, if_pos (by omega), if_pos (by omega), bt_nat t i hi, letter_spec, wrap_nat i (by omega)]
    have ih := word_spec t ht d (i + 1) (by omega)
    simp only [Option.bind_some, digit_spec]
    unfold partB
    cases letterB t[i] with
    | true => simp only [if_true, Bool.true_or, ih]; congr 2; omega
    | false =>
      cases digitB t[i] with
      | true => simp only [Bool.false_or, if_true, Bool.false_eq_true, if_false, ih]; congr 2; omega
      | false => simp
theorem wordLen_all (l : Bs) : (wordLen l = l.length) ↔ l.all partB = true := by
  induction l with
  | nil => simp [wordLen]
  | cons c r ih =>
    rw [wordLen_cons, List.all_cons]
    cases partB c with
    | true => simp [ih]
    | false => simp
theorem name_spec (t : ByteArray) : token_name.f (t.size + 1) t = some (nameB t.data.toList) := by
  have hlen : t.data.toList.length = t.size := by rw [Array.length_toList]; rfl
  unfold token_name.f nameB
  rw [hlen]
  by_cases h0 : t.size = 0
  · have e : t.toList = [] := by
      rw [ByteArray.toList_eq]
      exact List.eq_nil_of_length_eq_zero (by rw [hlen]; exact h0)
    rw [if_pos e, h0]
    rfl
  · have e : ¬ t.toList = [] := fun e => h0 (by rw [← hlen, ← ByteArray.toList_eq, e]; rfl)
    rw [if_neg e]
    have hpos : 0 < t.size := by omega
    by_cases h63 : t.size ≤ 63
    · rw [if_pos (by omega), if_pos (by omega)]
      have hb := bt_nat t 0 hpos
      simp only [Int.ofNat_zero] at hb
      rw [show bt t 0 = _ from hb, letter_spec]
      have hd := at_drop t 0 hpos
      rw [List.drop_zero] at hd
      have hh : t.data.toList.headD 0 = t[0] := by rw [hd]; rfl
      rw [hh]
      simp only [Option.bind_some]
      cases letterB t[0] with
      | false => simp
      | true =>
        have hw := word_spec t (by omega) t.size 0 (by omega)
        rw [List.drop_zero] at hw
        have ha := wordLen_all t.data.toList
        unfold token_word.f
        rw [show token_word.l0 (t.size + 1) t 0 = _ from hw]
        simp only [if_true, Option.bind_some]
        congr 1
        rw [hlen] at ha
        rw [Bool.eq_iff_iff, beq_iff_eq]
        simp only [Bool.and_eq_true, decide_eq_true_eq, Bool.true_eq_false, and_true]
        constructor
        · intro h1
          refine ⟨⟨?_, ?_⟩, ?_⟩ <;> first | omega | trivial | (refine ha.1 ?_; omega)
        · rintro ⟨_, h1⟩
          have := ha.2 h1
          omega
    · rw [if_neg (by omega)]
      simp; omega
theorem bcons (c : UInt8) (acc : Bs) : (⟨[c].toArray⟩ : ByteArray) ++ ⟨acc.toArray⟩ = ⟨(c :: acc).toArray⟩ := by
  apply ByteArray.ext
  simp
theorem bsize (l : Bs) : (⟨l.toArray⟩ : ByteArray).size = l.length := by simp [ByteArray.size]
theorem ext_one (t : ByteArray) (i : Nat) (h : i < t.size) : t.extract i (i + 1) = ⟨[t[i]].toArray⟩ := by
  apply ByteArray.ext
  apply Array.toList_inj.1
  rw [Lib.extract_data, at_drop t i h]
  simp
theorem bapp (a b : Bs) : (⟨a.toArray⟩ : ByteArray) ++ ⟨b.toArray⟩ = ⟨(a ++ b).toArray⟩ := by
  apply ByteArray.ext
  simp
end Go.Proofs.YtmfejjlmflgnbaaGreatDoor.Tok

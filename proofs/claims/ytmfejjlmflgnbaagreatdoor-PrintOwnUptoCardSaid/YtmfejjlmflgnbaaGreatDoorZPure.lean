/- PLAIN LAWS: the reference's printed helpers, in the plain spec's words: words, names, strings, numerals, quotes. -/
import Derived.Test.YtmfejjlmflgnbaaGreatDoorZPure1
import Derived.Test.YtmfejjlmflgnbaaGreatDoorZPAy4
import Derived.Test.YtmfejjlmflgnbaaGreatDoorZMark
import Derived.Test.YtmfejjlmflgnbaaGreatDoorZPAy6
namespace Go.Proofs.YtmfejjlmflgnbaaGreatDoor.Tok
open Go.RowKit Go.Proofs.YtmfejjlmflgnbaaGreatDoor.PA Go.Proofs.YtmfejjlmflgnbaaGreatDoorW.PrintWords Go.Proofs.YtmfejjlmflgnbaaGreatDoorW.PrintLast Go.Proofs.YtmfejjlmflgnbaaGreatDoor.Sp
set_option linter.unusedVariables false
set_option linter.unusedSimpArgs false

theorem rfirst_spec (c : UInt8) : tappetref02_first.f (c.toNat : Int) = some (letterB c) := by
  have h95 : (c == 95) = decide (c.toNat = 95) := by
    rw [Bool.eq_iff_iff, beq_iff_eq, decide_eq_true_iff]
    exact u8_eq c 95 (by omega)
  have h95' : (((c.toNat : Nat) : Int) == 95) = decide (c.toNat = 95) := by
    rw [Bool.eq_iff_iff, beq_iff_eq, decide_eq_true_iff]
    omega
  unfold tappetref02_first.f letterB
  rw [h95, h95']
  repeat' split
  all_goals (congr 1; rw [eq_comm]; simp; try omega)
theorem rdigit_spec (c : UInt8) : tappetref02_digit.f (c.toNat : Int) = some (digitB c) := digit_spec c
theorem rpart_spec (c : UInt8) : tappetref02_part.f (c.toNat : Int) = some (partB c) := by
  unfold tappetref02_part.f partB
  rw [rfirst_spec, Option.bind_some, rdigit_spec]
  cases letterB c <;> simp
theorem rword_spec (t : ByteArray) (ht : t.size < 9223372036854775807) : ∀ (d i : Nat), i + d = t.size → tappetref02_word.l0 (d + 1) t (i : Int) = some ((i + wordLen (t.data.toList.drop i) : Nat) : Int)
  | 0, i, h => by
    have e : t.data.toList.drop i = [] := List.drop_eq_nil_of_le (by rw [Array.length_toList]; show t.size ≤ _; omega)
    rw [e, tappetref02_word.l0, if_neg (by omega)]
    rfl
  | d + 1, i, h => by
    have hi : i < t.size := by omega
    rw [at_drop t i hi, wordLen_cons, tappetref02_word.l0, if_pos (by omega), if_pos (by omega), bt_nat t i hi, rpart_spec, wrap_nat i (by omega)]
    have ih := rword_spec t ht d (i + 1) (by omega)
    simp only [Option.bind_some]
    cases partB t[i] with
    | true => simp only [if_true, ih]; congr 2; omega
    | false => simp
theorem rname_spec (t : ByteArray) : tappetref02_Name.f (t.size + 1) t = some (nameB t.data.toList) := by
  have hlen : t.data.toList.length = t.size := by rw [Array.length_toList]; rfl
  unfold tappetref02_Name.f nameB
  rw [hlen]
  by_cases h0 : t.size = 0
  · rw [if_neg (by omega), h0]
    rfl
  · have hpos : 0 < t.size := by omega
    rw [if_pos (by omega)]
    by_cases h63 : t.size ≤ 63
    · rw [if_pos (by omega), if_pos (by omega)]
      have hb := bt_nat t 0 hpos
      simp only [Int.ofNat_zero] at hb
      rw [show bt t 0 = _ from hb, rfirst_spec]
      have hd := at_drop t 0 hpos
      rw [List.drop_zero] at hd
      have hh : t.data.toList.headD 0 = t[0] := by rw [hd]; rfl
      rw [hh]
      simp only [Option.bind_some]
      cases letterB t[0] with
      | false => simp
      | true =>
        have hw := rword_spec t (by omega) t.size 0 (by omega)
        rw [List.drop_zero] at hw
        have ha := wordLen_all t.data.toList
        unfold tappetref02_word.f
        rw [show tappetref02_word.l0 (t.size + 1) t 0 = _ from hw]
        simp only [if_true, Option.bind_some]
        congr 1
        rw [hlen] at ha
        rw [Bool.eq_iff_iff, beq_iff_eq]
        simp only [Bool.and_eq_true, decide_eq_true_eq, Bool.true_eq_false, and_true]
        constructor
        · intro h1
          refine ⟨⟨?_, ?_⟩, ?_⟩ <;> first | omega | trivial | (refine ha.1 ?_; omega)
        · rintro ⟨_, h1⟩
          have := ha.2 h1
          omega
    · rw [if_neg (by omega)]
      simp; omega
end Go.Proofs.YtmfejjlmflgnbaaGreatDoor.Tok
/- PLAIN LAWS: the reference's printed numerals and quotes. -/
namespace Go.Proofs.YtmfejjlmflgnbaaGreatDoor.Tok
open Go.RowKit Go.Proofs.YtmfejjlmflgnbaaGreatDoor.PA Go.Proofs.YtmfejjlmflgnbaaGreatDoorW.PrintWords Go.Proofs.YtmfejjlmflgnbaaGreatDoorW.PrintLast Go.Proofs.YtmfejjlmflgnbaaGreatDoor.Sp
set_option linter.unusedVariables false
set_option linter.unusedSimpArgs false

theorem rstring_l0 (t : ByteArray) (ht : t.size < 9223372036854775807) : ∀ (d i : Nat), i + d = t.size → tappetref02_String.l0 (d + 1) t (i : Int) = some ((t.data.toList.drop i).all plainB && decide (t.size ≤ 255))
  | 0, i, h => by
    have e : t.data.toList.drop i = [] := List.drop_eq_nil_of_le (by rw [Array.length_toList]; show t.size ≤ _; omega)
    rw [e, tappetref02_String.l0, if_neg (by omega)]
    congr 1
    simp only [List.all_nil, Bool.true_and]
    rw [Bool.eq_iff_iff, decide_eq_true_iff, decide_eq_true_iff]
    omega
  | d + 1, i, h => by
    have hi : i < t.size := by omega
    rw [at_drop t i hi, List.all_cons, tappetref02_String.l0, if_pos (by omega), if_pos (by omega), bt_nat t i hi, wrap_nat i (by omega), rstring_l0 t ht d (i + 1) (by omega)]
    unfold plainB
    by_cases h1 : t[i].toNat < 32
    · rw [if_pos (by omega)]
      have : decide (32 ≤ t[i].toNat) = false := decide_eq_false (by omega)
      rw [this]
      simp
    · rw [if_neg (by omega)]
      have e1 : decide (32 ≤ t[i].toNat) = true := decide_eq_true (by omega)
      by_cases h2 : t[i].toNat > 126
      · rw [if_pos (by omega)]
        have : decide (t[i].toNat ≤ 126) = false := decide_eq_false (by omega)
        rw [this]
        simp
      · rw [if_neg (by omega)]
        have e2 : decide (t[i].toNat ≤ 126) = true := decide_eq_true (by omega)
        rw [e1, e2]
        simp
theorem rstring_spec (t : ByteArray) (ht : t.size < 9223372036854775807) : tappetref02_String.f (t.size + 1) t = some (stringB t.data.toList) := by
  have hlen : t.data.toList.length = t.size := by rw [Array.length_toList]; rfl
  have := rstring_l0 t ht t.size 0 (by omega)
  rw [List.drop_zero] at this
  unfold tappetref02_String.f stringB
  rw [hlen]
  exact this
theorem str_one (n : Nat) (z : Int) (h : n < 256) (e : z = (n : Int)) : strOfNums [z] = ⟨[UInt8.ofNat n].toArray⟩ := by
  rw [← str_ints [UInt8.ofNat n]]
  congr 1
  simp only [ints, List.map_cons, List.map_nil]
  rw [e]
  congr 2
  simp
  omega
theorem tmod_nat (v m : Nat) : Int.tmod (v : Int) (m : Int) = ((v % m : Nat) : Int) := by
  rw [Int.tmod_eq_emod_of_nonneg (by omega)]
  rfl
theorem tdiv_nat (v m : Nat) : Int.tdiv (v : Int) (m : Int) = ((v / m : Nat) : Int) := by
  rw [Int.tdiv_eq_ediv_of_nonneg (by omega)]
  rfl
theorem rdec_l0 : ∀ (f v : Nat) (acc : Bs), v < 10 ^ f → v < 4294967296 → acc.length + f ≤ 2000 → 0 < f → tappetref02_Decimal.l0 f (v : Int) ⟨acc.toArray⟩ = some ⟨(decF f v acc).toArray⟩
  | 0, _, _, _, _, _, h => absurd h (by omega)
  | f + 1, v, acc, h, hv, ha, _ => by
    unfold decF tappetref02_Decimal.l0
    by_cases h1 : v < 10
    · rw [if_neg (by omega), if_pos h1]
      simp only [Option.bind_some]
      rw [str_one (48 + v) _ (by omega) (by omega), bsize, bsize, if_pos (by simp; omega), bcons]
    · rw [if_pos (by omega), if_neg h1]
      simp only [Option.bind_some]
      have e1 : Int.tmod (v : Int) 10 = ((v % 10 : Nat) : Int) := tmod_nat v 10
      have e2 : Int.tdiv (v : Int) 10 = ((v / 10 : Nat) : Int) := tdiv_nat v 10
      have hf : 0 < f := by
        rcases Nat.eq_zero_or_pos f with e | e
        · subst e; simp at h; omega
        · exact e
      have e3 : ((v / 10 : Nat) : Int) % 4294967296 = ((v / 10 : Nat) : Int) := by omega
      rw [e1, e2, e3, str_one (48 + v % 10) _ (by omega) (by omega), bsize, bsize, if_pos (by simp; omega), bcons]
      exact rdec_l0 f (v / 10) _ (by rw [Nat.pow_succ] at h; omega) (by omega) (by simp; omega) hf
theorem rdec_spec (v k : Nat) (hv : v < 4294967296) (hk : 40 ≤ k) : tappetref02_Decimal.f k (v : Int) = some ⟨(decT v).toArray⟩ :=
  fuel_le (fun k => tappetref02_Decimal.f k (v : Int)) (tappetref02_Decimal.mono _) (rdec_l0 40 v [] (Nat.lt_of_lt_of_le hv (by decide)) hv (by simp) (by omega)) hk
def hexes : ByteArray := ⟨#[48, 49, 50, 51, 52, 53, 54, 55, 56, 57, 65, 66, 67, 68, 69, 70]⟩
theorem hexes_at (d : Nat) (h : d < 16) : hexes.extract d (d + 1) = ⟨[Sp.hexDigit d].toArray⟩ := by
  have : ∀ i : Fin 16, (hexes.extract i.1 (i.1 + 1)).data.toList = [Sp.hexDigit i.1] := by decide
  apply ByteArray.ext
  apply Array.toList_inj.1
  exact this ⟨d, h⟩
theorem rhex_step (k v n : Nat) (acc : Bs) (hv : v < 4294967296) (ha : acc.length ≤ 2000) (hn : n < 1000) (hc : n = 0 ∨ 0 < v) :
    tappetref02_Hex.l0 (k + 1) (v : Int) ⟨acc.toArray⟩ (n : Int) = tappetref02_Hex.l0 k ((v / 16 : Nat) : Int) ⟨(Sp.hexDigit (v % 16) :: acc).toArray⟩ ((n + 1 : Nat) : Int) := by
  have e1 : Int.tmod (v : Int) 16 = ((v % 16 : Nat) : Int) := tmod_nat v 16
  have e2 : Int.tdiv (v : Int) 16 = ((v / 16 : Nat) : Int) := tdiv_nat v 16
  have e3 : ((v / 16 : Nat) : Int) % 4294967296 = ((v / 16 : Nat) : Int) := by omega
  have e4 : (((v % 16 : Nat) : Int) + 1) % 4294967296 = ((v % 16 + 1 : Nat) : Int) := by omega
  have hx := hexes_at (v % 16) (Nat.mod_lt _ (by omega))
  unfold hexes at hx
  conv => lhs; unfold tappetref02_Hex.l0
  simp only [e1, e2, e3, e4, Int.toNat_natCast, hx, wrap_nat n (by omega), bcons, bsize]
  have p1 : (0 : Int) ≤ ((v % 16 : Nat) : Int) := by omega
  have p2 : ((v % 16 : Nat) : Int) ≤ ((v % 16 + 1 : Nat) : Int) := by omega
  have p3 : ((v % 16 + 1 : Nat) : Int) ≤ 16 := by omega
  have p4 : [Sp.hexDigit (v % 16)].length + acc.length ≤ 9223372036854775807 := by simp; omega
  rw [if_pos p1, if_pos p2, if_pos p3, if_pos p4]
  by_cases h0 : n = 0
  · rw [if_pos (by omega)]
  · rw [if_neg (by omega), if_pos (by omega)]
theorem rhex_l0 : ∀ (f v n : Nat) (acc : Bs), v < 16 ^ (f + 1) → v < 4294967296 → acc.length + f ≤ 1500 → n + f < 900 → (n = 0 ∨ 0 < v) → tappetref02_Hex.l0 (f + 2) (v : Int) ⟨acc.toArray⟩ (n : Int) = some ⟨(48 :: 120 :: hexF (f + 1) v acc).toArray⟩
  | f, v, n, acc, h, hv, ha, hn, hc => by
    rw [rhex_step (f + 1) v n acc hv (by omega) (by omega) hc]
    unfold hexF
    by_cases h1 : v < 16
    · have e0 : v / 16 = 0 := by omega
      have e1 : v % 16 = v := by omega
      rw [if_pos h1, e0, e1]
      unfold tappetref02_Hex.l0
      rw [if_neg (by omega), if_neg (by omega), bsize, if_pos (by simp; omega)]
      exact congrArg some (hex_cat _)
    · rw [if_neg h1]
      match f, h, ha, hn with
      | 0, h, _, _ => exact absurd (by simpa using h) h1
      | f + 1, h, ha, hn => exact rhex_l0 f (v / 16) (n + 1) _ (by rw [Nat.pow_succ] at h; omega) (by omega) (by simp; omega) (by omega) (.inr (by omega))
theorem rhex_spec (v k : Nat) (hv : v < 4294967296) (hk : 50 ≤ k) : tappetref02_Hex.f k (v : Int) = some ⟨(hexL v).toArray⟩ :=
  fuel_le (fun k => tappetref02_Hex.f k (v : Int)) (tappetref02_Hex.mono _) (rhex_l0 39 v 0 [] (Nat.lt_of_lt_of_le hv (by decide)) hv (by simp) (by omega) (.inl rfl)) (by omega : 41 ≤ k)
theorem rquote_l0 (t : ByteArray) (ht : t.size ≤ 100000000) : ∀ (d i : Nat) (acc : Bs), i + d = t.size → acc.length ≤ 2 * i + 1 → tappetref02_quote.l0 (d + 1) t ⟨acc.toArray⟩ (i : Int) = some ⟨(acc ++ (escT (t.data.toList.drop i) ++ [34])).toArray⟩
  | 0, i, acc, h, ha => by
    have e : t.data.toList.drop i = [] := List.drop_eq_nil_of_le (by rw [Array.length_toList]; show t.size ≤ _; omega)
    rw [e, tappetref02_quote.l0, if_neg (by omega), bsize, if_pos (by omega)]
    exact congrArg some (bapp acc [34])
  | d + 1, i, acc, h, ha => by
    have hi : i < t.size := by omega
    rw [at_drop t i hi, tappetref02_quote.l0, if_pos (by omega), if_pos (by omega), bt_nat t i hi]
    have q1 : acc.length + 1 ≤ 9223372036854775807 := by omega
    have q2 : (i : Int) ≤ ((i + 1 : Nat) : Int) := by omega
    have q3 : ((i + 1 : Nat) : Int) ≤ (t.size : Int) := by omega
    simp only [wrap_nat i (by omega), Int.toNat_natCast, ext_one t i hi, bsize]
    show _ = some (ByteArray.mk (acc ++ ((if t[i] = 34 ∨ t[i] = 92 then 92 :: t[i] :: escT (t.data.toList.drop (i + 1)) else t[i] :: escT (t.data.toList.drop (i + 1))) ++ [34])).toArray)
    have s1 : (⟨#[92]⟩ : ByteArray) = ⟨[92].toArray⟩ := rfl
    rw [s1]
    simp only [bapp, bsize]
    have q4 : (acc ++ [92]).length + [t[i]].length ≤ 9223372036854775807 := by simp; omega
    have q5 : acc.length + [t[i]].length ≤ 9223372036854775807 := by simp; omega
    by_cases hc : t[i] = 34 ∨ t[i] = 92
    · rw [if_pos hc]
      have ih := rquote_l0 t ht d (i + 1) (acc ++ [92] ++ [t[i]]) (by omega) (by simp; omega)
      have fin : tappetref02_quote.l0 (d + 1) t ⟨(acc ++ [92] ++ [t[i]]).toArray⟩ ((i + 1 : Nat) : Int) = some (ByteArray.mk (acc ++ ((92 :: t[i] :: escT (t.data.toList.drop (i + 1))) ++ [34])).toArray) := by
        rw [ih]; simp
      by_cases c1 : ((t[i].toNat : Nat) : Int) = 34
      · rw [if_pos c1, if_pos q1, if_pos q2, if_pos q3, if_pos q4]
        exact fin
      · have c2 : ((t[i].toNat : Nat) : Int) = 92 := by
          rcases hc with e | e
          · exact absurd (by rw [e]; rfl) c1
          · rw [e]; rfl
        rw [if_neg c1, if_pos c2, if_pos q1, if_pos q2, if_pos q3, if_pos q4]
        exact fin
    · rw [if_neg hc]
      have c1 : ¬ ((t[i].toNat : Nat) : Int) = 34 := fun e => hc (.inl (UInt8.toNat_inj.1 (by simp; omega)))
      have c2 : ¬ ((t[i].toNat : Nat) : Int) = 92 := fun e => hc (.inr (UInt8.toNat_inj.1 (by simp; omega)))
      have ih := rquote_l0 t ht d (i + 1) (acc ++ [t[i]]) (by omega) (by simp; omega)
      rw [if_neg c1, if_neg c2, if_pos q2, if_pos q3, if_pos q5, ih]
      simp
theorem rquote_spec (t : ByteArray) (ht : t.size ≤ 100000000) : tappetref02_quote.f (t.size + 1) t = some ⟨(quoteT t.data.toList).toArray⟩ := by
  have := rquote_l0 t ht t.size 0 [34] (by omega) (by simp)
  rw [List.drop_zero] at this
  exact this
end Go.Proofs.YtmfejjlmflgnbaaGreatDoor.Tok

/- PLAIN LAWS of the spec: numbers and tokens: what is read is what stands there; what is spelled is read back. -/
import Derived.Test.YtpecmmicndcgjaaGreatDoorLawA
namespace Go.Proofs.YtpecmmicndcgjaaGreatDoor.Sp
set_option linter.unusedVariables false
set_option linter.unusedSimpArgs false

/-! ### numbers -/
theorem numVal_lt : ∀ (l : Bs) (b v u : Nat), v ≤ 4294967295 → numVal b v l = some u → u ≤ 4294967295
  | [], b, v, u, h, e => by simp [numVal] at e; omega
  | c :: r, b, v, u, h, e => by
    simp only [numVal] at e
    split at e
    · split at e
      · rename_i h2; exact numVal_lt r b _ u h2 e
      · simp at e
    · simp at e
theorem numL_lt (l : Bs) (v : Nat) (h : Bool) (e : numL l = some (v, h)) : v ≤ 4294967295 := by
  unfold numL at e
  split at e
  · simp at e
  split at e
  · simp only [Option.map_eq_some_iff, Prod.mk.injEq] at e
    obtain ⟨a, h1, rfl, _⟩ := e
    exact numVal_lt _ _ _ _ (by omega) h1
  split at e
  · split at e
    · split at e
      · simp at e
      · simp only [Option.map_eq_some_iff, Prod.mk.injEq] at e
        obtain ⟨a, h1, rfl, _⟩ := e
        exact numVal_lt _ _ _ _ (by omega) h1
    · simp at e
  · simp only [Option.map_eq_some_iff, Prod.mk.injEq] at e
    obtain ⟨a, h1, rfl, _⟩ := e
    exact numVal_lt _ _ _ _ (by omega) h1

/-! ### the token that a text begins with -/
structure TokAt (l : Bs) (x : Tok) (k : Nat) : Prop where
  pos : 0 < k
  le : k ≤ l.length
  head : ∀ r', Fin0 (l.take k ++ r')
  next : x.kind = 1 ∨ x.kind = 2 → hp (l.drop k) = false
  cut : ∀ r', (x.kind = 1 ∨ x.kind = 2 → hp r' = false) → tok1 (l.take k ++ r') = .ok (x, k)
  kind : 1 ≤ x.kind ∧ x.kind ≤ 8
  val : x.val ≤ 4294967295
  spell : ∃ s, spellT x.kind x.text x.val x.hex = some s ∧ s ≠ []
  name : x.kind = 1 → x.text = l.take k ∧ k = x.text.length
  str : x.kind = 3 → ∃ r, l = 34 :: r
theorem take_pos {c : UInt8} {r : Bs} {k : Nat} (h : 0 < k) (r' : Bs) : (c :: r).take k ++ r' = c :: (r.take (k - 1) ++ r') := by
  obtain ⟨j, rfl⟩ : ∃ j, k = j + 1 := ⟨k - 1, by omega⟩
  simp
theorem tok1_name {c : UInt8} {r : Bs} (h : letterB c = true) : tok1 (c :: r) = if wordLen (c :: r) > 63 then .error (24, 0) else .ok (⟨1, (c :: r).take (wordLen (c :: r)), 0, false⟩, wordLen (c :: r)) := by
  simp only [tok1, h, if_true]
theorem tok1_num {c : UInt8} {r : Bs} (h : digitB c = true) : tok1 (c :: r) = match numL ((c :: r).take (wordLen (c :: r))) with
      | none => .error (21, 0)
      | some (v, h) => .ok (⟨2, [], v, h⟩, wordLen (c :: r)) := by
  simp only [tok1, h, digit_letter c h, if_true, Bool.false_eq_true, if_false]
  rfl
theorem tok1_str (r : Bs) : tok1 (34 :: r) = match qstr [] 1 r with
      | .error e => .error e
      | .ok (s, n) => .ok (⟨3, s, 0, false⟩, n) := by
  simp only [tok1, show letterB 34 = false from by decide, show digitB 34 = false from by decide, Bool.false_eq_true, if_false, if_true]
  rfl
theorem tok1_mark {c : UInt8} (r : Bs) (h : markK c ≠ 0) : tok1 (c :: r) = .ok (⟨markK c, [], 0, false⟩, 1) := by
  obtain ⟨_, _, h1, h2, h3, _⟩ := mark_fin c h
  simp only [tok1, h1, h2, h3, h, Bool.false_eq_true, if_false, if_true, ne_eq, not_false_eq_true]
theorem wlen_pos {c : UInt8} {r : Bs} (h : partB c = true) : 0 < wordLen (c :: r) := by rw [wlen_cons, h]; simp
theorem headD_cons (c : UInt8) (r : Bs) : (c :: r).headD 0 = c := rfl
theorem tok1_ok {l : Bs} {x : Tok} {k : Nat} (h : tok1 l = .ok (x, k)) : TokAt l x k := by
  cases l with
  | nil => simp [tok1] at h
  | cons c r =>
    by_cases hl : letterB c = true
    · have hp0 : partB c = true := by simp [partB, hl]
      have hw := wlen_pos (r := r) hp0
      rw [tok1_name hl] at h
      by_cases h63 : wordLen (c :: r) > 63
      · simp [h63] at h
      · simp only [if_neg h63, Except.ok.injEq, Prod.mk.injEq] at h
        obtain ⟨rfl, rfl⟩ := h
        have hlen : ((c :: r).take (wordLen (c :: r))).length = wordLen (c :: r) := by
          rw [List.length_take]; have := wlen_le (c :: r); omega
        refine ⟨hw, wlen_le _, fun r' => ?_, fun _ => word_drop _, fun r' hr => ?_, ⟨by simp, by simp⟩, by simp, ⟨(c :: r).take (wordLen (c :: r)), ?_, ?_⟩, fun _ => ⟨rfl, hlen.symm⟩, fun e => by simp at e⟩
        · rw [take_pos hw]; exact fin_cons (letter_fin c hl).1 (letter_fin c hl).2 _
        · have e := take_pos (c := c) (r := r) hw r'
          have hc := word_cut (c :: r) r' (hr (.inl rfl))
          rw [e] at hc
          rw [e, tok1_name hl, hc, if_neg h63, ← e, List.take_left' hlen]
        · have hn : nameB ((c :: r).take (wordLen (c :: r))) = true := by
            unfold nameB
            rw [hlen, word_all, Bool.and_true]
            have := take_pos (c := c) (r := r) hw []
            rw [List.append_nil, List.append_nil] at this
            rw [this, headD_cons, hl]
            simp; omega
          show spellT ((1 : Nat) : Int) _ 0 false = _
          simp [spellT, hn]
        · intro e
          rw [e] at hlen
          simp at hlen
          omega
    · have hl' : letterB c = false := by simpa using hl
      by_cases hd : digitB c = true
      · have hp0 : partB c = true := by simp [partB, hd]
        have hw := wlen_pos (r := r) hp0
        rw [tok1_num hd] at h
        cases hn : numL ((c :: r).take (wordLen (c :: r))) with
        | none => rw [hn] at h; simp at h
        | some vh =>
          obtain ⟨v, hx⟩ := vh
          rw [hn] at h
          simp only [Except.ok.injEq, Prod.mk.injEq] at h
          obtain ⟨rfl, rfl⟩ := h
          have hlen : ((c :: r).take (wordLen (c :: r))).length = wordLen (c :: r) := by
            rw [List.length_take]; have := wlen_le (c :: r); omega
          refine ⟨hw, wlen_le _, fun r' => ?_, fun _ => word_drop _, fun r' hr => ?_, ⟨by simp, by simp⟩, numL_lt _ _ _ hn, ?_, fun e => by simp at e, fun e => by simp at e⟩
          · rw [take_pos hw]; exact fin_cons (digit_fin c hd).1 (digit_fin c hd).2 _
          · have e := take_pos (c := c) (r := r) hw r'
            have hc := word_cut (c :: r) r' (hr (.inr rfl))
            rw [e] at hc
            rw [e, tok1_num hd, hc, ← e]
            have e2 : ((c :: r).take (wordLen (c :: r)) ++ r').take (wordLen (c :: r)) = (c :: r).take (wordLen (c :: r)) := List.take_left' hlen
            rw [e2, hn]
          · show ∃ s, spellT ((2 : Nat) : Int) _ v hx = _ ∧ _
            cases hx with
            | true => exact ⟨hexL v, by simp [spellT], by simp [hexL]⟩
            | false =>
              refine ⟨decT v, by simp [spellT], ?_⟩
              have : ∀ (f v : Nat) (acc : Bs), decF (f + 1) v acc ≠ [] := by
                intro f
                induction f with
                | zero => intro v acc; simp only [decF]; split <;> simp
                | succ f ih => intro v acc; rw [decF]; split
                               · simp
                               · exact ih _ _
              exact this 39 v []
      · have hd' : digitB c = false := by simpa using hd
        by_cases c34 : c = 34
        · subst c34
          rw [tok1_str] at h
          cases hq : qstr [] 1 r with
          | error e => rw [hq] at h; simp at h
          | ok sn =>
            obtain ⟨s, n⟩ := sn
            rw [hq] at h
            simp only [Except.ok.injEq, Prod.mk.injEq] at h
            obtain ⟨rfl, rfl⟩ := h
            obtain ⟨g, r2, rfl, rfl, hg, hcut, hall, hs⟩ := qstr_ok r.length r (Nat.le_refl _) _ _ _ _ hq
            have hst : stringB s = true := by
              unfold stringB
              rw [hall rfl]
              simp; omega
            have ht : (34 :: (g ++ r2)).take (1 + g.length) = 34 :: g := by
              rw [Nat.add_comm]; simp
            refine ⟨by omega, by simp; omega, fun r' => ?_, fun e => by simp at e, fun r' _ => ?_, ⟨by simp, by simp⟩, by simp, ⟨quoteT s, ?_, by simp [quoteT]⟩, fun e => by simp at e, fun _ => ⟨_, rfl⟩⟩
            · rw [ht]; exact fin_cons (by decide) (by decide) _
            · rw [ht, List.cons_append, tok1_str, hcut 1 r']
            · show spellT ((3 : Nat) : Int) _ 0 false = _
              simp [spellT, hst]
        · by_cases hm : markK c = 0
          · simp [tok1, hl', hd', c34, hm] at h
          · rw [tok1_mark r hm] at h
            simp only [Except.ok.injEq, Prod.mk.injEq] at h
            obtain ⟨rfl, rfl⟩ := h
            obtain ⟨h1, h2, _, _, _, h4, h8, hc⟩ := mark_fin c hm
            refine ⟨by omega, by simp, fun r' => fin_cons h1 h2 _, fun e => by simp at e; omega, fun r' _ => tok1_mark _ hm, ⟨by simp; omega, by simp; omega⟩, by simp, ⟨[markC (markK c)], ?_, by simp⟩, fun e => by simp at e; omega, fun e => by simp at e; omega⟩
            show spellT ((markK c : Nat) : Int) [] 0 false = _
            unfold spellT
            rw [if_neg (by omega), if_neg (by omega), if_neg (by omega), if_neg (by omega), if_pos (by omega), if_pos ⟨rfl, rfl, rfl⟩]
            rfl
theorem tok1_err {l : Bs} {c p : Nat} (h : tok1 l = .error (c, p)) : (p = 0 ∧ (c = 20 ∨ c = 21 ∨ c = 24) ∨ c = 22) ∧ p ≤ l.length := by
  cases l with
  | nil => simp [tok1] at h; omega
  | cons c0 r =>
    by_cases hl : letterB c0 = true
    · rw [tok1_name hl] at h
      split at h <;> simp at h
      omega
    · have hl' : letterB c0 = false := by simpa using hl
      by_cases hd : digitB c0 = true
      · rw [tok1_num hd] at h
        split at h <;> simp at h
        omega
      · have hd' : digitB c0 = false := by simpa using hd
        by_cases c34 : c0 = 34
        · subst c34
          rw [tok1_str] at h
          cases hq : qstr [] 1 r with
          | ok sn => rw [hq] at h; simp at h
          | error e =>
            rw [hq] at h
            simp at h
            subst h
            have := qstr_err r.length r (Nat.le_refl _) _ _ _ _ hq
            simp
            omega
        · by_cases hm : markK c0 = 0
          · simp [tok1, hl', hd', c34, hm] at h; omega
          · rw [tok1_mark r hm] at h; simp at h

/-! ### what is spelled is read back -/
theorem dig_dec : ∀ d, d < 10 → digitVal (UInt8.ofNat (48 + d)) = d ∧ digitB (UInt8.ofNat (48 + d)) = true ∧ (d ≠ 0 → UInt8.ofNat (48 + d) ≠ 48) := by decide +kernel
theorem dig_hex : ∀ d, d < 16 → digitVal (hexDigit d) = d ∧ partB (hexDigit d) = true := by decide +kernel
theorem decF_num : ∀ (f v : Nat) (acc : Bs), v < 10 ^ (f + 1) → v ≤ 4294967295 → numVal 10 0 (decF (f + 1) v acc) = numVal 10 v acc
  | 0, v, acc, h, hv => by
    simp only [decF]
    rw [if_pos (by omega)]
    have := (dig_dec v (by omega)).1
    simp only [numVal, this]
    rw [if_pos (by omega), if_pos (by omega)]
    simp
  | f + 1, v, acc, h, hv => by
    rw [decF]
    split
    · have := (dig_dec v (by omega)).1
      simp only [numVal, this]
      rw [if_pos (by omega), if_pos (by omega)]
      simp
    · rw [decF_num f (v / 10) _ (by rw [Nat.pow_succ] at h; omega) (by omega)]
      have := (dig_dec (v % 10) (by omega)).1
      simp only [numVal, this]
      rw [if_pos (by omega), if_pos (by omega)]
      congr 1
      omega
theorem hexF_num : ∀ (f v : Nat) (acc : Bs), v < 16 ^ (f + 1) → v ≤ 4294967295 → numVal 16 0 (hexF (f + 1) v acc) = numVal 16 v acc
  | 0, v, acc, h, hv => by
    simp only [hexF]
    rw [if_pos (by omega)]
    have := (dig_hex v (by omega)).1
    simp only [numVal, this]
    rw [if_pos (by omega), if_pos (by omega)]
    simp
  | f + 1, v, acc, h, hv => by
    rw [hexF]
    split
    · have := (dig_hex v (by omega)).1
      simp only [numVal, this]
      rw [if_pos (by omega), if_pos (by omega)]
      simp
    · rw [hexF_num f (v / 16) _ (by rw [Nat.pow_succ] at h; omega) (by omega)]
      have := (dig_hex (v % 16) (by omega)).1
      simp only [numVal, this]
      rw [if_pos (by omega), if_pos (by omega)]
      congr 1
      omega
/-- A decimal's first digit, and that all are digits. -/
theorem decF_head : ∀ (f v : Nat) (acc : Bs), 0 < v → v < 10 ^ (f + 1) → ∃ c r, decF (f + 1) v acc = c :: r ∧ digitB c = true ∧ c ≠ 48
  | 0, v, acc, h0, h => by
    simp only [decF]
    rw [if_pos (by omega)]
    exact ⟨_, _, rfl, (dig_dec v (by omega)).2.1, (dig_dec v (by omega)).2.2 (by omega)⟩
  | f + 1, v, acc, h0, h => by
    rw [decF]
    split
    · exact ⟨_, _, rfl, (dig_dec v (by omega)).2.1, (dig_dec v (by omega)).2.2 (by omega)⟩
    · exact decF_head f (v / 10) _ (by omega) (by rw [Nat.pow_succ] at h; omega)
theorem decF_all : ∀ (f v : Nat) (acc : Bs), acc.all partB = true → (decF f v acc).all partB = true
  | 0, v, acc, h => h
  | f + 1, v, acc, h => by
    rw [decF]
    split
    · have := (dig_dec v (by omega)).2.1
      rw [List.all_cons, h, partB, this]; simp
    · refine decF_all f _ _ ?_
      have := (dig_dec (v % 10) (by omega)).2.1
      rw [List.all_cons, h, partB, this]; simp
theorem hexF_all : ∀ (f v : Nat) (acc : Bs), acc.all partB = true → (hexF f v acc).all partB = true
  | 0, v, acc, h => h
  | f + 1, v, acc, h => by
    rw [hexF]
    split
    · have := (dig_hex v (by omega)).2
      simp [this, h]
    · refine hexF_all f _ _ ?_
      have := (dig_hex (v % 16) (by omega)).2
      simp [this, h]
theorem hexF_ne : ∀ (f v : Nat) (acc : Bs), hexF (f + 1) v acc ≠ []
  | 0, v, acc => by simp only [hexF]; split <;> simp
  | f + 1, v, acc => by
    rw [hexF]
    split
    · simp
    · exact hexF_ne f _ _
theorem numL_dec (v : Nat) (hv : v ≤ 4294967295) : numL (decT v) = some (v, false) ∧ ∃ c r, decT v = c :: r ∧ digitB c = true := by
  rcases Nat.eq_zero_or_pos v with rfl | h0
  · exact ⟨by decide +kernel, 48, [], by decide +kernel, by decide⟩
  · obtain ⟨c, r, e, hd, hc⟩ := decF_head 39 v [] h0 (by omega)
    have hn := decF_num 39 v [] (by omega) hv
    refine ⟨?_, c, r, e, hd⟩
    unfold decT
    rw [e] at hn ⊢
    have hn' : numVal 10 0 (c :: r) = some v := hn
    cases r with
    | nil => simp only [numL, hn']; rfl
    | cons x r' => simp only [numL, if_neg hc, hn']; rfl
theorem numL_hex (v : Nat) (hv : v ≤ 4294967295) : numL (hexL v) = some (v, true) := by
  have hn := hexF_num 39 v [] (by omega) hv
  have hn' : numVal 16 0 (hexF 40 v []) = some v := hn
  have hne : hexF 40 v [] ≠ [] := hexF_ne 39 v []
  simp only [hexL, numL, if_true, true_or, if_neg hne, hn']
  rfl
theorem tok1_digits (s r' : Bs) (v : Nat) (h : Bool) (hall : s.all partB = true) (hn : numL s = some (v, h)) (hc : ∃ c r, s = c :: r ∧ digitB c = true) (hr : hp r' = false) : tok1 (s ++ r') = .ok (⟨2, [], v, h⟩, s.length) ∧ Fin0 (s ++ r') := by
  obtain ⟨c, r, rfl, hd⟩ := hc
  have hw := word_of_all (c :: r) hall r' hr
  refine ⟨?_, fin_cons (digit_fin c hd).1 (digit_fin c hd).2 _⟩
  rw [List.cons_append] at hw ⊢
  rw [tok1_num hd, hw, ← List.cons_append, List.take_left, hn]
theorem qstr_esc : ∀ (t acc : Bs) (n : Nat) (r' : Bs), t.all plainB = true → acc.length + t.length ≤ 255 → qstr acc n (escT t ++ 34 :: r') = .ok (acc ++ t, n + (escT t).length + 1)
  | [], acc, n, r', h, hl => by
    simp only [escT, List.nil_append, qcons, if_true, List.length_nil] at hl ⊢
    rw [if_neg (by omega)]
    simp
  | c :: t, acc, n, r', h, hl => by
    simp only [List.all_cons, Bool.and_eq_true] at h
    have hpl : ¬ plainB c = false := by simp [h.1]
    have hpl92 : ¬ plainB 92 = false := by decide
    unfold escT
    by_cases hc : c = 34 ∨ c = 92
    · rw [if_pos hc]
      have ih := qstr_esc t (acc ++ [c]) (n + 2) r' h.2 (by simp at hl ⊢; omega)
      simp only [List.cons_append, qcons, show ¬ ((92 : UInt8) = 34) from by decide, if_false, if_neg hpl92, if_true, if_pos hc, ih]
      simp; omega
    · rw [if_neg hc]
      have ih := qstr_esc t (acc ++ [c]) (n + 1) r' h.2 (by simp at hl ⊢; omega)
      have c34 : ¬ c = 34 := fun e => hc (.inl e)
      have c92 : ¬ c = 92 := fun e => hc (.inr e)
      simp only [List.cons_append, qcons, if_neg c34, if_neg hpl, if_neg c92, ih]
      simp; omega
theorem spell_read (k : Int) (t : Bs) (v : Nat) (h : Bool) (s : Bs) (e : spellT k t v h = some s) (hk : k ≠ 0) (hv : v ≤ 4294967295) :
    ∀ r', hp r' = false → tok1 (s ++ r') = .ok (⟨k.toNat, t, v, h⟩, s.length) ∧ Fin0 (s ++ r') ∧ 0 < s.length := by
  intro r' hr
  unfold spellT at e
  by_cases k1 : k = 1
  · subst k1
    rw [if_pos rfl] at e
    split at e
    · rename_i hc
      obtain ⟨rfl, rfl, hn⟩ := hc
      injection e with e
      subst e
      unfold nameB at hn
      cases t with
      | nil => simp at hn
      | cons c r =>
        rw [headD_cons] at hn
        simp only [Bool.and_eq_true, decide_eq_true_eq] at hn
        obtain ⟨⟨⟨_, h63⟩, hl⟩, hall⟩ := hn
        have hw := word_of_all (c :: r) hall r' hr
        refine ⟨?_, fin_cons (letter_fin c hl).1 (letter_fin c hl).2 _, by simp⟩
        rw [List.cons_append] at hw ⊢
        rw [tok1_name hl, hw, if_neg (by omega), ← List.cons_append, List.take_left]
        rfl
    · simp at e
  rw [if_neg k1] at e
  by_cases k2 : k = 2
  · subst k2
    rw [if_pos rfl] at e
    split at e
    · rename_i ht
      subst ht
      cases h with
      | true =>
        simp only [if_true, Option.some.injEq] at e
        subst e
        have hall : (hexL v).all partB = true := by
          have := hexF_all 40 v [] rfl
          simp only [hexL, List.all_cons, this]
          decide
        obtain ⟨h1, h2⟩ := tok1_digits (hexL v) r' v true hall (numL_hex v hv) ⟨48, 120 :: hexF 40 v [], rfl, by decide⟩ hr
        exact ⟨h1, h2, by simp [hexL]⟩
      | false =>
        simp only [Bool.false_eq_true, if_false, Option.some.injEq] at e
        subst e
        obtain ⟨hn, c, r, hc, hd⟩ := numL_dec v hv
        obtain ⟨h1, h2⟩ := tok1_digits (decT v) r' v false (decF_all 40 v [] rfl) hn ⟨c, r, hc, hd⟩ hr
        exact ⟨h1, h2, by rw [hc]; simp⟩
    · simp at e
  rw [if_neg k2] at e
  by_cases k3 : k = 3
  · subst k3
    rw [if_pos rfl] at e
    split at e
    · rename_i hc
      obtain ⟨rfl, rfl, hs⟩ := hc
      injection e with e
      subst e
      unfold stringB at hs
      simp only [Bool.and_eq_true, decide_eq_true_eq] at hs
      refine ⟨?_, fin_cons (by decide) (by decide) _, by simp [quoteT]⟩
      have hq := qstr_esc t [] 1 r' hs.1 (by simpa using hs.2)
      unfold quoteT
      rw [List.cons_append, List.append_assoc, tok1_str, List.cons_append, List.nil_append, hq]
      simp
      omega
    · simp at e
  rw [if_neg k3, if_neg hk] at e
  by_cases k4 : 4 ≤ k ∧ k ≤ 8
  · rw [if_pos k4] at e
    split at e
    · rename_i hc
      obtain ⟨rfl, rfl, rfl⟩ := hc
      injection e with e
      subst e
      have hkk : k = 4 ∨ k = 5 ∨ k = 6 ∨ k = 7 ∨ k = 8 := by omega
      have hm : markK (markC k.toNat) = k.toNat := by rcases hkk with rfl | rfl | rfl | rfl | rfl <;> decide
      have hne : markK (markC k.toNat) ≠ 0 := by rw [hm]; omega
      obtain ⟨h1, h2, _⟩ := mark_fin _ hne
      refine ⟨?_, fin_cons h1 h2 _, by simp⟩
      rw [List.cons_append, List.nil_append, tok1_mark _ hne, hm]
      rfl
    · simp at e
  · rw [if_neg k4] at e
    simp at e
end Go.Proofs.YtpecmmicndcgjaaGreatDoor.Sp

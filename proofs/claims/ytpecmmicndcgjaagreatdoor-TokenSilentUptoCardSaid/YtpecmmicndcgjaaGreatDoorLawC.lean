/- PLAIN LAWS of the spec: whole texts: what is put between tokens says nothing; beginnings are right; what is joined is read back. -/
import Derived.Test.YtpecmmicndcgjaaGreatDoorLawB
import Derived.Lib.Join
namespace Go.Proofs.YtpecmmicndcgjaaGreatDoor.Sp
set_option linter.unusedVariables false
set_option linter.unusedSimpArgs false

def endT : Tok := ⟨0, [], 0, false⟩
inductive Scans (t : Bs) : Nat → List (Tok × Nat) → Prop where
  | fin {i n : Nat} (hg : gap 0 0 i (t.drop i) = .ends n) (hn : n = t.length) : Scans t i [(endT, n)]
  | tok {i n k : Nat} {x : Tok} {l : List (Tok × Nat)} (hg : gap 0 0 i (t.drop i) = .ends n) (hn : n ≠ t.length) (ht : tok1 (t.drop n) = .ok (x, k)) (hl : Scans t (n + k) l) : Scans t i ((x, n) :: l)
inductive Fails (t : Bs) : Nat → Nat → Nat → Prop where
  | gap {i n : Nat} (hg : gap 0 0 i (t.drop i) = .open_ n) : Fails t i 23 n
  | tok {i n e k : Nat} (hg : Sp.gap 0 0 i (t.drop i) = .ends n) (hn : n ≠ t.length) (ht : tok1 (t.drop n) = .error (e, k)) : Fails t i e (n + k)
  | later {i n k e p : Nat} {x : Tok} (hg : Sp.gap 0 0 i (t.drop i) = .ends n) (hn : n ≠ t.length) (ht : tok1 (t.drop n) = .ok (x, k)) (hl : Fails t (n + k) e p) : Fails t i e p

theorem scanF_succ (f : Nat) (t : Bs) (i : Nat) : scanF (f + 1) t i = match gap 0 0 i (t.drop i) with
    | .open_ n => .error (23, n)
    | .ends n =>
      if n = t.length then .ok [(⟨0, [], 0, false⟩, n)]
      else
        match tok1 (t.drop n) with
        | .error (e, k) => .error (e, n + k)
        | .ok (x, k) =>
          match scanF f t (n + k) with
          | .error e => .error e
          | .ok l => .ok ((x, n) :: l) := rfl
theorem scans_of : ∀ (f : Nat) (t : Bs) (i : Nat) (l : List (Tok × Nat)), scanF f t i = .ok l → Scans t i l
  | 0, t, i, l, h => by simp [scanF] at h
  | f + 1, t, i, l, h => by
    rw [scanF_succ] at h
    cases hg : gap 0 0 i (t.drop i) with
    | open_ n => rw [hg] at h; simp at h
    | ends n =>
      rw [hg] at h
      simp only at h
      by_cases hn : n = t.length
      · rw [if_pos hn] at h
        injection h with h
        subst h
        exact .fin hg hn
      · rw [if_neg hn] at h
        cases ht : tok1 (t.drop n) with
        | error e => rw [ht] at h; simp at h
        | ok xk =>
          obtain ⟨x, k⟩ := xk
          rw [ht] at h
          simp only at h
          cases hs : scanF f t (n + k) with
          | error e => rw [hs] at h; simp at h
          | ok l' =>
            rw [hs] at h
            simp only at h
            injection h with h
            subst h
            exact .tok hg hn ht (scans_of f t _ _ hs)
theorem of_scans {t : Bs} {i : Nat} {l : List (Tok × Nat)} (h : Scans t i l) : ∀ f, l.length ≤ f → scanF f t i = .ok l := by
  induction h with
  | fin hg hn =>
    intro f hf
    obtain ⟨f, rfl⟩ : ∃ g, f = g + 1 := ⟨f - 1, by simp at hf; omega⟩
    rw [scanF_succ, hg]
    simp only
    rw [if_pos hn]
    rfl
  | tok hg hn ht hl ih =>
    intro f hf
    obtain ⟨f, rfl⟩ : ∃ g, f = g + 1 := ⟨f - 1, by simp at hf; omega⟩
    rw [scanF_succ, hg]
    simp only
    rw [if_neg hn, ht]
    simp only
    rw [ih f (by simpa using hf)]
theorem gap_to {t : Bs} {i n : Nat} (hi : i ≤ t.length) (hg : gap 0 0 i (t.drop i) = .ends n) :
    ∃ g, t.drop i = g ++ t.drop n ∧ n = i + g.length ∧ n ≤ t.length ∧ Cut 0 g ∧ Nl 0 g ∧ Fin0 (t.drop n) ∧ hp g = false ∧ (n < t.length → Sil 0 g) := by
  obtain ⟨g, r, h1, h2, h3, h4, h5, h6, h7⟩ := gap_ends hg
  have hr : t.drop n = r := by
    rw [h2, ← List.drop_drop, h1, List.drop_left]
  have hlen := congrArg List.length h1
  rw [List.length_drop, List.length_append] at hlen
  refine ⟨g, by rw [hr]; exact h1, h2, by omega, h3, h4, by rw [hr]; exact h5, h6, fun hlt => h7 ?_⟩
  intro e
  rw [e] at hlen
  simp at hlen
  omega
theorem tok_at {t : Bs} {n k : Nat} {x : Tok} (ht : tok1 (t.drop n) = .ok (x, k)) : n + k ≤ t.length ∧ n < n + k := by
  have h := tok1_ok ht
  have := h.le
  have := h.pos
  rw [List.length_drop] at *
  omega
theorem scans_bound {t : Bs} {i : Nat} {l : List (Tok × Nat)} (h : Scans t i l) : i ≤ t.length → 0 < l.length ∧ l.length ≤ t.length - i + 1 := by
  induction h with
  | fin hg hn => intro _; simp
  | tok hg hn ht hl ih =>
    intro hi
    obtain ⟨g, h1, h2, h3, _⟩ := gap_to hi hg
    have h4 := tok_at ht
    have := ih (by omega)
    simp
    omega
theorem scanT_of {t : Bs} {l : List (Tok × Nat)} (h : Scans t 0 l) (ht : t.length ≤ 262144) : scanT t = .ok l := by
  unfold scanT
  rw [if_neg (by omega)]
  exact of_scans h _ (by have := scans_bound h (by omega); omega)
theorem fails_of : ∀ (f : Nat) (t : Bs) (i e p : Nat), i ≤ t.length → t.length - i < f → scanF f t i = .error (e, p) → Fails t i e p
  | 0, t, i, e, p, hi, hf, h => by omega
  | f + 1, t, i, e, p, hi, hf, h => by
    rw [scanF_succ] at h
    cases hg : gap 0 0 i (t.drop i) with
    | open_ n =>
      rw [hg] at h
      simp only [Except.error.injEq, Prod.mk.injEq] at h
      obtain ⟨rfl, rfl⟩ := h
      exact .gap hg
    | ends n =>
      rw [hg] at h
      simp only at h
      obtain ⟨g, h1, h2, h3, _⟩ := gap_to hi hg
      by_cases hn : n = t.length
      · rw [if_pos hn] at h; cases h
      · rw [if_neg hn] at h
        cases ht : tok1 (t.drop n) with
        | error ek =>
          obtain ⟨e', k⟩ := ek
          rw [ht] at h
          simp only [Except.error.injEq, Prod.mk.injEq] at h
          obtain ⟨rfl, rfl⟩ := h
          exact .tok hg hn ht
        | ok xk =>
          obtain ⟨x, k⟩ := xk
          have h4 := tok_at ht
          rw [ht] at h
          simp only at h
          cases hs : scanF f t (n + k) with
          | error e' =>
            rw [hs] at h
            simp only [Except.error.injEq] at h
            subst h
            exact .later hg hn ht (fails_of f t _ _ _ (by omega) (by omega) hs)
          | ok l' => rw [hs] at h; cases h

/-! ### what says nothing -/
def btw (k : Nat) : Bs :=
  match k with
  | 0 => [32]
  | 1 => [10]
  | 2 => [9, 32, 13, 10]
  | 3 => [47, 42, 42, 47]
  | 4 => [47, 47, 123, 59, 10]
  | 5 => [47, 42, 32, 34, 32, 42, 47, 32]
  | 6 => [32, 47, 42, 42, 42, 47]
  | _ => [47, 47, 10, 47, 47, 10]
theorem btw_sil (k : Nat) : Sil 0 (btw k) := by
  have b (c : UInt8) (h : blankB c = true) {g : Bs} := @sil_blank c h g
  have s2 (c d : UInt8) (h : ¬ (c = 42 ∧ d = 47)) {g : Bs} := @sil_step2 c d h g
  have s1 (c : UInt8) (h : c ≠ 10) {g : Bs} := @sil_step1 c h g
  unfold btw
  split
  · exact b _ rfl sil_nil
  · exact b _ rfl sil_nil
  · exact b _ rfl (b _ rfl (b _ rfl (b _ rfl sil_nil)))
  · exact sil_block (sil_close sil_nil)
  · exact sil_line (s1 _ (by decide) (s1 _ (by decide) (sil_ten sil_nil)))
  · exact sil_block (s2 _ _ (by decide) (s2 _ _ (by decide) (s2 _ _ (by decide) (sil_close (b _ rfl sil_nil)))))
  · exact b _ rfl (sil_block (s2 _ _ (by decide) (sil_close sil_nil)))
  · exact sil_line (sil_ten (sil_line (sil_ten sil_nil)))
def btwH : List Nat → Bs
  | [] => []
  | m :: _ => btw (m % 8)
theorem btwH_sil (ms : List Nat) : Sil 0 (btwH ms) := by
  cases ms with
  | nil => exact sil_nil
  | cons m r => exact btw_sil _
def silF (t : Bs) : List Nat → List (Tok × Nat) → Bs
  | _, [] => []
  | ms, [(x, o)] => btwH ms ++ t.drop o
  | ms, (x, o) :: (y, o') :: l => btwH ms ++ (t.drop o).take (o' - o) ++ 10 :: silF t ms.tail ((y, o') :: l)
theorem Scans.move {T : Bs} {i j : Nat} {l : List (Tok × Nat)} (h : Scans T j l) (e : gap 0 0 i (T.drop i) = gap 0 0 j (T.drop j)) : Scans T i l := by
  cases h with
  | fin hg hn => exact .fin (e.trans hg) hn
  | tok hg hn ht hl => exact .tok (e.trans hg) hn ht hl
theorem drop_add {T a b : Bs} {N : Nat} (h : T.drop N = a ++ b) : T.drop (N + a.length) = b := by
  rw [← List.drop_drop, h, List.drop_left]
theorem len_of_drop {T a : Bs} {N : Nat} (h : T.drop N = a) (hN : N ≤ T.length) : T.length = N + a.length := by
  rw [← h, List.length_drop]; omega
theorem silent {t : Bs} {i : Nat} {l : List (Tok × Nat)} (h : Scans t i l) : i ≤ t.length → ∀ (ms : List Nat) (T : Bs) (N : Nat), N ≤ T.length → T.drop N = silF t ms l → ∃ l2, Scans T N l2 ∧ l2.map Prod.fst = l.map Prod.fst := by
  induction h with
  | @fin i n hg hn =>
    intro hi ms T N hN hT
    have e0 : t.drop n = [] := List.drop_eq_nil_of_le (by omega)
    simp only [silF, e0, List.append_nil] at hT
    have hlen := len_of_drop hT hN
    have hs := btwH_sil ms N 0 [] _ rfl
    rw [List.append_nil] at hs
    refine ⟨[(endT, T.length)], .fin ?_ rfl, rfl⟩
    rw [hT, hs, hlen]
    rfl
  | @tok i n k x l hg hn ht hl ih =>
    intro hi ms T N hN hT
    obtain ⟨g0, a1, a2, a3, _⟩ := gap_to hi hg
    have h4 := tok_at ht
    have A := tok1_ok ht
    have hb := scans_bound hl (by omega)
    cases l with
    | nil => simp at hb
    | cons y l' =>
      obtain ⟨y, o'⟩ := y
      have ho : gap 0 0 (n + k) (t.drop (n + k)) = .ends o' := by
        cases hl with
        | fin hg' _ => exact hg'
        | tok hg' _ _ _ => exact hg'
      obtain ⟨g, b1, b2, b3, b4, b5, b6, b7, _⟩ := gap_to (by omega) ho
      have hsl : (t.drop n).take (o' - n) = (t.drop n).take k ++ g := by
        have e1 : t.drop n = ((t.drop n).take k ++ g) ++ t.drop o' := by
          rw [List.append_assoc, ← b1, ← List.drop_drop, List.take_append_drop]
        have e2 : ((t.drop n).take k ++ g).length = o' - n := by
          have := A.le
          rw [List.length_append, List.length_take]
          omega
        conv => lhs; rw [e1]
        exact List.take_left' e2
      simp only [silF, hsl] at hT
      generalize hS : silF t ms.tail ((y, o') :: l') = S at hT
      have hT1 : T.drop N = btwH ms ++ ((t.drop n).take k ++ (g ++ 10 :: S)) := by simpa using hT
      have hT2 := drop_add hT1
      have hk : ((t.drop n).take k).length = k := by rw [List.length_take]; have := A.le; omega
      have hT3 := drop_add hT2
      rw [hk] at hT3
      have hT4 : T.drop (N + (btwH ms).length + k + (g.length + 1)) = S := by
        have := drop_add (a := g ++ [10]) (b := S) (by rw [hT3]; simp)
        simpa using this
      have hlenT := len_of_drop hT1 hN
      simp only [List.length_append, List.length_cons, hk] at hlenT
      obtain ⟨l2, hl2, hm⟩ := ih (by omega) ms.tail T (N + (btwH ms).length + k + (g.length + 1)) (by omega) (by rw [hT4, hS])
      have hnl := b5 (N + (btwH ms).length + k) 0 S _ rfl
      have hl3 : Scans T (N + (btwH ms).length + k) l2 := hl2.move (by rw [hT3, hT4, hnl]; rfl)
      refine ⟨(x, N + (btwH ms).length) :: l2, .tok (k := k) ?_ (by have := A.pos; omega) ?_ hl3, by simp [hm]⟩
      · rw [hT1, btwH_sil ms N 0 _ _ rfl]
        exact A.head _ _ _
      · rw [hT2]
        refine A.cut _ fun _ => ?_
        cases g with
        | nil => rfl
        | cons c g => exact b7

/-! ### beginnings -/
theorem hp_take (l : Bs) (j : Nat) (h : hp l = false) : hp (l.take j) = false := by
  cases l with
  | nil => simp [hp]
  | cons c r =>
    cases j with
    | zero => rfl
    | succ j => exact h
theorem drop_take' (t : Bs) (i o : Nat) : (t.take o).drop i = (t.drop i).take (o - i) := by
  rw [List.drop_take]
/-- The beginning of a text up to place n, where a gap from i ends. -/
theorem cut_here {t : Bs} {i n : Nat} (hi : i ≤ t.length) {g : Bs} (h1 : ∃ r, t.drop i = g ++ r) (h2 : n = i + g.length) (hc : Cut 0 g) : Scans (t.take n) i [(endT, n)] ∧ i ≤ n ∧ n ≤ t.length := by
  obtain ⟨r, h1⟩ := h1
  have hlen := congrArg List.length h1
  rw [List.length_drop, List.length_append] at hlen
  refine ⟨.fin ?_ (by rw [List.length_take]; omega), by omega, by omega⟩
  rw [drop_take', h1, List.take_left' (by omega)]
  exact hc i 0 n h2
theorem step_here {t : Bs} {i n k o : Nat} {x : Tok} (hi : i ≤ t.length) (hg : gap 0 0 i (t.drop i) = .ends n) (hn : n ≠ t.length) (ht : tok1 (t.drop n) = .ok (x, k)) (ho : n + k ≤ o) (hot : o ≤ t.length) {l : List (Tok × Nat)} (hl : Scans (t.take o) (n + k) l) : Scans (t.take o) i ((x, n) :: l) := by
  obtain ⟨g, h1, h2, h3, h4, h5, h6, h7, h8⟩ := gap_to hi hg
  have A := tok1_ok ht
  have hp := A.pos
  have e : (t.drop n).take (o - n) = (t.drop n).take k ++ (t.drop (n + k)).take (o - n - k) := by
    have : (t.drop n).take (o - n) = ((t.drop n).take (o - n)).take k ++ ((t.drop n).take (o - n)).drop k := (List.take_append_drop _ _).symm
    rw [this, List.take_take, drop_take', List.drop_drop, Nat.min_eq_left (by omega)]
  refine .tok (k := k) ?_ ?_ ?_ hl
  · rw [drop_take', h1]
    have : (g ++ t.drop n).take (o - i) = g ++ (t.drop n).take (o - n) := by
      rw [List.take_append, List.take_of_length_le (by omega)]
      congr 2
      omega
    rw [this, h8 (by omega) i 0 _ n h2, e]
    exact A.head _ _ _
  · rw [List.length_take]; omega
  · rw [drop_take', e]
    exact A.cut _ fun hk => hp_take _ _ (by rw [← List.drop_drop]; exact A.next hk)
theorem pre_scan {t : Bs} {i : Nat} {l : List (Tok × Nat)} (h : Scans t i l) : i ≤ t.length → ∀ (L1 : List (Tok × Nat)) (y : Tok) (o : Nat) (L2 : List (Tok × Nat)), l = L1 ++ (y, o) :: L2 → Scans (t.take o) i (L1 ++ [(endT, o)]) ∧ i ≤ o ∧ o ≤ t.length := by
  induction h with
  | @fin i n hg hn =>
    intro hi L1 y o L2 hL
    obtain ⟨g, h1, h2, h3, h4, _⟩ := gap_to hi hg
    cases L1 with
    | nil =>
      simp only [List.nil_append, List.cons.injEq, Prod.mk.injEq] at hL
      obtain ⟨⟨_, rfl⟩, _⟩ := hL
      exact cut_here hi ⟨_, h1⟩ h2 h4
    | cons a L1 => simp at hL
  | @tok i n k x l hg hn ht hl ih =>
    intro hi L1 y o L2 hL
    obtain ⟨g, h1, h2, h3, h4, _⟩ := gap_to hi hg
    have h5 := tok_at ht
    cases L1 with
    | nil =>
      simp only [List.nil_append, List.cons.injEq, Prod.mk.injEq] at hL
      obtain ⟨⟨_, rfl⟩, _⟩ := hL
      exact cut_here hi ⟨_, h1⟩ h2 h4
    | cons a L1 =>
      simp only [List.cons_append, List.cons.injEq] at hL
      obtain ⟨rfl, hL⟩ := hL
      obtain ⟨j1, j2, j3⟩ := ih (by omega) L1 y o L2 hL
      exact ⟨step_here hi hg hn ht j2 j3 j1, by omega, j3⟩
theorem pre_fail {t : Bs} {i e p : Nat} (h : Fails t i e p) : i ≤ t.length → p ≤ t.length ∧ (e = 20 ∨ e = 21 ∨ e = 22 ∨ e = 23 ∨ e = 24) ∧ i ≤ p ∧ (e ≠ 22 → ∃ L, Scans (t.take p) i L) := by
  induction h with
  | @gap i n hg =>
    intro hi
    obtain ⟨g, r, h1, h2, h3⟩ := gap_open hg
    obtain ⟨a, b, c⟩ := cut_here hi ⟨r, h1⟩ h2 h3
    exact ⟨c, by omega, b, fun _ => ⟨_, a⟩⟩
  | @tok i n e k hg hn ht =>
    intro hi
    obtain ⟨g, h1, h2, h3, h4, _⟩ := gap_to hi hg
    have h5 := tok1_err ht
    rw [List.length_drop] at h5
    refine ⟨by omega, by omega, by omega, fun he => ?_⟩
    obtain rfl : k = 0 := by omega
    exact ⟨_, (cut_here hi ⟨_, h1⟩ h2 h4).1⟩
  | @later i n k e p x hg hn ht hl ih =>
    intro hi
    obtain ⟨g, h1, h2, h3, h4, _⟩ := gap_to hi hg
    have h5 := tok_at ht
    obtain ⟨a, b, c, d⟩ := ih (by omega)
    refine ⟨a, b, by omega, fun he => ?_⟩
    obtain ⟨L, hL⟩ := d he
    exact ⟨_, step_here hi hg hn ht c a hL⟩

/-! ### each token of a text -/
structure Facts (t : Bs) (i : Nat) (l : List (Tok × Nat)) (j : Nat) (x : Tok) (o : Nat) : Prop where
  lo : i ≤ o
  hi : o ≤ t.length
  last : o = t.length ↔ j + 1 = l.length
  end_ : x.kind = 0 ↔ j + 1 = l.length
  fin : x.kind = 0 → x = endT
  name : x.kind = 1 → o + x.text.length ≤ t.length ∧ (t.drop o).take x.text.length = x.text
  str : x.kind = 3 → ∃ r, t.drop o = 34 :: r
  kind : x.kind ≤ 8
  val : x.val ≤ 4294967295
  spell : x.kind ≠ 0 → ∃ s, spellT x.kind x.text x.val x.hex = some s ∧ s ≠ []
  next : ∀ y o', l[j + 1]? = some (y, o') → o < o'
theorem facts {t : Bs} {i : Nat} {l : List (Tok × Nat)} (h : Scans t i l) : i ≤ t.length → ∀ (j : Nat) (x : Tok) (o : Nat), l[j]? = some (x, o) → Facts t i l j x o := by
  induction h with
  | @fin i n hg hn =>
    intro hi j x o hj
    obtain ⟨g, h1, h2, h3, _⟩ := gap_to hi hg
    cases j with
    | zero =>
      simp only [List.getElem?_cons_zero, Option.some.injEq, Prod.mk.injEq] at hj
      obtain ⟨rfl, rfl⟩ := hj
      exact ⟨by omega, h3, by simp [hn], by simp [endT], fun _ => rfl, fun h => by simp [endT] at h, fun h => by simp [endT] at h, by simp [endT], by simp [endT], fun h => by simp [endT] at h, fun y o' h => by simp at h⟩
    | succ j => simp at hj
  | @tok i n k x0 l hg hn ht hl ih =>
    intro hi j x o hj
    obtain ⟨g, h1, h2, h3, _⟩ := gap_to hi hg
    have h4 := tok_at ht
    have hb := scans_bound hl (by omega)
    cases j with
    | zero =>
      simp only [List.getElem?_cons_zero, Option.some.injEq, Prod.mk.injEq] at hj
      obtain ⟨rfl, rfl⟩ := hj
      have A := tok1_ok ht
      have hk := A.kind
      refine ⟨by omega, h3, ⟨fun h => absurd h hn, fun h => by rw [List.length_cons] at h; omega⟩, ⟨fun h => by omega, fun h => by rw [List.length_cons] at h; omega⟩, fun h => by omega, fun h => ?_, A.str, hk.2, A.val, fun _ => A.spell, fun y o' hy => ?_⟩
      · obtain ⟨e1, e2⟩ := A.name h
        rw [← e2]
        exact ⟨h4.1, e1.symm⟩
      · simp only [List.getElem?_cons_succ] at hy
        have := (ih (by omega) 0 y o' hy).lo
        omega
    | succ j =>
      simp only [List.getElem?_cons_succ] at hj
      have F := ih (by omega) j x o hj
      have := F.lo
      exact ⟨by omega, F.hi, by simpa using F.last, by simpa using F.end_, F.fin, F.name, F.str, F.kind, F.val, F.spell, fun y o' hy => F.next y o' (by simpa using hy)⟩

/-! ### what is joined is read back -/
structure Item (p : Tok × Bs) : Prop where
  spell : spellT p.1.kind p.1.text p.1.val p.1.hex = some p.2
  val : p.1.val ≤ 4294967295
def lastOnly : List (Tok × Bs) → Prop
  | [] => True
  | p :: r => (p.1.kind = 0 → r = []) ∧ lastOnly r
def real (l : List (Tok × Bs)) : List Tok := (l.map Prod.fst).filter fun x => x.kind ≠ 0
theorem spell_end {t : Bs} {v : Nat} {h : Bool} {s : Bs} (e : spellT 0 t v h = some s) : s = [] := by
  simp [spellT] at e
  first | exact e.2.symm | exact e.2
theorem tail_cons (s : Bs) (r : List Bs) : Lib.joinTail [32] (s :: r) = 32 :: (s ++ Lib.joinTail [32] r) := by
  simp [Lib.joinTail]
theorem hp_tail (r : List Bs) : hp (Lib.joinTail [32] r) = false := by
  cases r with
  | nil => rfl
  | cons s r => rw [tail_cons]; rfl
theorem back_tok {T : Bs} {p : Tok × Bs} {r : List Bs} {N : Nat} (hN : N ≤ T.length) (hp0 : Item p) (hk : p.1.kind ≠ 0) (hT : T.drop N = p.2 ++ Lib.joinTail [32] r) {l : List (Tok × Nat)} (hl : Scans T (N + p.2.length) l) : Scans T N ((p.1, N) :: l) := by
  obtain ⟨h1, h2, h3⟩ := spell_read _ _ _ _ _ hp0.spell (by omega) hp0.val _ (hp_tail r)
  have hlen := len_of_drop hT hN
  rw [List.length_append] at hlen
  refine .tok (k := p.2.length) ?_ (by omega) ?_ hl
  · rw [hT]; exact h2 _ _
  · rw [hT, h1]; rfl
theorem back_tail : ∀ (L : List (Tok × Bs)) (T : Bs) (N : Nat), (∀ p ∈ L, Item p) → lastOnly L → N ≤ T.length → T.drop N = Lib.joinTail [32] (L.map Prod.snd) → ∃ l, Scans T N l ∧ l.map Prod.fst = real L ++ [endT]
  | [], T, N, hI, hL, hN, hT => by
    have hT' : T.drop N = [] := hT
    have hlen := len_of_drop hT' hN
    exact ⟨[(endT, N)], .fin (by rw [hT']; rfl) (by simpa using hlen.symm), rfl⟩
  | p :: L, T, N, hI, hL, hN, hT => by
    rw [List.map_cons, tail_cons] at hT
    have hT1 : T.drop N = [32] ++ (p.2 ++ Lib.joinTail [32] (L.map Prod.snd)) := by simpa using hT
    have hT2 := drop_add hT1
    have hlen := len_of_drop hT1 hN
    simp only [List.length_append, List.length_cons, List.length_nil] at hlen hT2
    have hmv : gap 0 0 N (T.drop N) = gap 0 0 (N + (0 + 1)) (T.drop (N + (0 + 1))) := by
      rw [hT2, hT1]
      exact gap_blank rfl 0 N _
    have hp0 := hI p (by simp)
    by_cases hk : p.1.kind = 0
    · obtain rfl := hL.1 hk
      have hs : p.2 = [] := by
        have := hp0.spell
        rw [hk] at this
        exact spell_end this
      rw [hs] at hT2 hlen
      refine ⟨[(endT, N + 1)], .fin ?_ (by simp [Lib.joinTail] at hlen; omega), by simp [real, hk]⟩
      rw [hmv, hT2]
      rfl
    · have hT3 := drop_add hT2
      obtain ⟨l, hl, hm⟩ := back_tail L T (N + (0 + 1) + p.2.length) (fun q hq => hI q (by simp [hq])) hL.2 (by omega) hT3
      refine ⟨_, (back_tok (by omega) hp0 hk hT2 hl).move hmv, ?_⟩
      simp [real, hk] at hm ⊢
      exact hm
theorem back (L : List (Tok × Bs)) (hI : ∀ p ∈ L, Item p) (hL : lastOnly L) : ∃ l, Scans (Lib.join (L.map Prod.snd) [32]) 0 l ∧ l.map Prod.fst = real L ++ [endT] := by
  cases L with
  | nil =>
    exact ⟨[(endT, 0)], .fin rfl rfl, rfl⟩
  | cons p L =>
    rw [List.map_cons, Lib.join_cons]
    generalize hT : p.2 ++ Lib.joinTail [32] (L.map Prod.snd) = T
    have hT2 : T.drop 0 = p.2 ++ Lib.joinTail [32] (L.map Prod.snd) := hT.symm
    have hp0 := hI p (by simp)
    by_cases hk : p.1.kind = 0
    · obtain rfl := hL.1 hk
      have hs : p.2 = [] := by
        have := hp0.spell
        rw [hk] at this
        exact spell_end this
      rw [hs] at hT
      have hT' : T = [] := hT.symm
      subst hT'
      exact ⟨[(endT, 0)], .fin rfl rfl, by simp [real, hk]⟩
    · have hT3 := drop_add hT2
      have hlen := len_of_drop hT2 (by omega)
      rw [List.length_append] at hlen
      obtain ⟨l, hl, hm⟩ := back_tail L T (0 + p.2.length) (fun q hq => hI q (by simp [hq])) hL.2 (by omega) hT3
      refine ⟨_, back_tok (by omega) hp0 hk hT2 hl, ?_⟩
      simp [real, hk] at hm ⊢
      exact hm
end Go.Proofs.YtpecmmicndcgjaaGreatDoor.Sp

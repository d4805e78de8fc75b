/- PLAIN LAWS: the document's Copy as printed is the copy of the spec; its SameFlaw is equality. -/
import Derived.Test.YtmfejjlmflgnbaaGreatDoorZTree
import Derived.Test.YtmfejjlmflgnbaaGreatDoorZPrG
import Derived.Test.YtmfejjlmflgnbaaGreatDoorZPAy2
import Derived.Test.YtmfejjlmflgnbaaGreatDoorZPAy3
namespace Go.Proofs.YtmfejjlmflgnbaaGreatDoor.Tok
open Go.RowKit Go.Proofs.YtmfejjlmflgnbaaGreatDoor.PA Go.Proofs.YtmfejjlmflgnbaaGreatDoorW.PrintWords Go.Proofs.YtmfejjlmflgnbaaGreatDoorW.PrintLast Go.Proofs.YtmfejjlmflgnbaaGreatDoor.Tr
set_option linter.unusedVariables false
set_option linter.unusedSimpArgs false
set_option maxRecDepth 100000

def cpL (s : Bool) (l : List SA) : List SA := if s then l else bareL l
def cpA (s : Bool) (a : SA) : SA := if s then a else bareA a
def cpO (s : Bool) (o : SO) : SO := if s then o else bareO o
theorem bareL_map : ∀ l : List SA, bareL l = l.map bareA
  | [] => by simp only [bareL, List.map_nil]
  | a :: r => by simp only [bareL, List.map_cons, bareL_map r]
theorem cpL_nil (s : Bool) : cpL s [] = [] := by cases s <;> simp [cpL, bareL]
theorem cpL_cons (s : Bool) (a : SA) (r : List SA) : cpL s (a :: r) = cpA s a :: cpL s r := by
  cases s <;> simp [cpL, cpA, bareL]
theorem cpA_true (a : SA) : (⟨a.f0, (⟨a.f1.f0, a.f1.f1, a.f1.f2⟩ : S41), (⟨a.f2.f0, a.f2.f1, a.f2.f2, a.f2.f3⟩ : S48), a.f3, cpL true a.f4, a.f5, a.f6⟩ : SA) = cpA true a := by
  cases a; simp [cpA, cpL]
theorem cpA_false (a : SA) : (⟨a.f0, (⟨0, 0, 0⟩ : S41), (⟨a.f2.f0, a.f2.f1, a.f2.f2, a.f2.f3⟩ : S48), a.f3, cpL false a.f4, a.f5, a.f6⟩ : SA) = cpA false a := by
  cases a; simp [cpA, cpL, bareA]
theorem cpO_true (a : SO) : (⟨a.f0, a.f1, (⟨a.f2.f0, a.f2.f1, a.f2.f2⟩ : S41), cpL true a.f3, a.f4, a.f5⟩ : SO) = cpO true a := by
  cases a; simp [cpO, cpL]
theorem cpO_false (a : SO) : (⟨a.f0, a.f1, (⟨0, 0, 0⟩ : S41), cpL false a.f3, a.f4, a.f5⟩ : SO) = cpO false a := by
  cases a; simp [cpO, cpL, bareO]
theorem wrap_succ (i : Nat) (h : i < 9223372036854775807) : wrap64 ((i : Int) + 1) = ((i + 1 : Nat) : Int) := by
  unfold wrap64
  omega
theorem plain_l0 (m : Nat) : ∀ (l : List SA) (s : Bool) (acc : List SA) (i K : Nat), i ≤ l.length → cntL (l.drop i) ≤ m → 2 * cntL (l.drop i) + 1 ≤ K → acc.length + (l.length - i) ≤ 1000000000 → l.length ≤ 1000000000 → m ≤ 1000000000 →
    tappetref04_plain.l0 K l s acc (i : Int) = some (acc ++ cpL s (l.drop i)) := by
  induction m using Nat.strongRecOn with
  | ind m ih =>
    intro l s acc i K hi hm hK ha hl hmm
    obtain ⟨K, rfl⟩ : ∃ K', K = K' + 1 := ⟨K - 1, by omega⟩
    unfold tappetref04_plain.l0
    by_cases hlt : i < l.length
    · have hx : l[i]? = some l[i] := List.getElem?_eq_getElem hlt
      have hd : l.drop i = l[i] :: l.drop (i + 1) := List.drop_eq_getElem_cons hlt
      rw [hd] at hm hK ⊢
      simp only [cntL] at hm hK
      rw [cnt_eq] at hm hK
      rw [if_pos (by omega), if_pos (by omega), rd_at l i _ hx, cpL_cons]
      generalize l[i] = a at *
      have hf : tappetref04_plain.f K a.f4 s = some (cpL s a.f4) := by
        obtain ⟨K, rfl⟩ : ∃ K', K = K' + 1 := ⟨K - 1, by omega⟩
        unfold tappetref04_plain.f
        have hn := cnt_len a.f4
        have := ih (cntL a.f4) (by omega) a.f4 s [] 0 K (by omega) (by simp) (by simp; omega) (by simp; omega) (by omega) (by omega)
        simpa using this
      have hr : ∀ y, tappetref04_plain.l0 K l s (acc ++ [y]) ((i + 1 : Nat) : Int) = some ((acc ++ [y]) ++ cpL s (l.drop (i + 1))) := fun y =>
        ih (cntL (l.drop (i + 1))) (by omega) l s (acc ++ [y]) (i + 1) K (by omega) (Nat.le_refl _) (by omega) (by simp; omega) hl (by omega)
      cases s with
      | true =>
        rw [if_pos rfl, hf, Option.bind_some, if_pos (by omega), wrap_succ i (by omega), cpA_true, hr]
        simp
      | false =>
        rw [if_neg (by decide), hf, Option.bind_some, if_pos (by omega), wrap_succ i (by omega), cpA_false, hr]
        simp
    · obtain rfl : i = l.length := by omega
      rw [if_neg (by omega), List.drop_eq_nil_of_le (Nat.le_refl _), cpL_nil, List.append_nil]
theorem plain_f (l : List SA) (s : Bool) (K : Nat) (hK : 2 * cntL l + 2 ≤ K) (hl : cntL l ≤ 1000000000) : tappetref04_plain.f K l s = some (cpL s l) := by
  obtain ⟨K, rfl⟩ : ∃ K', K = K' + 1 := ⟨K - 1, by omega⟩
  unfold tappetref04_plain.f
  have hn := cnt_len l
  have := plain_l0 (cntL l) l s [] 0 K (by omega) (by simp) (by simp; omega) (by simp; omega) (by omega) hl
  simpa using this
theorem rdo_at2 (l : List SO) (j : Nat) (a : SO) (h : l[j]? = some a) : rd_T44 l (j : Int) = a := rdo_at l j a h
theorem copy_l0 (n : Nat) : ∀ (l : List SO) (s : Bool) (acc : List SO) (i K : Nat) (a b : ByteArray) (d : Bool) (e : ByteArray), l.length - i = n → i ≤ l.length → n + 200000010 ≤ K → (∀ (j : Nat) (o : SO), l[j]? = some o → cntL o.f3 ≤ 100000000) → acc.length + (l.length - i) ≤ 1000000000 → l.length ≤ 1000000000 →
    tappetref04_Copy.l0 K s (i : Int) a b l d e a b acc d e = some (a, b, acc ++ (l.drop i).map (cpO s), d, e) := by
  induction n with
  | zero =>
    intro l s acc i K a b d e hn hi hK hc ha hl
    obtain ⟨K, rfl⟩ : ∃ K', K = K' + 1 := ⟨K - 1, by omega⟩
    unfold tappetref04_Copy.l0
    obtain rfl : i = l.length := by omega
    rw [if_neg (by omega), List.drop_eq_nil_of_le (Nat.le_refl _), List.map_nil, List.append_nil]
  | succ n ih =>
    intro l s acc i K a b d e hn hi hK hc ha hl
    obtain ⟨K, rfl⟩ : ∃ K', K = K' + 1 := ⟨K - 1, by omega⟩
    unfold tappetref04_Copy.l0
    have hlt : i < l.length := by omega
    have hx : l[i]? = some l[i] := List.getElem?_eq_getElem hlt
    rw [if_pos (by omega), if_pos (by omega), rdo_at l i _ hx, List.drop_eq_getElem_cons hlt, List.map_cons]
    have hcn := hc i _ hx
    generalize l[i] = o at *
    have hr : ∀ y, tappetref04_Copy.l0 K s ((i + 1 : Nat) : Int) a b l d e a b (acc ++ [y]) d e = some (a, b, (acc ++ [y]) ++ (l.drop (i + 1)).map (cpO s), d, e) := fun y =>
      ih l s (acc ++ [y]) (i + 1) K a b d e (by omega) (by omega) (by omega) hc (by simp; omega) hl
    cases s with
    | true =>
      rw [if_pos rfl, plain_f o.f3 true K (by omega) (by omega), Option.bind_some, if_pos (by omega), wrap_succ i (by omega), cpO_true, hr]
      simp
    | false =>
      rw [if_neg (by decide), plain_f o.f3 false K (by omega) (by omega), Option.bind_some, if_pos (by omega), wrap_succ i (by omega), cpO_false, hr]
      simp
def cpT (s : Bool) (t : ST) : ST := ⟨t.f0, t.f1, t.f2.map (cpO s), t.f3, t.f4⟩
theorem cpT_true (t : ST) : cpT true t = t := by
  obtain ⟨a, b, l, d, e⟩ := t
  unfold cpT
  rw [show cpO true = id from rfl, List.map_id]
theorem cpT_false (t : ST) : cpT false t = bareT t := rfl
theorem copy_f (t : ST) (s : Bool) (hT : TreeOk t) : tappetref04_Copy.f 400000100 t.f0 t.f1 t.f2 t.f3 t.f4 s = some (t.f0, t.f1, t.f2.map (cpO s), t.f3, t.f4) := by
  unfold tappetref04_Copy.f
  have := copy_l0 t.f2.length t.f2 s [] 0 400000100 t.f0 t.f1 t.f3 t.f4 (by omega) (by omega) (by have := hT.len; omega) hT.cnt (by have := hT.len; simp; omega) (by have := hT.len; omega)
  simpa using this
/-- The document's Copy. -/
theorem copy_calls (t : ST) (s : Bool) (A : Option Addr) (c : Nat) (w : World) (hC : Kd.C k44 w A t.f2.length t.f2) (hc : t.f2.length ≤ c) (hT : TreeOk t) :
    Calls Tryz.prog 12 #[treeV t A c, .bool s] w fun e w' => (∃ A' c', e = .returned (treeV (cpT s t) A' c') ∧ Kd.C k44 w' A' (cpT s t).f2.length (cpT s t).f2 ∧ (cpT s t).f2.length ≤ c' ∧ Kd.R k44 44 w' w.heap.size (fun _ => True) (.slice A' (cpT s t).f2.length c') (cpT s t).f2) ∧ Below w.heap.size w w' := by
  refine (tappetref04_Copy.calls 400000100 t.f0 t.f1 A c t.f2 t.f3 t.f4 s _ _ _ _ _ w hC hc (copy_f t s hT)).mono fun e w' ⟨v, he, hR, hB⟩ => ⟨?_, hB⟩
  obtain ⟨A', c', rfl, hl, hC'⟩ := Kd.R_reads hR
  exact ⟨A', c', he, hC', hl, hR⟩

/-! ### SameFlaw -/
theorem rd_int (l : List Int) (i : Nat) (a : Int) (h : l[i]? = some a) : rd l (i : Int) = a := by
  simp [rd, h]
theorem sf_l0 (n : Nat) : ∀ (l l' : List Int) (c c' : Int) (i K : Nat), l.length - i = n → i ≤ l.length → l.length = l'.length → n + 1 ≤ K → l.length ≤ 9223372036854775807 →
    tappetref04_SameFlaw.l0 K (i : Int) c l c' l' = some (l.drop i == l'.drop i) := by
  induction n with
  | zero =>
    intro l l' c c' i K hn hi he hK hl
    obtain ⟨K, rfl⟩ : ∃ K', K = K' + 1 := ⟨K - 1, by omega⟩
    unfold tappetref04_SameFlaw.l0
    obtain rfl : i = l.length := by omega
    rw [if_neg (by omega), List.drop_eq_nil_of_le (Nat.le_refl _), List.drop_eq_nil_of_le (by omega)]
    rfl
  | succ n ih =>
    intro l l' c c' i K hn hi he hK hl
    obtain ⟨K, rfl⟩ : ∃ K', K = K' + 1 := ⟨K - 1, by omega⟩
    unfold tappetref04_SameFlaw.l0
    have h1 : i < l.length := by omega
    have h2 : i < l'.length := by omega
    rw [if_pos (by omega), if_pos (by omega), if_pos (by omega), rd_int l i _ (List.getElem?_eq_getElem h1), rd_int l' i _ (List.getElem?_eq_getElem h2), wrap_succ i (by omega), ih l l' c c' (i + 1) K (by omega) (by omega) he (by omega) hl]
    have e : (l.drop i == l'.drop i) = (l[i] == l'[i] && (l.drop (i + 1) == l'.drop (i + 1))) := by
      have e1 : l.drop i = l[i] :: l.drop (i + 1) := List.drop_eq_getElem_cons h1
      have e2 : l'.drop i = l'[i] :: l'.drop (i + 1) := List.drop_eq_getElem_cons h2
      rw [e1, e2]
      rfl
    rw [e]
    by_cases hx : l[i] = l'[i]
    · rw [if_pos hx]
      simp [hx]
    · rw [if_neg hx]
      simp [hx]
theorem sf_f (l l' : List Int) (c c' : Int) (hl : l.length ≤ 9223372036854775807) (hl' : l'.length ≤ 9223372036854775807) : tappetref04_SameFlaw.f (l.length + 5) c l c' l' = some (c == c' && l == l') := by
  unfold tappetref04_SameFlaw.f
  by_cases h1 : c = c'
  · rw [if_pos h1]
    obtain ⟨K, hK⟩ : ∃ K, K = l.length + 4 := ⟨_, rfl⟩
    rw [show l.length + 5 = K + 1 by omega]
    show (if ((l.length : Int) != (l'.length : Int)) = true then some false else tappetref04_SameFlaw.l0 K 0 c l c' l') = _
    by_cases h2 : l.length = l'.length
    · rw [if_neg (by simp [h2])]
      have := sf_l0 l.length l l' c c' 0 K (by omega) (by omega) h2 (by omega) hl
      simp at this
      rw [this]
      simp [h1]
    · rw [if_pos (by simp; omega)]
      have : (l == l') = false := by
        rw [beq_eq_false_iff_ne]
        intro e
        exact h2 (by rw [e])
      rw [this, Bool.and_false]
  · rw [if_neg h1]
    obtain ⟨K, hK⟩ : ∃ K, K = l.length + 4 := ⟨_, rfl⟩
    rw [show l.length + 5 = K + 1 by omega]
    show (if true = true then some false else tappetref04_SameFlaw.l0 K 0 c l c' l') = _
    rw [if_pos rfl]
    simp [h1]
theorem sameflaw_calls (c : Int) (A : Option Addr) (n : Nat) (l : List Int) (c' : Int) (A' : Option Addr) (n' : Nat) (l' : List Int) (w : World) (hC : Kd.C (Kd.int .i64) w A l.length l) (hn : l.length ≤ n) (hC' : Kd.C (Kd.int .i64) w A' l'.length l') (hn' : l'.length ≤ n') :
    Calls Tryz.prog 15 #[.agg #[.int .i64 c, .slice A l.length n], .agg #[.int .i64 c', .slice A' l'.length n']] w fun e w' => e = .returned (.bool (c == c' && l == l')) ∧ Below w.heap.size w w' :=
  (tappetref04_SameFlaw.calls _ c A n l c' A' n' l' _ w hC hn hC' hn' (sf_f l l' c c' hC.2.1 hC'.2.1)).mono fun e w' h => by
    obtain ⟨h1, h2⟩ := h
    exact ⟨h1, h2⟩
end Go.Proofs.YtmfejjlmflgnbaaGreatDoor.Tok

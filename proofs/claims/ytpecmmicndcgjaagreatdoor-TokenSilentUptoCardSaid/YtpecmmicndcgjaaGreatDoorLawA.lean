/- PLAIN LAWS of the spec: what lies between tokens, what a token's bytes are, in whatever text they stand. -/
import Derived.Test.YtpecmmicndcgjaaGreatDoorGap
namespace Go.Proofs.YtpecmmicndcgjaaGreatDoor.Sp
set_option linter.unusedVariables false
set_option linter.unusedSimpArgs false

theorem u8_forall {p : UInt8 → Prop} (h : ∀ n : Fin 256, p (UInt8.ofNat n.1)) (c : UInt8) : p c := by
  have := h ⟨c.toNat, c.toNat_lt⟩
  simpa using this
def hp : Bs → Bool
  | [] => false
  | c :: _ => partB c
theorem part_blank (c : UInt8) : blankB c = true → partB c = false := u8_forall (p := fun c => blankB c = true → partB c = false) (by decide +kernel) c
theorem letter_fin (c : UInt8) : letterB c = true → blankB c = false ∧ c ≠ 47 := u8_forall (p := fun c => letterB c = true → blankB c = false ∧ c ≠ 47) (by decide +kernel) c
theorem digit_fin (c : UInt8) : digitB c = true → blankB c = false ∧ c ≠ 47 := u8_forall (p := fun c => digitB c = true → blankB c = false ∧ c ≠ 47) (by decide +kernel) c
theorem digit_letter (c : UInt8) : digitB c = true → letterB c = false := u8_forall (p := fun c => digitB c = true → letterB c = false) (by decide +kernel) c
theorem mark_fin (c : UInt8) : markK c ≠ 0 → blankB c = false ∧ c ≠ 47 ∧ letterB c = false ∧ digitB c = false ∧ c ≠ 34 ∧ 4 ≤ markK c ∧ markK c ≤ 8 ∧ markC (markK c) = c := u8_forall (p := fun c => markK c ≠ 0 → blankB c = false ∧ c ≠ 47 ∧ letterB c = false ∧ digitB c = false ∧ c ≠ 34 ∧ 4 ≤ markK c ∧ markK c ≤ 8 ∧ markC (markK c) = c) (by decide +kernel) c

/-! ### gaps -/
def Cut (m : Nat) (g : Bs) : Prop := ∀ N st M, M = N + g.length → gap m st N g = .ends M
def Nl (m : Nat) (g : Bs) : Prop := ∀ N st x M, M = N + g.length + 1 → gap m st N (g ++ 10 :: x) = gap 0 st M x
def Fin0 (r : Bs) : Prop := ∀ N st, gap 0 st N r = .ends N
theorem fin_nil : Fin0 [] := fun _ _ => rfl
theorem fin_cons {c : UInt8} (h : blankB c = false) (h2 : c ≠ 47) (r : Bs) : Fin0 (c :: r) := fun N st => by
  rw [gap0, h]; simp [h2]
theorem fin_slash1 : Fin0 [47] := fun N st => by rw [gap0]; simp [blankB]
theorem fin_slash (d : UInt8) (r : Bs) (h1 : d ≠ 47) (h2 : d ≠ 42) : Fin0 (47 :: d :: r) := fun N st => by rw [gap0]; simp [blankB, h1, h2]

theorem cut_nil (m : Nat) (h : m < 2) : Cut m [] := fun N st M hM => by
  subst hM
  match m, h with
  | 0, _ => rfl
  | 1, _ => rfl
theorem cut_blank {c : UInt8} (h : blankB c = true) {g : Bs} (hg : Cut 0 g) : Cut 0 (c :: g) := fun N st M hM => by
  rw [gap_blank h]; exact hg _ _ _ (by simp at hM; omega)
theorem cut_line {g : Bs} (hg : Cut 1 g) : Cut 0 (47 :: 47 :: g) := fun N st M hM => by
  rw [gap_line_open]; exact hg _ _ _ (by simp at hM; omega)
theorem cut_block {g : Bs} (hg : Cut 2 g) : Cut 0 (47 :: 42 :: g) := fun N st M hM => by
  rw [gap_block_open]; exact hg _ _ _ (by simp at hM; omega)
theorem cut_ten {g : Bs} (hg : Cut 0 g) : Cut 1 (10 :: g) := fun N st M hM => by
  simp only [gap, if_true]; exact hg _ _ _ (by simp at hM; omega)
theorem cut_step1 {c : UInt8} (h : c ≠ 10) {g : Bs} (hg : Cut 1 g) : Cut 1 (c :: g) := fun N st M hM => by
  simp only [gap, if_neg h]; exact hg _ _ _ (by simp at hM; omega)
theorem cut_close {g : Bs} (hg : Cut 0 g) : Cut 2 (42 :: 47 :: g) := fun N st M hM => by
  simp only [gap, and_self, if_true]; exact hg _ _ _ (by simp at hM; omega)
theorem cut_step2 {c d : UInt8} (h : ¬ (c = 42 ∧ d = 47)) {g : Bs} (hg : Cut 2 (d :: g)) : Cut 2 (c :: d :: g) := fun N st M hM => by
  simp only [gap, if_neg h]; exact hg _ _ _ (by simp at hM ⊢; omega)

theorem nl_nil (m : Nat) (h : m < 2) : Nl m [] := fun N st x M hM => by
  simp only [List.length_nil] at hM
  subst hM
  match m, h with
  | 0, _ => simp [gap_blank (c := 10) rfl]
  | 1, _ => simp [gap]
theorem nl_blank {c : UInt8} (h : blankB c = true) {g : Bs} (hg : Nl 0 g) : Nl 0 (c :: g) := fun N st x M hM => by
  rw [List.cons_append, gap_blank h]; exact hg _ _ _ _ (by simp at hM; omega)
theorem nl_line {g : Bs} (hg : Nl 1 g) : Nl 0 (47 :: 47 :: g) := fun N st x M hM => by
  rw [List.cons_append, List.cons_append, gap_line_open]; exact hg _ _ _ _ (by simp at hM; omega)
theorem nl_block {g : Bs} (hg : Nl 2 g) : Nl 0 (47 :: 42 :: g) := fun N st x M hM => by
  rw [List.cons_append, List.cons_append, gap_block_open, gap_st x st N]; exact hg _ _ _ _ (by simp at hM; omega)
theorem nl_ten {g : Bs} (hg : Nl 0 g) : Nl 1 (10 :: g) := fun N st x M hM => by
  simp only [List.cons_append, gap, if_true]; exact hg _ _ _ _ (by simp at hM; omega)
theorem nl_step1 {c : UInt8} (h : c ≠ 10) {g : Bs} (hg : Nl 1 g) : Nl 1 (c :: g) := fun N st x M hM => by
  simp only [List.cons_append, gap, if_neg h]; exact hg _ _ _ _ (by simp at hM; omega)
theorem nl_close {g : Bs} (hg : Nl 0 g) : Nl 2 (42 :: 47 :: g) := fun N st x M hM => by
  simp only [List.cons_append, gap, and_self, if_true]; exact hg _ _ _ _ (by simp at hM; omega)
theorem nl_step2 {c d : UInt8} (h : ¬ (c = 42 ∧ d = 47)) {g : Bs} (hg : Nl 2 (d :: g)) : Nl 2 (c :: d :: g) := fun N st x M hM => by
  simp only [List.cons_append, gap, if_neg h]
  have := hg (N + 1) st x M (by simp at hM ⊢; omega)
  rw [List.cons_append] at this
  exact this

def Sil (m : Nat) (g : Bs) : Prop := ∀ N st x M, M = N + g.length → gap m st N (g ++ x) = gap 0 st M x
theorem sil_nil : Sil 0 [] := fun N st x M hM => by
  simp only [List.length_nil] at hM
  subst hM
  rfl
theorem sil_blank {c : UInt8} (h : blankB c = true) {g : Bs} (hg : Sil 0 g) : Sil 0 (c :: g) := fun N st x M hM => by
  rw [List.cons_append, gap_blank h]; exact hg _ _ _ _ (by simp at hM; omega)
theorem sil_line {g : Bs} (hg : Sil 1 g) : Sil 0 (47 :: 47 :: g) := fun N st x M hM => by
  rw [List.cons_append, List.cons_append, gap_line_open]; exact hg _ _ _ _ (by simp at hM; omega)
theorem sil_block {g : Bs} (hg : Sil 2 g) : Sil 0 (47 :: 42 :: g) := fun N st x M hM => by
  rw [List.cons_append, List.cons_append, gap_block_open, gap_st x st N]; exact hg _ _ _ _ (by simp at hM; omega)
theorem sil_ten {g : Bs} (hg : Sil 0 g) : Sil 1 (10 :: g) := fun N st x M hM => by
  simp only [List.cons_append, gap, if_true]; exact hg _ _ _ _ (by simp at hM; omega)
theorem sil_step1 {c : UInt8} (h : c ≠ 10) {g : Bs} (hg : Sil 1 g) : Sil 1 (c :: g) := fun N st x M hM => by
  simp only [List.cons_append, gap, if_neg h]; exact hg _ _ _ _ (by simp at hM; omega)
theorem sil_close {g : Bs} (hg : Sil 0 g) : Sil 2 (42 :: 47 :: g) := fun N st x M hM => by
  simp only [List.cons_append, gap, and_self, if_true]; exact hg _ _ _ _ (by simp at hM; omega)
theorem sil_step2 {c d : UInt8} (h : ¬ (c = 42 ∧ d = 47)) {g : Bs} (hg : Sil 2 (d :: g)) : Sil 2 (c :: d :: g) := fun N st x M hM => by
  simp only [List.cons_append, gap, if_neg h]
  have := hg (N + 1) st x M (by simp at hM ⊢; omega)
  rw [List.cons_append] at this
  exact this

def GE (m : Nat) (l : Bs) : Prop := ∀ st n n', gap m st n l = .ends n' → ∃ g r, l = g ++ r ∧ n' = n + g.length ∧ Cut m g ∧ Nl m g ∧ Fin0 r ∧ (m = 0 → hp g = false) ∧ (r ≠ [] → Sil m g)
theorem ge_here {m : Nat} (h : m < 2) {n n' : Nat} {l : Bs} (e : Gap.ends n = .ends n') (hf : Fin0 l) (hm : m = 0 ∨ l = []) : ∃ g r, l = g ++ r ∧ n' = n + g.length ∧ Cut m g ∧ Nl m g ∧ Fin0 r ∧ (m = 0 → hp g = false) ∧ (r ≠ [] → Sil m g) := by
  injection e with e
  refine ⟨[], l, rfl, by simp [e], cut_nil m h, nl_nil m h, hf, fun _ => rfl, fun hne => ?_⟩
  rcases hm with rfl | h2
  · exact sil_nil
  · exact absurd h2 hne
theorem ge_all : ∀ (k : Nat) (l : Bs), l.length ≤ k → GE 0 l ∧ GE 1 l ∧ GE 2 l := by
  intro k
  induction k with
  | zero =>
    intro l hl
    obtain rfl := List.eq_nil_of_length_eq_zero (Nat.le_zero.1 hl)
    refine ⟨fun st n n' e => ge_here (by omega) e fin_nil (.inr rfl), fun st n n' e => ge_here (by omega) e fin_nil (.inr rfl), fun st n n' e => ?_⟩
    simp [gap] at e
  | succ k ih =>
    intro l hl
    cases l with
    | nil =>
      refine ⟨fun st n n' e => ge_here (by omega) e fin_nil (.inr rfl), fun st n n' e => ge_here (by omega) e fin_nil (.inr rfl), fun st n n' e => ?_⟩
      simp [gap] at e
    | cons c r =>
      have hr : r.length ≤ k := by simpa using hl
      obtain ⟨i0, i1, i2⟩ := ih r hr
      refine ⟨?_, ?_, ?_⟩
      · intro st n n' e
        by_cases hb : blankB c = true
        · rw [gap_blank hb] at e
          obtain ⟨g, r', rfl, rfl, hc, hn, hf, _, hs⟩ := i0 _ _ _ e
          exact ⟨c :: g, r', rfl, by simp; omega, cut_blank hb hc, nl_blank hb hn, hf, fun _ => part_blank c hb, fun h => sil_blank hb (hs h)⟩
        · have hb' : blankB c = false := by simpa using hb
          by_cases h47 : c = 47
          · subst h47
            cases r with
            | nil => rw [fin_slash1] at e; exact ge_here (by omega) e fin_slash1 (.inl rfl)
            | cons d r2 =>
              by_cases d47 : d = 47
              · subst d47
                rw [gap_line_open] at e
                obtain ⟨g, r', rfl, rfl, hc, hn, hf, _, hs⟩ := (ih r2 (by simp at hr; omega)).2.1 _ _ _ e
                exact ⟨47 :: 47 :: g, r', rfl, by simp; omega, cut_line hc, nl_line hn, hf, fun _ => rfl, fun h => sil_line (hs h)⟩
              · by_cases d42 : d = 42
                · subst d42
                  rw [gap_block_open] at e
                  obtain ⟨g, r', rfl, rfl, hc, hn, hf, _, hs⟩ := (ih r2 (by simp at hr; omega)).2.2 _ _ _ e
                  exact ⟨47 :: 42 :: g, r', rfl, by simp; omega, cut_block hc, nl_block hn, hf, fun _ => rfl, fun h => sil_block (hs h)⟩
                · rw [fin_slash d r2 d47 d42] at e; exact ge_here (by omega) e (fin_slash d r2 d47 d42) (.inl rfl)
          · rw [fin_cons hb' h47 r] at e; exact ge_here (by omega) e (fin_cons hb' h47 r) (.inl rfl)
      · intro st n n' e
        by_cases h10 : c = 10
        · subst h10
          simp only [gap, if_true] at e
          obtain ⟨g, r', rfl, rfl, hc, hn, hf, _, hs⟩ := i0 _ _ _ e
          exact ⟨10 :: g, r', rfl, by simp; omega, cut_ten hc, nl_ten hn, hf, (fun h => by omega), fun h => sil_ten (hs h)⟩
        · simp only [gap, if_neg h10] at e
          obtain ⟨g, r', rfl, rfl, hc, hn, hf, _, hs⟩ := i1 _ _ _ e
          exact ⟨c :: g, r', rfl, by simp; omega, cut_step1 h10 hc, nl_step1 h10 hn, hf, (fun h => by omega), fun h => sil_step1 h10 (hs h)⟩
      · intro st n n' e
        cases r with
        | nil => simp [gap] at e
        | cons d r2 =>
          by_cases hcd : c = 42 ∧ d = 47
          · obtain ⟨rfl, rfl⟩ := hcd
            simp only [gap, and_self, if_true] at e
            obtain ⟨g, r', rfl, rfl, hc, hn, hf, _, hs⟩ := (ih r2 (by simp at hr; omega)).1 _ _ _ e
            exact ⟨42 :: 47 :: g, r', rfl, by simp; omega, cut_close hc, nl_close hn, hf, (fun h => by omega), fun h => sil_close (hs h)⟩
          · simp only [gap, if_neg hcd] at e
            obtain ⟨g, r', hg, rfl, hc, hn, hf, _, hs⟩ := i2 _ _ _ e
            cases g with
            | nil => have := hc 0 0 0 rfl; simp [gap] at this
            | cons x g' =>
              rw [List.cons_append] at hg
              injection hg with h1 h2
              subst h1
              exact ⟨c :: d :: g', r', by rw [h2]; rfl, by simp; omega, cut_step2 hcd hc, nl_step2 hcd hn, hf, (fun h => by omega), fun h => sil_step2 hcd (hs h)⟩
theorem gap_ends {st n n' : Nat} {l : Bs} (e : gap 0 st n l = .ends n') : ∃ g r, l = g ++ r ∧ n' = n + g.length ∧ Cut 0 g ∧ Nl 0 g ∧ Fin0 r ∧ hp g = false ∧ (r ≠ [] → Sil 0 g) := by
  obtain ⟨g, r, h1, h2, h3, h4, h5, h6, h7⟩ := (ge_all l.length l (Nat.le_refl _)).1 _ _ _ e
  exact ⟨g, r, h1, h2, h3, h4, h5, h6 rfl, h7⟩

def GO (m : Nat) (l : Bs) : Prop := ∀ st n p, gap m st n l = .open_ p → (m = 2 ∧ p = st) ∨ ∃ g r, l = g ++ r ∧ p = n + g.length ∧ Cut m g
theorem go_all : ∀ (k : Nat) (l : Bs), l.length ≤ k → GO 0 l ∧ GO 1 l ∧ GO 2 l := by
  intro k
  induction k with
  | zero =>
    intro l hl
    obtain rfl := List.eq_nil_of_length_eq_zero (Nat.le_zero.1 hl)
    refine ⟨fun st n p e => by simp [gap] at e, fun st n p e => by simp [gap] at e, fun st n p e => ?_⟩
    simp [gap] at e
    exact .inl ⟨rfl, e.symm⟩
  | succ k ih =>
    intro l hl
    cases l with
    | nil =>
      refine ⟨fun st n p e => by simp [gap] at e, fun st n p e => by simp [gap] at e, fun st n p e => ?_⟩
      simp [gap] at e
      exact .inl ⟨rfl, e.symm⟩
    | cons c r =>
      have hr : r.length ≤ k := by simpa using hl
      obtain ⟨i0, i1, i2⟩ := ih r hr
      refine ⟨?_, ?_, ?_⟩
      · intro st n p e
        right
        by_cases hb : blankB c = true
        · rw [gap_blank hb] at e
          obtain ⟨h, _⟩ | ⟨g, r', rfl, rfl, hc⟩ := i0 _ _ _ e
          · omega
          · exact ⟨c :: g, r', rfl, by simp; omega, cut_blank hb hc⟩
        · have hb' : blankB c = false := by simpa using hb
          by_cases h47 : c = 47
          · subst h47
            cases r with
            | nil => rw [fin_slash1] at e; cases e
            | cons d r2 =>
              by_cases d47 : d = 47
              · subst d47
                rw [gap_line_open] at e
                obtain ⟨h, _⟩ | ⟨g, r', rfl, rfl, hc⟩ := (ih r2 (by simp at hr; omega)).2.1 _ _ _ e
                · omega
                · exact ⟨47 :: 47 :: g, r', rfl, by simp; omega, cut_line hc⟩
              · by_cases d42 : d = 42
                · subst d42
                  rw [gap_block_open] at e
                  obtain ⟨_, rfl⟩ | ⟨g, r', rfl, rfl, hc⟩ := (ih r2 (by simp at hr; omega)).2.2 _ _ _ e
                  · exact ⟨[], _, rfl, rfl, cut_nil 0 (by omega)⟩
                  · exact ⟨47 :: 42 :: g, r', rfl, by simp; omega, cut_block hc⟩
                · rw [fin_slash d r2 d47 d42] at e; cases e
          · rw [fin_cons hb' h47 r] at e; cases e
      · intro st n p e
        right
        by_cases h10 : c = 10
        · subst h10
          simp only [gap, if_true] at e
          obtain ⟨h, _⟩ | ⟨g, r', rfl, rfl, hc⟩ := i0 _ _ _ e
          · omega
          · exact ⟨10 :: g, r', rfl, by simp; omega, cut_ten hc⟩
        · simp only [gap, if_neg h10] at e
          obtain ⟨h, _⟩ | ⟨g, r', rfl, rfl, hc⟩ := i1 _ _ _ e
          · omega
          · exact ⟨c :: g, r', rfl, by simp; omega, cut_step1 h10 hc⟩
      · intro st n p e
        cases r with
        | nil => simp [gap] at e; exact .inl ⟨rfl, e.symm⟩
        | cons d r2 =>
          by_cases hcd : c = 42 ∧ d = 47
          · obtain ⟨rfl, rfl⟩ := hcd
            simp only [gap, and_self, if_true] at e
            obtain ⟨h, _⟩ | ⟨g, r', rfl, rfl, hc⟩ := (ih r2 (by simp at hr; omega)).1 _ _ _ e
            · omega
            · exact .inr ⟨42 :: 47 :: g, r', rfl, by simp; omega, cut_close hc⟩
          · simp only [gap, if_neg hcd] at e
            obtain ⟨_, rfl⟩ | ⟨g, r', hg, rfl, hc⟩ := i2 _ _ _ e
            · exact .inl ⟨rfl, rfl⟩
            · right
              cases g with
              | nil => have := hc 0 0 0 rfl; simp [gap] at this
              | cons x g' =>
                rw [List.cons_append] at hg
                injection hg with h1 h2
                subst h1
                exact ⟨c :: d :: g', r', by rw [h2]; rfl, by simp; omega, cut_step2 hcd hc⟩
theorem gap_open {st n p : Nat} {l : Bs} (e : gap 0 st n l = .open_ p) : ∃ g r, l = g ++ r ∧ p = n + g.length ∧ Cut 0 g := by
  obtain ⟨h, _⟩ | h := (go_all l.length l (Nat.le_refl _)).1 _ _ _ e
  · omega
  · exact h

/-! ### words -/
theorem wlen_cons (c : UInt8) (l : Bs) : wordLen (c :: l) = if partB c then wordLen l + 1 else 0 := by
  unfold wordLen
  rw [List.takeWhile_cons]
  split <;> simp
theorem wlen_le : ∀ l : Bs, wordLen l ≤ l.length
  | [] => Nat.le_refl _
  | c :: r => by
    rw [wlen_cons]
    have := wlen_le r
    split <;> simp <;> omega
theorem word_cut : ∀ (l r' : Bs), hp r' = false → wordLen (l.take (wordLen l) ++ r') = wordLen l
  | [], r', h => by
    cases r' with
    | nil => rfl
    | cons c r => simp only [hp] at h; simp [wlen_cons, h, wordLen]
  | c :: l, r', h => by
    rw [wlen_cons]
    cases hc : partB c with
    | true => simp only [if_true, List.take_succ_cons, List.cons_append, wlen_cons, hc]; rw [word_cut l r' h]
    | false =>
      simp only [Bool.false_eq_true, if_false, List.take_zero, List.nil_append]
      cases r' with
      | nil => rfl
      | cons c' r => simp only [hp] at h; simp [wlen_cons, h]
theorem word_drop : ∀ l : Bs, hp (l.drop (wordLen l)) = false
  | [] => rfl
  | c :: l => by
    rw [wlen_cons]
    cases hc : partB c with
    | true => simp only [if_true, List.drop_succ_cons]; exact word_drop l
    | false => simpa [hp] using hc
theorem word_all : ∀ l : Bs, (l.take (wordLen l)).all partB = true
  | [] => rfl
  | c :: l => by
    rw [wlen_cons]
    cases hc : partB c with
    | true => simp [hc, word_all l]
    | false => simp
theorem word_of_all (s : Bs) (h : s.all partB = true) (r : Bs) (hr : hp r = false) : wordLen (s ++ r) = s.length := by
  induction s with
  | nil =>
    cases r with
    | nil => rfl
    | cons c r => simp only [hp] at hr; simp [wlen_cons, hr]
  | cons c s ih =>
    simp only [List.all_cons, Bool.and_eq_true] at h
    simp [wlen_cons, h.1, ih h.2]
theorem take_app (s r : Bs) : (s ++ r).take s.length = s := by simp

/-! ### strings -/
theorem qcons (acc : Bs) (n : Nat) (c : UInt8) (r : Bs) : qstr acc n (c :: r) =
    if c = 34 then (if acc.length > 255 then .error (24, 0) else .ok (acc, n + 1))
    else if plainB c = false then .error (22, n)
    else if c = 92 then (match r with | [] => .error (22, n) | d :: r' => if d = 34 ∨ d = 92 then qstr (acc ++ [d]) (n + 2) r' else .error (22, n))
    else qstr (acc ++ [c]) (n + 1) r := by
  cases r with
  | nil => simp only [qstr]
  | cons d r' => simp only [qstr]
theorem qstr_ok : ∀ (k : Nat) (l : Bs), l.length ≤ k → ∀ acc n s e, qstr acc n l = .ok (s, e) → ∃ g r, l = g ++ r ∧ e = n + g.length ∧ 0 < g.length ∧ (∀ n' x, qstr acc n' (g ++ x) = .ok (s, n' + g.length)) ∧ (acc.all plainB = true → s.all plainB = true) ∧ s.length ≤ 255 := by
  intro k
  induction k with
  | zero =>
    intro l hl acc n s e h
    obtain rfl := List.eq_nil_of_length_eq_zero (Nat.le_zero.1 hl)
    simp [qstr] at h
  | succ k ih =>
    intro l hl acc n s e h
    cases l with
    | nil => simp [qstr] at h
    | cons c r =>
      have hr : r.length ≤ k := by simpa using hl
      by_cases c34 : c = 34
      · subst c34
        by_cases hl : acc.length > 255
        · simp [qcons, hl] at h
        · simp only [qcons, if_true, if_neg hl, Except.ok.injEq, Prod.mk.injEq] at h
          obtain ⟨rfl, rfl⟩ := h
          exact ⟨[34], r, rfl, rfl, by simp, fun n' x => by simp [qcons, hl], fun h => h, by omega⟩
      · by_cases hpl : plainB c = false
        · simp [qcons, c34, hpl] at h
        · have hpl' : plainB c = true := by simpa using hpl
          by_cases c92 : c = 92
          · subst c92
            cases r with
            | nil => simp [qcons, hpl'] at h
            | cons d r2 =>
              by_cases hd : d = 34 ∨ d = 92
              · simp only [qcons, if_neg c34, if_neg hpl, if_true, if_pos hd] at h
                obtain ⟨g, r', rfl, rfl, hg, hq, hall, hs⟩ := ih r2 (by simp at hr; omega) _ _ _ _ h
                refine ⟨92 :: d :: g, r', rfl, by simp; omega, by simp, fun n' x => ?_, fun ha => hall ?_, hs⟩
                · simp only [List.cons_append, qcons, if_neg c34, if_neg hpl, if_true, if_pos hd, hq]
                  simp; omega
                · rw [List.all_append, ha]
                  rcases hd with rfl | rfl <;> decide
              · simp [qcons, hpl', hd] at h
          · simp only [qcons, if_neg c34, if_neg hpl, if_neg c92] at h
            obtain ⟨g, r', rfl, rfl, hg, hq, hall, hs⟩ := ih r hr _ _ _ _ h
            refine ⟨c :: g, r', rfl, by simp; omega, by simp, fun n' x => ?_, fun ha => hall ?_, hs⟩
            · simp only [List.cons_append, qcons, if_neg c34, if_neg hpl, if_neg c92, hq]
              simp; omega
            · rw [List.all_append, ha]
              simp [hpl']
theorem qstr_err : ∀ (k : Nat) (l : Bs), l.length ≤ k → ∀ acc n c p, qstr acc n l = .error (c, p) → (c = 22 ∨ c = 24 ∧ p = 0) ∧ p ≤ n + l.length := by
  intro k
  induction k with
  | zero =>
    intro l hl acc n c p h
    obtain rfl := List.eq_nil_of_length_eq_zero (Nat.le_zero.1 hl)
    simp [qstr] at h
    omega
  | succ k ih =>
    intro l hl acc n c p h
    cases l with
    | nil => simp [qstr] at h; omega
    | cons x r =>
      have hr : r.length ≤ k := by simpa using hl
      by_cases c34 : x = 34
      · subst c34
        by_cases hl : acc.length > 255
        · simp [qcons, hl] at h; omega
        · simp [qcons, hl] at h
      · by_cases hpl : plainB x = false
        · simp [qcons, c34, hpl] at h; omega
        · by_cases c92 : x = 92
          · subst c92
            cases r with
            | nil => simp [qcons, hpl] at h; omega
            | cons d r2 =>
              by_cases hd : d = 34 ∨ d = 92
              · simp only [qcons, if_neg c34, if_neg hpl, if_true, if_pos hd] at h
                have := ih r2 (by simp at hr; omega) _ _ _ _ h
                simp; omega
              · simp [qcons, hpl, hd] at h; omega
          · simp only [qcons, if_neg c34, if_neg hpl, if_neg c92] at h
            have := ih r hr _ _ _ _ h
            simp; omega
end Go.Proofs.YtpecmmicndcgjaaGreatDoor.Sp

/- GAPS, in plain Lean: what the library's searches say of a comment's end. -/
import Derived.Test.YtpecmmicndcgjaaGreatDoorSpec
import Derived.Lib.Index
import Derived.Lib.Bytealg
import Derived.Lib.Strings
import Derived.Lib.IndexLaws
import Derived.Lib.IndexMore
namespace Go.Proofs.YtpecmmicndcgjaaGreatDoor.Sp
theorem gap0 (st n : Nat) (c : UInt8) (r : Bs) : gap 0 st n (c :: r) = if blankB c = true then gap 0 st (n + 1) r else if c = 47 then (match r with | [] => .ends n | d :: r' => if d = 47 then gap 1 st (n + 2) r' else if d = 42 then gap 2 n (n + 2) r' else .ends n) else .ends n := by
  cases r with
  | nil => simp only [gap]
  | cons d r' => simp only [gap]
theorem gap_st' : ∀ (k : Nat) (l : Bs), l.length ≤ k → ∀ (st st' n : Nat), gap 0 st n l = gap 0 st' n l ∧ gap 1 st n l = gap 1 st' n l := by
  intro k
  induction k with
  | zero =>
    intro l hl st st' n
    obtain rfl := List.eq_nil_of_length_eq_zero (Nat.le_zero.1 hl)
    exact ⟨rfl, rfl⟩
  | succ k ih =>
    intro l hl st st' n
    cases l with
    | nil => exact ⟨rfl, rfl⟩
    | cons c r =>
      have hr : r.length ≤ k := by simpa using hl
      constructor
      · simp only [gap0]
        split
        · exact (ih r hr st st' _).1
        · split
          · cases r with
            | nil => rfl
            | cons d r' =>
              simp only
              split
              · exact (ih r' (by simp at hr; omega) st st' _).2
              · rfl
          · rfl
      · simp only [gap]
        split
        · exact (ih r hr st st' _).1
        · exact (ih r hr st st' _).2
theorem gap_st (l : Bs) (st st' n : Nat) : gap 0 st n l = gap 0 st' n l := (gap_st' l.length l (Nat.le_refl _) st st' n).1

theorem gap_blank {c : UInt8} (h : blankB c = true) (st n : Nat) (r : Bs) : gap 0 st n (c :: r) = gap 0 st (n + 1) r := by rw [gap0, if_pos h]
theorem gap_line_open (st n : Nat) (r : Bs) : gap 0 st n (47 :: 47 :: r) = gap 1 st (n + 2) r := by simp [gap, blankB]
theorem gap_block_open (st n : Nat) (r : Bs) : gap 0 st n (47 :: 42 :: r) = gap 2 n (n + 2) r := by simp [gap, blankB]
theorem gap_here {c : UInt8} (h : blankB c = false) (st n : Nat) (r : Bs) (h1 : ¬ Lib.hasPrefix (c :: r) [47, 47] = true) (h2 : ¬ Lib.hasPrefix (c :: r) [47, 42] = true) : gap 0 st n (c :: r) = .ends n := by
  rw [gap0]
  simp only [h, Bool.false_eq_true, if_false]
  split
  · rename_i hc
    subst hc
    cases r with
    | nil => rfl
    | cons d r' =>
      simp only [Lib.hasPrefix, List.isPrefixOf] at h1 h2
      simp only
      rw [if_neg, if_neg]
      · intro e; subst e; exact h2 (by simp)
      · intro e; subst e; exact h1 (by simp)
  · rfl

theorem gap_line (st : Nat) : ∀ (l : Bs) (n : Nat), (Lib.indexByte l 10 = -1 → gap 1 st n l = .ends (n + l.length)) ∧ (∀ k : Nat, Lib.indexByte l 10 = k → gap 1 st n l = gap 0 st (n + k + 1) (l.drop (k + 1)))
  | [], n => ⟨fun _ => rfl, fun k h => by simp [Lib.indexByte] at h⟩
  | c :: r, n => by
    have ih := gap_line st r
    by_cases hc : c = 10
    · subst hc
      refine ⟨fun h => by simp [Lib.indexByte] at h, fun k h => ?_⟩
      simp [Lib.indexByte] at h
      obtain rfl : k = 0 := by omega
      simp [gap]
    · have hb : (c == 10) = false := by simpa using hc
      have hg := Lib.indexByte_ge r 10
      constructor
      · intro h
        simp only [Lib.indexByte, hb, Bool.false_eq_true, if_false] at h
        by_cases h1 : Lib.indexByte r 10 = -1
        · simp only [gap, if_neg hc]
          rw [(ih (n + 1)).1 h1]
          simp only [List.length_cons]
          congr 1
          omega
        · have : (Lib.indexByte r 10 == -1) = false := by simpa using h1
          rw [this] at h
          simp at h
          omega
      · intro k h
        simp only [Lib.indexByte, hb, Bool.false_eq_true, if_false] at h
        by_cases h1 : Lib.indexByte r 10 = -1
        · rw [h1] at h
          simp at h
        · have h2 : (Lib.indexByte r 10 == -1) = false := by simpa using h1
          rw [h2] at h
          simp at h
          obtain ⟨k', rfl⟩ : ∃ k', k = k' + 1 := ⟨k - 1, by omega⟩
          simp only [gap, if_neg hc, List.drop_succ_cons]
          rw [(ih (n + 1)).2 k' (by omega)]
          congr 1
          omega

theorem prefix_two (c : UInt8) (r : Bs) : [42, 47].isPrefixOf (c :: r) = true ↔ c = 42 ∧ ∃ r', r = 47 :: r' := by
  cases r with
  | nil => simp [List.isPrefixOf]
  | cons d r' =>
    simp only [List.isPrefixOf, Bool.and_true, Bool.and_eq_true, beq_iff_eq]
    constructor
    · rintro ⟨h1, h2⟩; exact ⟨h1.symm, r', by rw [h2]⟩
    · rintro ⟨h1, r2, h2⟩
      injection h2 with h2 h3
      exact ⟨h1.symm, h2.symm⟩
theorem gap_block (st : Nat) : ∀ (l : Bs) (n : Nat), (Lib.index l [42, 47] = -1 → gap 2 st n l = .open_ st) ∧ (∀ k : Nat, Lib.index l [42, 47] = k → gap 2 st n l = gap 0 st (n + k + 2) (l.drop (k + 2)))
  | [], n => ⟨fun _ => rfl, fun k h => by simp [Lib.index] at h⟩
  | c :: r, n => by
    have ih := gap_block st r
    by_cases hp : [42, 47].isPrefixOf (c :: r) = true
    · obtain ⟨rfl, r', rfl⟩ := (prefix_two c r).1 hp
      refine ⟨fun h => ?_, fun k h => ?_⟩
      · simp [Lib.index, hp] at h
      · simp [Lib.index, hp] at h
        obtain rfl : k = 0 := by omega
        simp [gap]
    · have hg := Lib.index_ge r [42, 47]
      have hstep : gap 2 st n (c :: r) = gap 2 st (n + 1) r := by
        cases r with
        | nil => rfl
        | cons d r' =>
          simp only [gap]
          rw [if_neg]
          rintro ⟨rfl, rfl⟩
          exact hp ((prefix_two _ _).2 ⟨rfl, r', rfl⟩)
      rw [hstep]
      constructor
      · intro h
        simp only [Lib.index, hp] at h
        by_cases h1 : Lib.index r [42, 47] = -1
        · exact (ih (n + 1)).1 h1
        · have : (Lib.index r [42, 47] == -1) = false := by simpa using h1
          rw [this] at h
          simp at h
          omega
      · intro k h
        simp only [Lib.index, hp] at h
        by_cases h1 : Lib.index r [42, 47] = -1
        · rw [h1] at h
          simp at h
        · have h2 : (Lib.index r [42, 47] == -1) = false := by simpa using h1
          rw [h2] at h
          simp at h
          obtain ⟨k', rfl⟩ : ∃ k', k = k' + 1 := ⟨k - 1, by omega⟩
          rw [(ih (n + 1)).2 k' (by omega)]
          simp only [List.drop_succ_cons]
          congr 1
          omega

theorem prefix_two' (l : Bs) (a b : UInt8) (h : Lib.hasPrefix l [a, b] = true) : ∃ r, l = a :: b :: r := by
  match l, h with
  | [], h => simp [Lib.hasPrefix, List.isPrefixOf] at h
  | [c], h => simp [Lib.hasPrefix, List.isPrefixOf] at h
  | c :: d :: r, h =>
    simp only [Lib.hasPrefix, List.isPrefixOf, Bool.and_true, Bool.and_eq_true, beq_iff_eq] at h
    exact ⟨r, by rw [h.1, h.2]⟩
theorem line_none {l : Bs} (h : Lib.hasPrefix l [47, 47] = true) (hi : Lib.indexByte l 10 < 0) (n : Nat) : gap 0 0 n l = .ends (n + l.length) := by
  obtain ⟨r, rfl⟩ := prefix_two' l _ _ h
  have hg := Lib.indexByte_ge r 10
  rw [gap_line_open]
  have : Lib.indexByte r 10 = -1 := by
    by_cases h1 : Lib.indexByte r 10 = -1
    · exact h1
    · have h2 : (Lib.indexByte r 10 == -1) = false := by simpa using h1
      have h3 : (Lib.indexByte r 10 + 1 == -1) = false := by simp; omega
      simp [Lib.indexByte, h2, h3] at hi
      omega
  rw [(gap_line 0 r (n + 2)).1 this]
  simp only [List.length_cons]
  congr 1
  omega
theorem line_some {l : Bs} (h : Lib.hasPrefix l [47, 47] = true) {k : Nat} (hi : Lib.indexByte l 10 = k) (n : Nat) : gap 0 0 n l = gap 0 0 (n + k + 1) (l.drop (k + 1)) := by
  obtain ⟨r, rfl⟩ := prefix_two' l _ _ h
  have hg := Lib.indexByte_ge r 10
  rw [gap_line_open]
  have h1 : ¬ Lib.indexByte r 10 = -1 := by
    intro h1
    simp [Lib.indexByte, h1] at hi
  have h2 : (Lib.indexByte r 10 == -1) = false := by simpa using h1
  have h3 : (Lib.indexByte r 10 + 1 == -1) = false := by simp; omega
  simp [Lib.indexByte, h2, h3] at hi
  obtain ⟨k', rfl⟩ : ∃ k', k = k' + 2 := ⟨k - 2, by omega⟩
  rw [(gap_line 0 r (n + 2)).2 k' (by omega)]
  simp only [List.drop_succ_cons]
  congr 1
  omega
theorem block_none {l : Bs} (h : Lib.hasPrefix l [47, 42] = true) (hi : Lib.index (l.drop 2) [42, 47] < 0) (n : Nat) : gap 0 0 n l = .open_ n := by
  obtain ⟨r, rfl⟩ := prefix_two' l _ _ h
  have hg := Lib.index_ge r [42, 47]
  simp only [List.drop_succ_cons, List.drop_zero] at hi
  rw [gap_block_open, (gap_block n r (n + 2)).1 (by omega)]
theorem block_some {l : Bs} (h : Lib.hasPrefix l [47, 42] = true) {k : Nat} (hi : Lib.index (l.drop 2) [42, 47] = k) (n : Nat) : gap 0 0 n l = gap 0 0 (n + k + 4) (l.drop (k + 4)) := by
  obtain ⟨r, rfl⟩ := prefix_two' l _ _ h
  simp only [List.drop_succ_cons, List.drop_zero] at hi
  rw [gap_block_open, (gap_block n r (n + 2)).2 k hi, gap_st _ n 0]
  simp only [List.drop_succ_cons]
  congr 1
  omega
theorem two_le {l : Bs} {a b : UInt8} (h : Lib.hasPrefix l [a, b] = true) : 2 ≤ l.length := by
  obtain ⟨r, rfl⟩ := prefix_two' l _ _ h
  simp
theorem byte_lt {l : Bs} {k : Nat} {c : UInt8} (h : Lib.indexByte l c = k) : k < l.length := by
  obtain ⟨h1, _⟩ := Lib.indexByte_some h
  exact (List.getElem?_eq_some_iff.1 h1).1
theorem index_lt {l : Bs} {k : Nat} (h : Lib.index l [42, 47] = k) : k + 2 ≤ l.length := by
  have := Lib.index_room l [42, 47] (by omega)
  simp at this
  omega
end Go.Proofs.YtpecmmicndcgjaaGreatDoor.Sp

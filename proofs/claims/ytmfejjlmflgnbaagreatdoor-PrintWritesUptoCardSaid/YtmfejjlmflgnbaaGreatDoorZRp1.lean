/- A part of the set. -/
import Derived.Test.YtmfejjlmflgnbaaGreatDoorZPrA
import Derived.Test.YtmfejjlmflgnbaaGreatDoorZRf
import Derived.Test.YtmfejjlmflgnbaaGreatDoorZPure
namespace Go.Proofs.YtmfejjlmflgnbaaGreatDoor.Tok
open Go.RowKit Go.Proofs.YtmfejjlmflgnbaaGreatDoor.PA Go.Proofs.YtmfejjlmflgnbaaGreatDoorW.PrintWords Go.Proofs.YtmfejjlmflgnbaaGreatDoorW.PrintLast Go.Proofs.YtmfejjlmflgnbaaGreatDoor.Sp Go.Proofs.YtmfejjlmflgnbaaGreatDoor.Tr
set_option linter.unusedVariables false
set_option linter.unusedSimpArgs false
set_option maxRecDepth 100000

theorem mvc {w W : World} {p : Addr} {v : Value} (B : Below w.heap.size w W) (h : w.cell? p = some v) : W.cell? p = some v := (B.cell (World.block_lt_of_cell? w _ h)).trans h
theorem dz {w W z : World} (D : Below w.heap.size w W) (h : Below W.heap.size W z) : Below w.heap.size w z := D.trans (h.mono D.size)
theorem dzd {w W z : World} (D : Below w.heap.size w W) (h : Below W.drew.heap.size W.drew z) : Below w.heap.size w z := D.drew.trans (h.mono D.drew.size)
theorem rspell_ok (k o l c : Int) (t : ByteArray) (v : Nat) (h : Bool) (w : World) (ht : t.size ≤ 100000000) (hv : v < 4294967296) (q : ByteArray) (hq : spellT k t.data.toList v h = some q.data.toList) :
    Calls Tryz.prog 98 #[.agg #[.int .i64 k, .int .i64 o, .int .i64 l, .int .i64 c, .string t, .int .u32 (v : Int), .bool h]] w fun e w' => e = .returned (.tuple #[.string q, .int .i64 0]) ∧ Below w.heap.size w w' := by
  have hs := rspell_spec k o l c t v h (t.size + 60) ht hv (Nat.le_refl _)
  rw [hq] at hs
  have e1 : spellR (some q.data.toList) = (q, 0) := rfl
  rw [e1] at hs
  exact (tappetref02_Spell.calls _ _ _ _ _ _ _ _ _ _ _ hs).mono fun e w' hp => by
    obtain ⟨he, hB⟩ := hp
    exact ⟨he, hB⟩
theorem rquoted_calls (t : ByteArray) (w : World) (hs : stringB (bs t) = true) (q : ByteArray) (hq : q.data.toList = quoteT (bs t)) :
    Calls Tryz.prog 51 #[.string t] w fun e w' => e = .returned (.string q) ∧ Below w.heap.size w w' := by
  have hsz : t.size ≤ 255 := by
    unfold stringB at hs
    simp only [Bool.and_eq_true, decide_eq_true_eq] at hs
    have := bs_len t
    omega
  have HC : Hid (∀ W, Calls Tryz.prog 98 #[.agg #[.int .i64 3, .int .i64 0, .int .i64 0, .int .i64 0, .string t, .int .u32 0, .bool false]] W fun e w' => e = .returned (.tuple #[.string q, .int .i64 0]) ∧ Below W.heap.size W w') :=
    Lib.hid (fun W => rspell_ok 3 0 0 0 t 0 false W (by omega) (by omega) q (by
      rw [hq]
      unfold spellT
      have : stringB t.data.toList = true := hs
      simp [this]
      try rfl))
  clear hs hq hsz
  go_enter Tryz.func51, Tryz.ntmps51
  go_wp2_with (first
    | (go_at_call 98; refine (HC.out _).mono ?_; rintro e w2 ⟨rfl, hB2⟩; have B2 := Lib.hid hB2; clear hB2))
  go_ret
  exact ⟨rfl, B2.out⟩
theorem blanks_succ (j : Nat) : blanksT (j + 1) = blanksT j ++ [32, 32] := by
  unfold blanksT
  rw [List.replicate_succ', List.flatten_append]
  rfl
theorem rblanks_calls (d : Nat) (w : World) (hd : d ≤ 3000000) (q : ByteArray) (hq : q.data.toList = blanksT d) :
    Calls Tryz.prog 99 #[.int .i64 (d : Int)] w fun e w' => e = .returned (.string q) ∧ Below w.heap.size w w' := by
  have HQ := Lib.hid hq
  have hx2 : (⟨#[32, 32]⟩ : ByteArray).size = 2 := rfl
  clear hq
  go_enter Tryz.func99, Tryz.ntmps99
  go_wp2_with fail
  go_loopw [3, 4] (fun sv v wr => ∃ (j : Nat) (x : ByteArray), sv = .string x ∧ v = .int .i64 (j : Int) ∧ j ≤ d ∧ Hid (x.data.toList = blanksT j) ∧ Hid (Below w.heap.size w wr)) (fun _ v _ => d - (intOf v).toNat)
  case atStart => exact ⟨0, _, rfl, by go_num, by omega, Lib.hid rfl, Lib.hid (Below.refl _ _)⟩
  case round =>
    obtain ⟨j, x, rfl, rfl, hj, X, BL⟩ := hrel
    have hxs : x.size = 2 * j := by
      have h1 := bs_len x
      have h2 := blanks_len j
      unfold bs at h1
      rw [X.out] at h1
      omega
    by_cases hlt : j < d
    · have hsz1 : ¬ 9223372036854775807 < x.size + 2 := by omega
      go_wp2_with fail
      exact ⟨⟨j + 1, _, rfl, by go_num, by omega, Lib.hid (by rw [blanks_succ, ← X.out]; simp), BL⟩, by simp [intOf]; omega⟩
    · obtain rfl : j = d := by omega
      have HE : Hid (x = q) := Lib.hid (by
        apply ByteArray.ext
        apply Array.toList_inj.1
        rw [X.out, HQ.out])
      go_wp2_with fail
      go_ret
      exact ⟨by show Ending.returned (Value.string x) = _; rw [HE.out], BL.out⟩
theorem rend_calls (noted : Bool) (t : ByteArray) (w : World) (hn : noteB noted t = true) (q : ByteArray) (hq : q.data.toList = endB noted t ++ [10]) :
    Calls Tryz.prog 53 #[.bool noted, .string t] w fun e w' => e = .returned (.string q) ∧ Below w.heap.size w w' := by
  cases noted with
  | true =>
    unfold noteB at hn
    rw [if_pos rfl] at hn
    obtain ⟨z, hz⟩ : ∃ z : ByteArray, z.data.toList = quoteT (bs t) := ⟨⟨(quoteT (bs t)).toArray⟩, by simp⟩
    have hzs : z.size ≤ 3000000000 := by
      have h0 : t.size ≤ 255 := by
        unfold stringB at hn
        simp only [Bool.and_eq_true, decide_eq_true_eq] at hn
        have := bs_len t
        omega
      have h1 := quote_len (bs t)
      have h2 := bs_len t
      have h3 := bs_len z
      unfold bs at h3
      rw [hz] at h3
      omega
    have HC := Lib.hid (fun W => rquoted_calls t W hn z hz)
    have HE : Hid ((⟨#[32, 58, 32]⟩ : ByteArray) ++ z ++ (⟨#[59, 10]⟩ : ByteArray) = q) := Lib.hid (cat3 (by
      rw [hq, hz]
      unfold endB
      rw [if_pos rfl]
      simp))
    have hx3 : (⟨#[32, 58, 32]⟩ : ByteArray).size = 3 := rfl
    have hx1 : (⟨#[59, 10]⟩ : ByteArray).size = 2 := rfl
    clear hn hz hq
    go_enter Tryz.func53, Tryz.ntmps53
    go_wp2_with (first
      | (go_at_call 51; refine (HC.out _).mono ?_; rintro e w2 ⟨rfl, hB2⟩; have B2 := Lib.hid hB2; clear hB2))
    go_ret
    exact ⟨by show Ending.returned (Value.string ((⟨#[32, 58, 32]⟩ : ByteArray) ++ z ++ (⟨#[59, 10]⟩ : ByteArray))) = _; rw [HE.out], B2.out⟩
  | false =>
    have HE : Hid (q = ⟨#[59, 10]⟩) := Lib.hid (by
      apply ByteArray.ext
      apply Array.toList_inj.1
      rw [hq]
      rfl)
    clear hn hq
    go_enter Tryz.func53, Tryz.ntmps53
    go_wp2_with fail
    go_ret
    exact ⟨by show Ending.returned (Value.string (⟨#[59, 10]⟩ : ByteArray)) = _; rw [HE.out], Below.refl _ _⟩
theorem val_cells {w w' : World} {k : Int} {t : ByteArray} {n : Int} {h : Bool} (hw : w' = w.alloc (.cells #[.int .i64 k, .string t, .int .u32 n, .bool h] 48)) : w'.cell? ⟨w.heap.size, 0, none⟩ = some (.int .i64 k) ∧ w'.cell? ⟨w.heap.size, 1, none⟩ = some (.string t) ∧ w'.cell? ⟨w.heap.size, 2, none⟩ = some (.int .u32 n) ∧ w'.cell? ⟨w.heap.size, 3, none⟩ = some (.bool h) ∧ Below w.heap.size w w' := by
  subst hw
  have g := heap_alloc_new w (.cells #[.int .i64 k, .string t, .int .u32 n, .bool h] 48)
  exact ⟨(cell_row g 0).trans rfl, (cell_row g 1).trans rfl, (cell_row g 2).trans rfl, (cell_row g 3).trans rfl, alloc_below _ _⟩
theorem rvalue_calls (k : Int) (t : ByteArray) (n : Nat) (h : Bool) (w : World) (hn : n < 4294967296) (hv : valB ⟨k, t, (n : Int), h⟩ = true) (q : ByteArray) (hq : q.data.toList = valT ⟨k, t, (n : Int), h⟩) :
    Calls Tryz.prog 100 #[.agg #[.int .i64 k, .string t, .int .u32 (n : Int), .bool h]] w fun e w' => e = .returned (.string q) ∧ Below w.heap.size w w' := by
  unfold valB at hv
  simp only at hv
  unfold valT at hq
  simp only at hq
  by_cases h1 : k = 1
  · subst h1
    rw [if_pos rfl] at hq
    have HE : Hid (t = q) := Lib.hid (by
      apply ByteArray.ext
      apply Array.toList_inj.1
      rw [hq]
      rfl)
    clear hv hq
    go_enter Tryz.func100, Tryz.ntmps100
    go_wp2_with fail
    go_ret
    exact ⟨by show Ending.returned (Value.string t) = _; rw [HE.out], alloc_below _ _⟩
  · rw [if_neg h1] at hv hq
    by_cases h3 : k = 3
    · subst h3
      rw [if_neg (by decide), if_pos rfl] at hv
      rw [if_pos rfl] at hq
      simp only [Bool.and_eq_true] at hv
      have HC := Lib.hid (fun W => rquoted_calls t W hv.2 q hq)
      clear hv hq h1
      have HB := Lib.hid (alloc_below w (.cells #[.int .i64 3, .string t, .int .u32 (n : Int), .bool h] 48))
      go_enter Tryz.func100, Tryz.ntmps100
      go_wp2_with (first
        | (go_at_call 51; refine (HC.out _).mono ?_; rintro e w2 ⟨rfl, hB2⟩; have B2 := Lib.hid (HB.out.trans (hB2.mono HB.out.size)); clear hB2))
      go_ret
      exact ⟨rfl, B2.out⟩
    · rw [if_neg h3] at hq
      by_cases h2 : k = 2
      · subst h2
        rw [if_pos rfl] at hv
        have HC : Hid (∀ W, Calls Tryz.prog 98 #[.agg #[.int .i64 2, .int .i64 0, .int .i64 0, .int .i64 0, .string ⟨#[]⟩, .int .u32 (n : Int), .bool h]] W fun e w' => e = .returned (.tuple #[.string q, .int .i64 0]) ∧ Below W.heap.size W w') :=
          Lib.hid (fun W => rspell_ok 2 0 0 0 ⟨#[]⟩ n h W (by decide) hn q (by
            rw [hq]
            unfold spellT
            cases h <;> simp))
        clear hv hq h1 h3
        have HB := Lib.hid (alloc_below w (.cells #[.int .i64 2, .string t, .int .u32 (n : Int), .bool h] 48))
        go_enter Tryz.func100, Tryz.ntmps100
        go_wp2_with (first
          | (go_at_call 98; refine (HC.out _).mono ?_; rintro e w2 ⟨rfl, hB2⟩; have B2 := Lib.hid (HB.out.trans (hB2.mono HB.out.size)); clear hB2))
        go_ret
        exact ⟨rfl, B2.out⟩
      · rw [if_neg h2, if_neg h3] at hv
        cases hv
end Go.Proofs.YtmfejjlmflgnbaaGreatDoor.Tok

/- OPENING A SLICE OF TOKENS: what the form says of it gives a row of tokens, its lengths, and its bulk. -/
import Derived.Test.YtpecmmicndcgjaaGreatDoorOpen
import Derived.DataReads
import Derived.DataElems
namespace Go.Proofs.YtpecmmicndcgjaaGreatDoor.Tok
open Go.ChangeShapes Go.WideShapes Go.ChangeAt Go.RowKit Go.Proofs.YtpecmmicndcgjaaGreatDoor.PA Go.Proofs.YtpecmmicndcgjaaGreatDoorW.PrintWords Go.Proofs.YtpecmmicndcgjaaGreatDoorW.PrintLast
set_option linter.unusedVariables false
set_option linter.unusedSimpArgs false
set_option maxRecDepth 100000

def tokCs (x : S34) : List Value := tokCellsL x.f0 x.f1.f0 x.f1.f1 x.f1.f2 x.f2 x.f3 x.f4
def tokDS {H : Type} (x : S34) : DataW H := tokD x.f0 x.f1.f0 x.f1.f1 x.f1.f2 x.f2 x.f3 x.f4
/-- Letters and values of a row of tokens. -/
def bulkS (l : List S34) : Nat := (l.map fun x => x.f2.size + 9).sum
theorem bulk_tokDS {H : Type} (x : S34) : Rows.uptoBulk (tokDS (H := H) x) = x.f2.size + 9 := by
  have e : x.f2.data.toList.length = x.f2.size := by rw [Array.length_toList]; rfl
  simp only [tokDS, tokD, Rows.uptoBulk, Rows.uptoBulkAll]
  omega
theorem bulk_toks {H : Type} : ∀ l : List S34, Rows.uptoBulkAll (l.map (tokDS (H := H))) = bulkS l
  | [] => by simp [Rows.uptoBulkAll, bulkS]
  | x :: l => by
    have := bulk_toks (H := H) l
    simp only [List.map_cons, Rows.uptoBulkAll, bulk_tokDS, this, bulkS, List.sum_cons]
theorem len_bulk : ∀ l : List S34, 9 * l.length ≤ bulkS l
  | [] => by simp [bulkS]
  | x :: l => by
    have := len_bulk l
    simp only [bulkS, List.map_cons, List.sum_cons, List.length_cons] at this ⊢
    omega
theorem size_bulk : ∀ (l : List S34) (x : S34), x ∈ l → x.f2.size ≤ bulkS l
  | y :: l, x, h => by
    simp only [bulkS, List.map_cons, List.sum_cons]
    rcases List.mem_cons.1 h with rfl | h
    · omega
    · have := size_bulk l x h
      unfold bulkS at this
      omega
theorem pick (n : Nat) (p : Nat → S34 → Prop) (h : ∀ i, i < n → ∃ x, p i x) : ∃ l : List S34, l.length = n ∧ ∀ (i : Nat) (x : S34), l[i]? = some x → i < n ∧ p i x := by
  induction n with
  | zero => exact ⟨[], rfl, fun i x hx => by simp at hx⟩
  | succ n ih =>
    obtain ⟨l, hl, hp⟩ := ih (fun i hi => h i (by omega))
    obtain ⟨x, hx⟩ := h n (by omega)
    refine ⟨l ++ [x], by simp [hl], fun i y hy => ?_⟩
    by_cases e : i < l.length
    · rw [List.getElem?_append_left e] at hy
      have := hp i y hy
      exact ⟨by omega, this.2⟩
    · rw [List.getElem?_append_right (by omega)] at hy
      have hi : i - l.length = 0 := by
        by_cases h0 : i - l.length = 0
        · exact h0
        · rw [List.getElem?_eq_none (by simp; omega)] at hy; cases hy
      rw [hi] at hy
      simp at hy
      subst hy
      have : i = n := by omega
      subst this
      exact ⟨by omega, hx⟩
theorem mapM_cell {w : World} {a : Addr} {n : Nat} {cs : List Value} (h : (List.range n).mapM (fun i => w.cell? (a.add i)) = some cs) (i : Nat) (u : Value) (hu : cs[i]? = some u) : w.cell? (a.add i) = some u := by
  have hl : cs.length = n := by simpa using mapM_some_length h
  have hi : i < n := by
    by_cases hi : i < n
    · exact hi
    · rw [List.getElem?_eq_none (by omega)] at hu; cases hu
  have := mapM_some_get h i i (by simp [hi])
  rw [this]; exact hu
theorem open_toks {H : Type} {enc : TypeId × Value → H} {W : World} {v : Value} {d : DataW H} {p : List MemPlace} {sp : Nat → Bool} {held : Bool} {base base' : Nat}
    (hv : Value.okWide Tryz.prog W .any base' 22 v) (h : DataW.Trod enc Tryz.prog W base sp held 22 v d p) :
    ∃ (A : Option Addr) (c : Nat) (l : List S34), v = .slice A l.length c ∧ l.length ≤ c ∧ Kd.C k34 W A l.length l ∧ (∀ x ∈ l, 0 ≤ x.f3 ∧ x.f3 < 4294967296) ∧ bulkS l ≤ Rows.uptoBulk d := by
  obtain ⟨A, len, cap, rfl⟩ := okWide_slice Tryz.underlying22 hv
  obtain ⟨fuel, hf⟩ := h
  rcases DataW.trod_slice Tryz.underlying22 hf with ⟨hcs, he⟩ | ⟨a, l0, c0, elems, rest, n, rfl, hcs, he, hb, hle, hmax, hlen, hel, _, _⟩
  · simp [Value.cells] at hcs
    obtain ⟨rfl, rfl, rfl⟩ := hcs
    refine ⟨none, 0, [], rfl, Nat.le_refl _, ⟨rfl, by simp, fun h => (by cases h)⟩, fun x hx => (by cases hx), by simp [bulkS]⟩
  · simp [Value.cells] at hcs
    obtain ⟨rfl, rfl, rfl⟩ := hcs
    obtain ⟨l, hl, hp⟩ := pick len (fun i x => (∀ (k : Nat) (u : Value), (tokCs x)[k]? = some u → W.cell? (a.add (i * 7 + k)) = some u) ∧ (0 ≤ x.f3 ∧ x.f3 < 4294967296) ∧ (elems[i]?).map (·.1) = some (tokDS x)) (fun i hi => by
      have h1 := hel i hi
      rw [cells_tok, List.getElem?_eq_getElem (by omega)] at h1
      obtain ⟨cs, hc, ht⟩ := Option.bind_eq_some_iff.1 h1
      obtain ⟨k, o, ln, c, t, m, b, rfl, ex, hm⟩ := open_tok ht
      refine ⟨⟨k, ⟨o, ln, c⟩, t, m, b⟩, fun k' u hu => ?_, ⟨by simp, by simp; omega⟩, ?_⟩
      · unfold World.cells? at hc
        split at hc
        · have := mapM_cell hc k' u hu
          rwa [Addr.add_add] at this
        · cases hc
      · rw [List.getElem?_eq_getElem (by omega), ex]; rfl)
    subst hl
    have hD : d = .slice (elems.map (·.1)) (rest.map (·.1)) := congrArg Prod.fst he
    have hE : elems.map (·.1) = l.map tokDS := by
      apply List.ext_getElem?
      intro i
      rw [List.getElem?_map, List.getElem?_map]
      by_cases hi : i < l.length
      · have := (hp i l[i] (List.getElem?_eq_getElem hi)).2.2.2
        rw [this, List.getElem?_eq_getElem hi]; rfl
      · rw [List.getElem?_eq_none (by omega), List.getElem?_eq_none (by omega)]; rfl
    refine ⟨some a, cap, l, rfl, hle, ⟨rfl, ?_, fun _ => ⟨a, rfl, fun j p hj => ⟨tokCs p, rfl, k34_mk W p, fun i u hu => (hp j p hj).2.1 i u hu⟩⟩⟩, fun x hx => ?_, ?_⟩
    · unfold maxLen at hmax; omega
    · obtain ⟨i, hi, rfl⟩ := List.getElem_of_mem hx
      exact (hp i _ (List.getElem?_eq_getElem hi)).2.2.1
    · rw [hD, hE]
      simp only [Rows.uptoBulk, bulk_toks]
      omega
end Go.Proofs.YtpecmmicndcgjaaGreatDoor.Tok

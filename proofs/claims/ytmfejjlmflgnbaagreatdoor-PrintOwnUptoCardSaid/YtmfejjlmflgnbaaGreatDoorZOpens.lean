/- PLAIN LAWS: what fits has a spelling; a list of attributes that fits, each of them fits. -/
import Derived.Test.YtmfejjlmflgnbaaGreatDoorZTree
import Derived.Test.YtmfejjlmflgnbaaGreatDoorZPrV
import Derived.Test.YtmfejjlmflgnbaaGreatDoorCards
import Derived.Test.YtmfejjlmflgnbaaGreatDoorZBase
import Derived.WalkKit
import Derived.ProofKit
import Derived.OpenShut
import Derived.ShutString
import Derived.Below
import Derived.Test.YtmfejjlmflgnbaaGreatDoorZPrG
import Derived.DataReads
import Derived.DataElems
namespace Go.Proofs.YtmfejjlmflgnbaaGreatDoor.Tok
open Go.RowKit Go.Proofs.YtmfejjlmflgnbaaGreatDoor.PA Go.Proofs.YtmfejjlmflgnbaaGreatDoorW.PrintWords Go.Proofs.YtmfejjlmflgnbaaGreatDoorW.PrintLast Go.Proofs.YtmfejjlmflgnbaaGreatDoor.Sp Go.Proofs.YtmfejjlmflgnbaaGreatDoor.Tr
set_option linter.unusedVariables false
set_option linter.unusedSimpArgs false
set_option maxRecDepth 100000

theorem spell_val (v : SV) (n : Nat) (hn : v.f2 = (n : Int)) (hv : valB v = true) : spellT (kindT v.f0) (bs v.f1) n v.f3 = some (valT v) := by
  obtain ⟨k, t, m, h⟩ := v
  simp only at hn
  subst hn
  unfold valB at hv
  simp only at hv
  unfold spellT valT kindT
  simp only
  by_cases h1 : k = 1
  · subst h1
    simp at hv
    simp [hv.1.1, hv.1.2, hv.2]
  · by_cases h2 : k = 2
    · subst h2
      simp at hv
      simp [hv]
      cases h <;> simp
    · by_cases h3 : k = 3
      · subst h3
        simp at hv
        simp [hv.1.1, hv.1.2, hv.2]
      · simp [h1, h2, h3] at hv
theorem val_text (v : SV) (n : Nat) (hn : v.f2 = (n : Int)) (hv : valB v = true) (hs : v.f1.size ≤ 1000000000) : ∃ q : ByteArray, spellT (kindT v.f0) v.f1.data.toList n v.f3 = some q.data.toList ∧ q.data.toList = valT v ∧ q.size ≤ 3000000000 := by
  refine ⟨⟨(valT v).toArray⟩, ?_, by simp, ?_⟩
  · have := spell_val v n hn hv
    simpa [bs] using this
  · show (valT v).toArray.size ≤ _
    have := val_len v
    rw [List.size_toArray]
    omega
theorem end_text (n : Bool) (s : ByteArray) (hs : s.size ≤ 1000000000) : ∃ q : ByteArray, q.data.toList = endB n s ∧ q.size ≤ 3000000000 := by
  refine ⟨⟨(endB n s).toArray⟩, by simp, ?_⟩
  show (endB n s).toArray.size ≤ _
  have := end_len n s
  rw [List.size_toArray]
  omega
theorem badL_all : ∀ (l : List SA) (p : List Int) (i d : Nat), badL l p i d = none → ∀ (j : Nat) (a : SA), l[j]? = some a → badA a (p ++ [((i + j : Nat) : Int)]) d = none
  | [], p, i, d, h, j, a, hx => by simp at hx
  | b :: r, p, i, d, h, 0, a, hx => by
    simp only [List.getElem?_cons_zero, Option.some.injEq] at hx
    subst hx
    rw [badL_cons] at h
    cases hb : badA b (p ++ [(i : Int)]) d with
    | none => first | rfl | exact hb
    | some q => rw [hb] at h; cases h
  | b :: r, p, i, d, h, j + 1, a, hx => by
    rw [badL_cons] at h
    cases hb : badA b (p ++ [(i : Int)]) d with
    | none =>
      rw [hb] at h
      have := badL_all r p (i + 1) d h j a (by simpa using hx)
      rwa [show i + 1 + j = i + (j + 1) by omega] at this
    | some q => rw [hb] at h; cases h
/-- It fits, wherever it stands. -/
def FitsA (a : SA) : Prop := ∃ p d, badA a p d = none
theorem fits_parts {a : SA} (h : FitsA a) : nameB (bs a.f0) = true ∧ valB a.f2 = true ∧ noteB a.f5 a.f6 = true ∧ (a.f3 = false → a.f4 = []) ∧ ∀ (j : Nat) (b : SA), a.f4[j]? = some b → FitsA b := by
  obtain ⟨p, d, h⟩ := h
  rw [badA_eq] at h
  cases hw : wrongA a d with
  | true => rw [hw, if_pos rfl] at h; cases h
  | false =>
    rw [hw, if_neg (by decide)] at h
    cases hl : badL a.f4 p 0 (d + 1) with
    | some q => rw [hl] at h; cases h
    | none =>
      rw [hl] at h
      simp only at h
      have hn : noteB a.f5 a.f6 = true := by
        cases hb : noteB a.f5 a.f6 with
        | true => rfl
        | false => rw [hb] at h; simp at h
      unfold wrongA at hw
      simp only [Bool.or_eq_false_iff, Bool.not_eq_false'] at hw
      obtain ⟨⟨⟨h1, h2⟩, h3⟩, h4⟩ := hw
      refine ⟨h1, h2, hn, fun e => ?_, fun j b hj => ⟨_, _, badL_all a.f4 p 0 (d + 1) hl j b hj⟩⟩
      rw [e] at h3
      simpa using h3
theorem fits_obj {o : SO} {k : Nat} (h : badO o k = none) : noteB o.f4 o.f5 = true ∧ ∀ (j : Nat) (b : SA), o.f3[j]? = some b → FitsA b := by
  unfold badO at h
  split at h
  · cases h
  · cases hl : badL o.f3 [(k : Int)] 0 1 with
    | some q => rw [hl] at h; cases h
    | none =>
      rw [hl] at h
      simp only at h
      refine ⟨?_, fun j b hj => ⟨_, _, badL_all o.f3 _ 0 1 hl j b hj⟩⟩
      cases hb : noteB o.f4 o.f5 with
      | true => rfl
      | false => rw [hb] at h; simp at h
theorem badOs_all : ∀ (l : List SO) (k : Nat), badOs l k = none → ∀ (j : Nat) (o : SO), l[j]? = some o → badO o (k + j) = none
  | [], k, h, j, o, hx => by simp at hx
  | b :: r, k, h, 0, o, hx => by
    simp only [List.getElem?_cons_zero, Option.some.injEq] at hx
    subst hx
    unfold badOs at h
    cases hb : badO b k with
    | none => first | rfl | exact hb
    | some q => rw [hb] at h; cases h
  | b :: r, k, h, j + 1, o, hx => by
    unfold badOs at h
    cases hb : badO b k with
    | none =>
      rw [hb] at h
      have := badOs_all r (k + 1) h j o (by simpa using hx)
      rwa [show k + 1 + j = k + (j + 1) by omega] at this
    | some q => rw [hb] at h; cases h
theorem fits_tree {t : ST} (h : badT t = none) : stringB (bs t.f0) = true ∧ noteB t.f3 t.f4 = true ∧ badOs t.f2 0 = none := by
  unfold badT at h
  split at h
  · cases h
  · rename_i hc
    cases hl : badOs t.f2 0 with
    | some q => rw [hl] at h; cases h
    | none =>
      rw [hl] at h
      simp only at h
      refine ⟨?_, ?_, rfl⟩
      · cases hb : stringB (bs t.f0) with
        | true => rfl
        | false => exact absurd (by simp [hb]) hc
      · cases hb : noteB t.f3 t.f4 with
        | true => rfl
        | false => rw [hb] at h; simp at h
end Go.Proofs.YtmfejjlmflgnbaaGreatDoor.Tok
/- OPENING THE ARGUMENTS: a token by value, and a slice of tokens, out of what the form says of them. -/
namespace Go.Proofs.YtmfejjlmflgnbaaGreatDoor.Tok
open Go.ChangeShapes Go.WideShapes Go.ChangeAt Go.RowKit Go.Proofs.YtmfejjlmflgnbaaGreatDoor.PA Go.Proofs.YtmfejjlmflgnbaaGreatDoorW.PrintWords Go.Proofs.YtmfejjlmflgnbaaGreatDoorW.PrintLast
set_option linter.unusedVariables false
set_option linter.unusedSimpArgs false
set_option maxRecDepth 100000

theorem laidOut : laidOutB Tryz.prog = true := by kernel_rfl
theorem cells_tok : Tryz.prog.cellsOf 104 = 7 := by kernel_rfl
theorem cells_at : Tryz.prog.cellsOf 41 = 3 := by kernel_rfl
theorem cells_kind : Tryz.prog.cellsOf 102 = 1 := by kernel_rfl
theorem cells_int : Tryz.prog.cellsOf 3 = 1 := by kernel_rfl
theorem cells_str : Tryz.prog.cellsOf 9 = 1 := by kernel_rfl
theorem cells_num : Tryz.prog.cellsOf 46 = 1 := by kernel_rfl
theorem cells_bool : Tryz.prog.cellsOf 4 = 1 := by kernel_rfl
def tokCellsL (k o l c : Int) (t : ByteArray) (v : Int) (h : Bool) : List Value := [.int .i64 k, .int .i64 o, .int .i64 l, .int .i64 c, .string t, .int .u32 v, .bool h]
def tokD {H : Type} (k o l c : Int) (t : ByteArray) (v : Int) (h : Bool) : DataW H := .agg [.lit (.int .i64 k), .agg [.lit (.int .i64 o), .lit (.int .i64 l), .lit (.int .i64 c)], .lit (.string t.data.toList), .lit (.int .u32 v), .lit (.bool h)]
theorem open_at {H : Type} {enc : TypeId × Value → H} {W : World} {base : Nat} {sp : Nat → Bool} {held : Bool} {fuel : Nat} {cs : List Value} {x : DataW H × List MemPlace}
    (hf : DataW.trod enc Tryz.prog W base sp held fuel 41 cs = some x) :
    ∃ o l c, cs = [.int .i64 o, .int .i64 l, .int .i64 c] ∧ x = (.agg [.lit (.int .i64 o), .lit (.int .i64 l), .lit (.int .i64 c)], []) := by
  obtain ⟨xs, n, rfl, rfl, hl, hn, hg⟩ := DataW.trod_struct Tryz.underlying41 hf
  rw [cells_at] at hl
  have hn3 : xs.length = 3 := hn
  match cs, hl with
  | [c0, c1, c2], _ =>
    match xs, hn3 with
    | [x0, x1, x2], _ =>
      have g0 := hg 0 _ rfl
      have g1 := hg 1 _ rfl
      have g2 := hg 2 _ rfl
      simp only [cells_int, List.drop_zero, List.drop_succ_cons, List.take_succ_cons, List.take_zero, List.getElem?_cons_zero, List.getElem?_cons_succ] at g0 g1 g2
      obtain ⟨o, e0, rfl, _⟩ := DataW.trod_int Tryz.underlying3 g0
      obtain ⟨l, e1, rfl, _⟩ := DataW.trod_int Tryz.underlying3 g1
      obtain ⟨c, e2, rfl, _⟩ := DataW.trod_int Tryz.underlying3 g2
      cases e0; cases e1; cases e2
      exact ⟨o, l, c, rfl, rfl⟩
theorem open_tok {H : Type} {enc : TypeId × Value → H} {W : World} {base : Nat} {sp : Nat → Bool} {held : Bool} {fuel : Nat} {cs : List Value} {x : DataW H × List MemPlace}
    (hf : DataW.trod enc Tryz.prog W base sp held fuel 104 cs = some x) :
    ∃ (k o l c : Int) (t : ByteArray) (v : Nat) (h : Bool), cs = tokCellsL k o l c t v h ∧ x = (tokD k o l c t v h, []) ∧ v < 4294967296 := by
  obtain ⟨xs, n, rfl, rfl, hl, hn, hg⟩ := DataW.trod_struct Tryz.underlying104 hf
  rw [cells_tok] at hl
  have hn5 : xs.length = 5 := hn
  match cs, hl with
  | [c0, c1, c2, c3, c4, c5, c6], _ =>
    match xs, hn5 with
    | [x0, x1, x2, x3, x4], _ =>
      have g0 := hg 0 _ rfl
      have g1 := hg 1 _ rfl
      have g2 := hg 2 _ rfl
      have g3 := hg 3 _ rfl
      have g4 := hg 4 _ rfl
      simp only [cells_kind, cells_at, cells_str, cells_num, cells_bool, List.drop_zero, List.drop_succ_cons, List.take_succ_cons, List.take_zero, List.getElem?_cons_zero, List.getElem?_cons_succ] at g0 g1 g2 g3 g4
      obtain ⟨k, e0, rfl, _⟩ := DataW.trod_int Tryz.underlying102 g0
      obtain ⟨o, l, c, e1, rfl⟩ := open_at g1
      obtain ⟨t, e2, rfl, _⟩ := DataW.trod_string Tryz.underlying9 g2
      obtain ⟨v, e3, rfl, wv⟩ := DataW.trod_int Tryz.underlying46 g3
      obtain ⟨h, e4, rfl⟩ := DataW.trod_bool Tryz.underlying4 g4
      have hb := Go.bounds_u32 wv
      obtain ⟨m, rfl⟩ : ∃ m : Nat, v = (m : Int) := ⟨v.toNat, by omega⟩
      cases e0; cases e1; cases e2; cases e3; cases e4
      exact ⟨k, o, l, c, t, m, h, rfl, rfl, by omega⟩
/-- A token's bulk is above its text's length. -/
theorem bulk_tok {H : Type} (k o l c : Int) (t : ByteArray) (v : Int) (h : Bool) : t.size ≤ Rows.uptoBulk (tokD (H := H) k o l c t v h) := by
  have e : t.data.toList.length = t.size := by rw [Array.length_toList]; rfl
  simp only [tokD, Rows.uptoBulk, Rows.uptoBulkAll]
  omega
/-- A token by value. -/
theorem open_tokV {H : Type} {enc : TypeId × Value → H} {W : World} {v : Value} {d : DataW H} {p : List MemPlace} {sp : Nat → Bool} {held : Bool} {base base' : Nat}
    (hv : Value.okWide Tryz.prog W .any base' 104 v) (h : DataW.Trod enc Tryz.prog W base sp held 104 v d p) :
    ∃ (k o l c : Int) (t : ByteArray) (n : Nat) (b : Bool), v = .agg #[.int .i64 k, .int .i64 o, .int .i64 l, .int .i64 c, .string t, .int .u32 n, .bool b] ∧ d = tokD k o l c t n b ∧ n < 4294967296 := by
  obtain ⟨cs, rfl, hsz⟩ := okWide_struct Tryz.underlying104 hv
  obtain ⟨fuel, hf⟩ := h
  obtain ⟨k, o, l, c, t, n, b, e, ex, hn⟩ := open_tok hf
  have e' : cs.toList = tokCellsL k o l c t n b := e
  refine ⟨k, o, l, c, t, n, b, ?_, congrArg Prod.fst ex, hn⟩
  congr 1
  apply Array.toList_inj.1
  rw [e']; rfl
/-- An argument that the call left alone reads as before. -/
theorem shut_below {H : Type} {enc : TypeId × Value → H} {W W' : World} {ty : TypeId} {v : Value} {d : DataW H} {p : List MemPlace} (ht : ty < Tryz.prog.types.size)
    (h : DataW.Trod enc Tryz.prog W 0 (fun _ => true) true ty v d p) (bel : Below W.heap.size W W') (rr : Tryz.prog.readableRec ty = true) : DataW.Trod enc Tryz.prog W' 0 (fun b => decide (b < W.heap.size)) true ty v d p :=
  Below.trod laidOut rr ht h bel (fun x hx => by obtain ⟨m, hm⟩ := h; exact DataW.trod_lt m _ _ _ hm x hx)
end Go.Proofs.YtmfejjlmflgnbaaGreatDoor.Tok
/- OPENING A TREE: what the form says of an argument of type api.Tree gives a tree over the printed types, its rows of objects and attributes, its numbers and sizes. -/
namespace Go.Proofs.YtmfejjlmflgnbaaGreatDoor.Tok
open Go.ChangeShapes Go.WideShapes Go.ChangeAt Go.RowKit Go.Proofs.YtmfejjlmflgnbaaGreatDoor.PA Go.Proofs.YtmfejjlmflgnbaaGreatDoorW.PrintWords Go.Proofs.YtmfejjlmflgnbaaGreatDoorW.PrintLast Go.Proofs.YtmfejjlmflgnbaaGreatDoor.Tr
set_option linter.unusedVariables false
set_option linter.unusedSimpArgs false
set_option maxRecDepth 100000

mutual
/-- Letters and attributes of one, all in it. -/
def wtA : SA → Nat
  | ⟨n, sp, v, br, ps, noted, note⟩ => n.size + v.f1.size + note.size + 5 + wtL ps
def wtL : List SA → Nat
  | [] => 0
  | a :: r => wtA a + wtL r
end
theorem wtA_eq (a : SA) : wtA a = a.f0.size + a.f2.f1.size + a.f6.size + 5 + wtL a.f4 := by cases a; simp only [wtA]
mutual
def rgA : SA → Prop
  | ⟨n, sp, v, br, ps, noted, note⟩ => (0 ≤ v.f2 ∧ v.f2 < 4294967296) ∧ rgL ps
def rgL : List SA → Prop
  | [] => True
  | a :: r => rgA a ∧ rgL r
end
theorem rgA_eq (a : SA) : rgA a ↔ (0 ≤ a.f2.f2 ∧ a.f2.f2 < 4294967296) ∧ rgL a.f4 := by cases a; simp only [rgA]
theorem rgL_of : ∀ l : List SA, (∀ a ∈ l, rgA a) → rgL l
  | [], _ => by simp only [rgL]
  | a :: r, h => by
    simp only [rgL]
    exact ⟨h a (by simp), rgL_of r (fun b hb => h b (by simp [hb]))⟩
theorem wtL_sum : ∀ l : List SA, (l.map wtA).sum = wtL l
  | [] => by simp [wtL]
  | a :: r => by
    have := wtL_sum r
    simp only [List.map_cons, List.sum_cons, wtL]
    omega
mutual
theorem cnt_wt : ∀ a : SA, cntA a ≤ wtA a
  | ⟨n, sp, v, br, ps, noted, note⟩ => by
    have := cnt_wtL ps
    simp only [cntA, wtA]
    omega
theorem cnt_wtL : ∀ l : List SA, cntL l ≤ wtL l
  | [] => by simp [cntL]
  | a :: r => by
    have := cnt_wt a
    have := cnt_wtL r
    simp only [cntL, wtL]
    omega
end
mutual
theorem wf_rg : ∀ a : SA, rgA a → wtA a ≤ 1000000000 → wfA a
  | ⟨n, sp, v, br, ps, noted, note⟩, hr, hw => by
    simp only [rgA] at hr
    simp only [wtA] at hw
    have := wf_rgL ps hr.2 (by omega)
    simp only [wfA]
    exact ⟨⟨hr.1, by omega, by omega⟩, this⟩
theorem wf_rgL : ∀ l : List SA, rgL l → wtL l ≤ 1000000000 → wfL l
  | [], _, _ => by simp only [wfL]
  | a :: r, hr, hw => by
    simp only [rgL] at hr
    simp only [wtL] at hw
    simp only [wfL]
    exact ⟨wf_rg a hr.1 (by omega), wf_rgL r hr.2 (by omega)⟩
end
theorem pickR {α : Type} (n : Nat) (p : Nat → α → Prop) (h : ∀ i, i < n → ∃ x, p i x) : ∃ l : List α, l.length = n ∧ ∀ (i : Nat) (x : α), l[i]? = some x → i < n ∧ p i x := by
  induction n with
  | zero => exact ⟨[], rfl, fun i x hx => by simp at hx⟩
  | succ n ih =>
    obtain ⟨l, hl, hp⟩ := ih (fun i hi => h i (by omega))
    obtain ⟨x, hx⟩ := h n (by omega)
    refine ⟨l ++ [x], by simp [hl], fun i y hy => ?_⟩
    by_cases e : i < l.length
    · rw [List.getElem?_append_left e] at hy
      have := hp i y hy
      exact ⟨by omega, this.2⟩
    · rw [List.getElem?_append_right (by omega)] at hy
      have hi : i - l.length = 0 := by
        by_cases h0 : i - l.length = 0
        · exact h0
        · rw [List.getElem?_eq_none (by simp; omega)] at hy; cases hy
      rw [hi] at hy
      simp at hy
      subst hy
      have : i = n := by omega
      subst this
      exact ⟨by omega, hx⟩
theorem sum_bulk {H α : Type} (wt : α → Nat) : ∀ (l : List α) (es : List (DataW H)), es.length = l.length → (∀ (i : Nat) (p : α) (d : DataW H), l[i]? = some p → es[i]? = some d → wt p ≤ Rows.uptoBulk d) → (l.map wt).sum ≤ Rows.uptoBulkAll es
  | [], es, _, _ => by simp
  | p :: l, [], h, _ => by simp at h
  | p :: l, d :: es, h, hw => by
    have h0 := hw 0 p d rfl rfl
    have h1 := sum_bulk wt l es (by simpa using h) (fun i q e hq he => hw (i + 1) q e (by simpa using hq) (by simpa using he))
    simp only [List.map_cons, List.sum_cons, Rows.uptoBulkAll]
    omega
/-- A row of elements, each of which is opened. -/
theorem open_row {H : Type} {enc : TypeId × Value → H} {W : World} {base : Nat} {sp : Nat → Bool} {held : Bool} {α : Type} (k : Kd α) (wt : α → Nat) (R : α → Prop) (e sl : TypeId) (hu : Tryz.prog.underlying sl = some (.slice e)) (hsz : Tryz.prog.cellsOf e = k.sz)
    {fuel : Nat} {cs : List Value} {x : DataW H × List MemPlace} (hf : DataW.trod enc Tryz.prog W base sp held fuel sl cs = some x)
    (hE : ∀ n, n < fuel → ∀ cs (y : DataW H × List MemPlace), DataW.trod enc Tryz.prog W base sp held n e cs = some y → ∃ p, k.K W p cs ∧ R p ∧ wt p ≤ Rows.uptoBulk y.1) :
    ∃ (A : Option Addr) (c : Nat) (l : List α), cs = [.slice A l.length c] ∧ l.length ≤ c ∧ Kd.C k W A l.length l ∧ (∀ p ∈ l, R p) ∧ (l.map wt).sum + 1 ≤ Rows.uptoBulk x.1 := by
  rcases DataW.trod_slice hu hf with ⟨hcs, he⟩ | ⟨a, l0, c0, elems, rest, n, rfl, hcs, he, hb, hle, hmax, hlen, hel, _, _⟩
  · subst he
    exact ⟨none, 0, [], hcs, Nat.le_refl _, ⟨rfl, by simp, fun h => absurd h (by simp)⟩, fun p hp => (by cases hp), by simp [Rows.uptoBulk]⟩
  · obtain ⟨l, hl, hp⟩ := pickR l0 (fun i (p : α) => ∃ c, c.length = k.sz ∧ k.K W p c ∧ (∀ (j : Nat) (u : Value), c[j]? = some u → W.cell? (a.add (i * k.sz + j)) = some u) ∧ R p ∧ ∃ d, (elems.map (·.1))[i]? = some d ∧ wt p ≤ Rows.uptoBulk d) (fun i hi => by
      have h1 := hel i hi
      rw [List.getElem?_eq_getElem (by omega)] at h1
      obtain ⟨c, hc, ht⟩ := Option.bind_eq_some_iff.1 h1
      obtain ⟨_, hcl, hcc⟩ := World.cells?_some hc
      obtain ⟨p, hK, hR, hw⟩ := hE n (by omega) c _ ht
      refine ⟨p, c, by rw [hcl, hsz], hK, fun j u hu => ?_, hR, _, by rw [List.getElem?_map, List.getElem?_eq_getElem (by omega)]; rfl, hw⟩
      have hj : j < c.length := (List.getElem?_eq_some_iff.1 hu).1
      have := hcc j (by omega)
      rw [Addr.add_add, hsz] at this
      rw [this, hu])
    subst hl
    have hD : x.1 = .slice (elems.map (·.1)) (rest.map (·.1)) := congrArg Prod.fst he
    refine ⟨some a, c0, l, hcs, hle, ⟨rfl, by unfold maxLen at hmax; omega, fun _ => ⟨a, rfl, fun j p hj => ?_⟩⟩, fun p hpm => ?_, ?_⟩
    · obtain ⟨_, c, h1, h2, h3, _⟩ := hp j p hj
      exact ⟨c, h1, h2, h3⟩
    · obtain ⟨i, hi, rfl⟩ := List.getElem_of_mem hpm
      obtain ⟨_, c, _, _, _, h4, _⟩ := hp i _ (List.getElem?_eq_getElem hi)
      exact h4
    · rw [hD]
      have := sum_bulk wt l (elems.map (·.1)) (by simp [hlen]) (fun i p d hq hd => by
        obtain ⟨_, c, _, _, _, _, d', hd', hw⟩ := hp i p hq
        rw [hd] at hd'
        cases hd'
        exact hw)
      simp only [Rows.uptoBulk]
      omega
theorem cells_attr : Tryz.prog.cellsOf 50 = 12 := by kernel_rfl
theorem cells_val : Tryz.prog.cellsOf 48 = 4 := by kernel_rfl
theorem cells_vkind : Tryz.prog.cellsOf 45 = 1 := by kernel_rfl
theorem cells_attrs : Tryz.prog.cellsOf 42 = 1 := by kernel_rfl
theorem cells_obj : Tryz.prog.cellsOf 44 = 8 := by kernel_rfl
theorem cells_objs : Tryz.prog.cellsOf 22 = 1 := by kernel_rfl
theorem cells_tree : Tryz.prog.cellsOf 24 = 5 := by kernel_rfl
theorem str_len (t : ByteArray) : t.data.toList.length = t.size := by rw [Array.length_toList]; rfl
theorem open_val {H : Type} {enc : TypeId × Value → H} {W : World} {base : Nat} {sp : Nat → Bool} {held : Bool} {fuel : Nat} {cs : List Value} {x : DataW H × List MemPlace}
    (hf : DataW.trod enc Tryz.prog W base sp held fuel 48 cs = some x) :
    ∃ v : SV, cs = [.int .i64 v.f0, .string v.f1, .int .u32 v.f2, .bool v.f3] ∧ (0 ≤ v.f2 ∧ v.f2 < 4294967296) ∧ v.f1.size ≤ Rows.uptoBulk x.1 := by
  obtain ⟨xs, n, rfl, rfl, hl, hn, hg⟩ := DataW.trod_struct Tryz.underlying48 hf
  rw [cells_val] at hl
  have hn4 : xs.length = 4 := hn
  match cs, hl with
  | [c0, c1, c2, c3], _ =>
    match xs, hn4 with
    | [x0, x1, x2, x3], _ =>
      have g0 := hg 0 _ rfl
      have g1 := hg 1 _ rfl
      have g2 := hg 2 _ rfl
      have g3 := hg 3 _ rfl
      simp only [cells_vkind, cells_str, cells_num, cells_bool, List.drop_zero, List.drop_succ_cons, List.take_succ_cons, List.take_zero, List.getElem?_cons_zero, List.getElem?_cons_succ] at g0 g1 g2 g3
      obtain ⟨k, e0, rfl, _⟩ := DataW.trod_int Tryz.underlying45 g0
      obtain ⟨t, e1, rfl, _⟩ := DataW.trod_string Tryz.underlying9 g1
      obtain ⟨v, e2, rfl, wv⟩ := DataW.trod_int Tryz.underlying46 g2
      obtain ⟨h, e3, rfl⟩ := DataW.trod_bool Tryz.underlying4 g3
      have hb := Go.bounds_u32 wv
      cases e0; cases e1; cases e2; cases e3
      have e := str_len t
      exact ⟨⟨k, t, v, h⟩, rfl, ⟨by simpa using hb.1, by simp at hb ⊢; omega⟩, by simp only [List.map_cons, List.map_nil, Rows.uptoBulk, Rows.uptoBulkAll]; omega⟩
theorem open_attr {H : Type} {enc : TypeId × Value → H} {W : World} {base : Nat} {sp : Nat → Bool} {held : Bool} : ∀ (fuel : Nat) (cs : List Value) (x : DataW H × List MemPlace),
    DataW.trod enc Tryz.prog W base sp held fuel 50 cs = some x → ∃ a : SA, k50.K W a cs ∧ rgA a ∧ wtA a ≤ Rows.uptoBulk x.1 := by
  intro fuel
  induction fuel using Nat.strongRecOn with
  | ind fuel ih =>
    intro cs x hf
    obtain ⟨xs, n, rfl, rfl, hl, hn, hg⟩ := DataW.trod_struct Tryz.underlying50 hf
    rw [cells_attr] at hl
    have hn7 : xs.length = 7 := hn
    match cs, hl with
    | [c0, c1, c2, c3, c4, c5, c6, c7, c8, c9, c10, c11], _ =>
      match xs, hn7 with
      | [x0, x1, x2, x3, x4, x5, x6], _ =>
        have g0 := hg 0 _ rfl
        have g1 := hg 1 _ rfl
        have g2 := hg 2 _ rfl
        have g3 := hg 3 _ rfl
        have g4 := hg 4 _ rfl
        have g5 := hg 5 _ rfl
        have g6 := hg 6 _ rfl
        clear hg
        simp only [cells_str, cells_at, cells_val, cells_bool, cells_attrs, List.drop_zero, List.drop_succ_cons, List.take_succ_cons, List.take_zero, List.getElem?_cons_zero, List.getElem?_cons_succ] at g0 g1 g2 g3 g4 g5 g6
        obtain ⟨nm, e0, rfl, _⟩ := DataW.trod_string Tryz.underlying9 g0
        obtain ⟨so, sl, sc, e1, rfl⟩ := open_at g1
        obtain ⟨v, e2, hv, hvw⟩ := open_val g2
        obtain ⟨br, e3, rfl⟩ := DataW.trod_bool Tryz.underlying4 g3
        obtain ⟨A, c, l, e4, hlc, hC, hR, hw⟩ := open_row k50 wtA rgA 50 42 Tryz.underlying42 (by rw [cells_attr]; rfl) g4 (fun m hm cs y hy => ih m (by omega) cs y hy)
        obtain ⟨nt, e5, rfl⟩ := DataW.trod_bool Tryz.underlying4 g5
        obtain ⟨no, e6, rfl, _⟩ := DataW.trod_string Tryz.underlying9 g6
        cases e0; cases e1; cases e2; cases e3; cases e4; cases e5; cases e6
        refine ⟨⟨nm, ⟨so, sl, sc⟩, v, br, l, nt, no⟩, k50_mk W ⟨nm, ⟨so, sl, sc⟩, v, br, l, nt, no⟩ hlc hC, ?_, ?_⟩
        · simp only [rgA]
          exact ⟨hv, rgL_of l hR⟩
        · have e := str_len nm
          have e' := str_len no
          rw [wtL_sum] at hw
          simp only [wtA, List.map_cons, List.map_nil, Rows.uptoBulk, Rows.uptoBulkAll]
          omega
def wtO (o : SO) : Nat := o.f0.size + o.f1.size + o.f5.size + 5 + wtL o.f3
def rgO (o : SO) : Prop := rgL o.f3
theorem open_obj {H : Type} {enc : TypeId × Value → H} {W : World} {base : Nat} {sp : Nat → Bool} {held : Bool} {fuel : Nat} {cs : List Value} {x : DataW H × List MemPlace}
    (hf : DataW.trod enc Tryz.prog W base sp held fuel 44 cs = some x) : ∃ o : SO, k44.K W o cs ∧ rgO o ∧ wtO o ≤ Rows.uptoBulk x.1 := by
  obtain ⟨xs, n, rfl, rfl, hl, hn, hg⟩ := DataW.trod_struct Tryz.underlying44 hf
  rw [cells_obj] at hl
  have hn6 : xs.length = 6 := hn
  match cs, hl with
  | [c0, c1, c2, c3, c4, c5, c6, c7], _ =>
    match xs, hn6 with
    | [x0, x1, x2, x3, x4, x5], _ =>
      have g0 := hg 0 _ rfl
      have g1 := hg 1 _ rfl
      have g2 := hg 2 _ rfl
      have g3 := hg 3 _ rfl
      have g4 := hg 4 _ rfl
      have g5 := hg 5 _ rfl
      clear hg
      simp only [cells_str, cells_at, cells_bool, cells_attrs, List.drop_zero, List.drop_succ_cons, List.take_succ_cons, List.take_zero, List.getElem?_cons_zero, List.getElem?_cons_succ] at g0 g1 g2 g3 g4 g5
      obtain ⟨kd, e0, rfl, _⟩ := DataW.trod_string Tryz.underlying9 g0
      obtain ⟨nm, e1, rfl, _⟩ := DataW.trod_string Tryz.underlying9 g1
      obtain ⟨so, sl, sc, e2, rfl⟩ := open_at g2
      obtain ⟨A, c, l, e3, hlc, hC, hR, hw⟩ := open_row k50 wtA rgA 50 42 Tryz.underlying42 (by rw [cells_attr]; rfl) g3 (fun m hm cs y hy => open_attr m cs y hy)
      obtain ⟨nt, e4, rfl⟩ := DataW.trod_bool Tryz.underlying4 g4
      obtain ⟨no, e5, rfl, _⟩ := DataW.trod_string Tryz.underlying9 g5
      cases e0; cases e1; cases e2; cases e3; cases e4; cases e5
      refine ⟨⟨kd, nm, ⟨so, sl, sc⟩, l, nt, no⟩, k44_mk W ⟨kd, nm, ⟨so, sl, sc⟩, l, nt, no⟩ hlc hC, rgL_of l hR, ?_⟩
      have e := str_len kd
      have e' := str_len nm
      have e'' := str_len no
      rw [wtL_sum] at hw
      simp only [wtO, List.map_cons, List.map_nil, Rows.uptoBulk, Rows.uptoBulkAll]
      omega
def wtOs (l : List SO) : Nat := (l.map wtO).sum
def wtT (t : ST) : Nat := t.f0.size + t.f1.size + t.f4.size + wtOs t.f2
theorem wtOs_len : ∀ l : List SO, l.length ≤ wtOs l
  | [] => by simp
  | o :: l => by
    have := wtOs_len l
    simp only [wtOs, List.map_cons, List.sum_cons, List.length_cons, wtO] at this ⊢
    omega
theorem wtOs_mem : ∀ (l : List SO) (o : SO), o ∈ l → wtO o ≤ wtOs l
  | p :: l, o, h => by
    simp only [wtOs, List.map_cons, List.sum_cons]
    rcases List.mem_cons.1 h with rfl | h
    · omega
    · have := wtOs_mem l o h
      unfold wtOs at this
      omega
theorem tree_ok (t : ST) (hr : ∀ o ∈ t.f2, rgO o) (hw : wtT t ≤ 1048576) : TreeOk t := by
  unfold wtT at hw
  have hl := wtOs_len t.f2
  have hm : ∀ (j : Nat) (o : SO), t.f2[j]? = some o → o ∈ t.f2 := fun j o h => List.mem_of_getElem? h
  have hq : ∀ (j : Nat) (o : SO), t.f2[j]? = some o → o.f5.size ≤ 1048576 ∧ wtL o.f3 ≤ 1048576 := fun j o h => by
    have := wtOs_mem t.f2 o (hm j o h)
    unfold wtO at this
    omega
  refine ⟨fun j o h => wf_rgL _ (hr o (hm j o h)) (by have := hq j o h; omega), fun j o h => ?_, by omega, ⟨by omega, by omega⟩, fun j o h => by have := hq j o h; omega⟩
  have := cnt_wtL o.f3
  have := hq j o h
  omega
theorem list5 {α : Type} (l : List α) (h : l.length = 5) : ∃ a b c d e, l = [a, b, c, d, e] := by
  match l, h with
  | [a, b, c, d, e], _ => exact ⟨a, b, c, d, e, rfl⟩
/-- A tree by value. -/
theorem open_treeV {H : Type} {enc : TypeId × Value → H} {W : World} {v : Value} {d : DataW H} {p : List MemPlace} {sp : Nat → Bool} {held : Bool} {base base' : Nat}
    (hv : Value.okWide Tryz.prog W .any base' 24 v) (h : DataW.Trod enc Tryz.prog W base sp held 24 v d p) :
    ∃ (t : ST) (A : Option Addr) (c : Nat), v = treeV t A c ∧ Kd.C k44 W A t.f2.length t.f2 ∧ t.f2.length ≤ c ∧ (∀ o ∈ t.f2, rgO o) ∧ wtT t ≤ Rows.uptoBulk d := by
  obtain ⟨cs, rfl, hsz⟩ := okWide_struct Tryz.underlying24 hv
  obtain ⟨fuel, hf⟩ := h
  obtain ⟨xs, n, rfl, he, hl, hn, hg⟩ := DataW.trod_struct Tryz.underlying24 hf
  have hD : d = .agg (xs.map (·.1)) := congrArg Prod.fst he
  rw [cells_tree] at hl
  have hn5 : xs.length = 5 := hn
  have hcs : (Value.agg cs).cells.toList = cs.toList := rfl
  rw [hcs] at hl hg
  obtain ⟨cl, rfl⟩ : ∃ l : List Value, cs = l.toArray := ⟨cs.toList, by simp⟩
  have ecl : cl.toArray.toList = cl := by simp
  rw [ecl] at hl hg
  obtain ⟨c0, c1, c2, c3, c4, rfl⟩ := list5 cl hl
  obtain ⟨x0, x1, x2, x3, x4, rfl⟩ := list5 xs hn5
  have g0 := hg 0 _ rfl
  have g1 := hg 1 _ rfl
  have g2 := hg 2 _ rfl
  have g3 := hg 3 _ rfl
  have g4 := hg 4 _ rfl
  clear hg
  simp only [List.getElem_toArray, List.getElem_cons_zero, List.getElem_cons_succ, cells_str, cells_bool, cells_objs, List.drop_zero, List.drop_succ_cons, List.take_succ_cons, List.take_zero, List.getElem?_cons_zero, List.getElem?_cons_succ] at g0 g1 g2 g3 g4
  obtain ⟨ve, e0, rfl, _⟩ := DataW.trod_string Tryz.underlying9 g0
  obtain ⟨cp, e1, rfl, _⟩ := DataW.trod_string Tryz.underlying9 g1
  obtain ⟨A, c, l, e2, hlc, hC, hR, hw⟩ := open_row k44 wtO rgO 44 22 Tryz.underlying22 (by rw [cells_obj]; rfl) g2 (fun m hm cs y hy => open_obj hy)
  obtain ⟨nt, e3, rfl⟩ := DataW.trod_bool Tryz.underlying4 g3
  obtain ⟨no, e4, rfl, _⟩ := DataW.trod_string Tryz.underlying9 g4
  cases e0; cases e1; cases e2; cases e3; cases e4
  refine ⟨⟨ve, cp, l, nt, no⟩, A, c, rfl, hC, hlc, hR, ?_⟩
  have e := str_len ve
  have e' := str_len cp
  have e'' := str_len no
  subst hD
  simp only [wtT, wtOs, List.map_cons, List.map_nil, Rows.uptoBulk, Rows.uptoBulkAll]
  omega
end Go.Proofs.YtmfejjlmflgnbaaGreatDoor.Tok
/- PLAIN LAWS: a tree of small bulk has a text that is no longer than a machine's string. -/
namespace Go.Proofs.YtmfejjlmflgnbaaGreatDoor.Tok
open Go.RowKit Go.Proofs.YtmfejjlmflgnbaaGreatDoor.PA Go.Proofs.YtmfejjlmflgnbaaGreatDoorW.PrintWords Go.Proofs.YtmfejjlmflgnbaaGreatDoorW.PrintLast Go.Proofs.YtmfejjlmflgnbaaGreatDoor.Sp Go.Proofs.YtmfejjlmflgnbaaGreatDoor.Tr
set_option linter.unusedVariables false
set_option linter.unusedSimpArgs false
set_option maxRecDepth 100000

mutual
theorem letters_wt : ∀ a : SA, lettersA a ≤ wtA a
  | ⟨n, sp, v, br, ps, noted, note⟩ => by
    have := letters_wtL ps
    simp only [lettersA, wtA]
    omega
theorem letters_wtL : ∀ l : List SA, lettersL l ≤ wtL l
  | [] => by simp [lettersL]
  | a :: r => by
    have := letters_wt a
    have := letters_wtL r
    simp only [lettersL, wtL]
    omega
end
theorem obj_len (o : SO) (h : wtO o ≤ 1048576) : (objT o).length ≤ 9000000 * wtO o := by
  have h0 : wtO o = o.f0.size + o.f1.size + o.f5.size + 5 + wtL o.f3 := rfl
  have h1 := attrs_len o.f3 2 (by have := cnt_wtL o.f3; omega)
  have h2 := cnt_wtL o.f3
  have h3 := letters_wtL o.f3
  have h4 := end_len o.f4 o.f5
  have h5 := bs_len o.f0
  have h6 := bs_len o.f1
  unfold objT
  simp only [List.length_append]
  split
  · simp; omega
  · simp; omega
theorem objs_len : ∀ l : List SO, wtOs l ≤ 1048576 → (objsT l).length ≤ 9000000 * wtOs l
  | [], _ => by simp [objsT]
  | o :: l, h => by
    have e : wtOs (o :: l) = wtO o + wtOs l := by simp [wtOs]
    rw [e] at h ⊢
    have h1 := obj_len o (by omega)
    have h2 := objs_len l (by omega)
    simp only [objsT, List.length_append]
    omega
/-- What Print asks of a tree. -/
structure TreeSm (t : ST) : Prop where
  ok : TreeOk t
  sm : ∀ (j : Nat) (o : SO), t.f2[j]? = some o → cntL o.f3 ≤ 1048576
  text : (treeT t).length ≤ 140737488355328
theorem tree_sm (t : ST) (hr : ∀ o ∈ t.f2, rgO o) (hw : wtT t ≤ 1048576) : TreeSm t := by
  refine ⟨tree_ok t hr hw, fun j o h => ?_, ?_⟩
  · unfold wtT at hw
    have h1 := wtOs_mem t.f2 o (List.mem_of_getElem? h)
    have h2 := cnt_wtL o.f3
    unfold wtO at h1
    omega
  · unfold wtT at hw
    have h1 := objs_len t.f2 (by omega)
    have h2 := end_len t.f3 t.f4
    have h3 := quote_len (bs t.f0)
    have h4 := bs_len t.f0
    have h5 := bs_len t.f1
    unfold treeT
    simp only [List.length_append]
    simp [versionL, cpuL]
    omega
end Go.Proofs.YtmfejjlmflgnbaaGreatDoor.Tok

/- SPEC of layer 4 over the printed types: which trees fit, a tree's text, which trees are alike, a tree without its spots. -/
import Derived.Test.YtmfejjlmflgnbaaGreatDoorZPAy0
import Derived.Test.YtmfejjlmflgnbaaGreatDoorZBase
import Derived.Lib.Join
import Derived.Lib.Repeat
namespace Go.Proofs.YtmfejjlmflgnbaaGreatDoor.Tr
open Go.RowKit Go.Proofs.YtmfejjlmflgnbaaGreatDoor.PA Go.Proofs.YtmfejjlmflgnbaaGreatDoorW.PrintWords Go.Proofs.YtmfejjlmflgnbaaGreatDoor.Sp
set_option linter.unusedVariables false
set_option linter.unusedSimpArgs false

abbrev SV := S48
abbrev SA := S50
abbrev SO := S44
structure ST where
  f0 : ByteArray
  f1 : ByteArray
  f2 : List S44
  f3 : Bool
  f4 : ByteArray
abbrev SP := S41

def bs (s : ByteArray) : Bs := s.data.toList
/-- Is a value one of the three? -/
def valB (v : SV) : Bool :=
  if v.f0 = 1 then decide (v.f2 = 0) && !v.f3 && nameB (bs v.f1)
  else if v.f0 = 2 then (bs v.f1).isEmpty
  else if v.f0 = 3 then decide (v.f2 = 0) && !v.f3 && stringB (bs v.f1)
  else false
/-- May a description be? -/
def noteB (noted : Bool) (s : ByteArray) : Bool := if noted then stringB (bs s) else (bs s).isEmpty
/-- What is wrong with an attribute by itself, but for its description. -/
def wrongA (a : SA) (d : Nat) : Bool := !nameB (bs a.f0) || !valB a.f2 || (!a.f3 && !a.f4.isEmpty) || (a.f3 && decide (4 < d))
mutual
def badA : SA → List Int → Nat → Option (List Int)
  | ⟨n, sp, v, br, ps, noted, note⟩, p, d =>
    if wrongA ⟨n, sp, v, br, ps, noted, note⟩ d then some p
    else match badL ps p 0 (d + 1) with
      | some q => some q
      | none => if noteB noted note then none else some p
def badL : List SA → List Int → Nat → Nat → Option (List Int)
  | [], _, _, _ => none
  | a :: r, p, i, d => match badA a (p ++ [(i : Int)]) d with
    | some q => some q
    | none => badL r p (i + 1) d
end
def badO (o : SO) (k : Nat) : Option (List Int) :=
  if !nameB (bs o.f0) || !nameB (bs o.f1) then some [(k : Int)]
  else match badL o.f3 [(k : Int)] 0 1 with
    | some q => some q
    | none => if noteB o.f4 o.f5 then none else some [(k : Int)]
def badOs : List SO → Nat → Option (List Int)
  | [], _ => none
  | o :: r, k => match badO o k with
    | some q => some q
    | none => badOs r (k + 1)
/-- Where a tree is at fault. -/
def badT (t : ST) : Option (List Int) :=
  if !stringB (bs t.f0) || !nameB (bs t.f1) then some []
  else match badOs t.f2 0 with
    | some q => some q
    | none => if noteB t.f3 t.f4 then none else some []

/-! ### its text -/
def blanksT (d : Nat) : Bs := (List.replicate d [32, 32]).flatten
def valT (v : SV) : Bs := if v.f0 = 1 then bs v.f1 else if v.f0 = 3 then quoteT (bs v.f1) else if v.f3 then hexL v.f2.toNat else decT v.f2.toNat
/-- The description, the mark behind it. -/
def endB (noted : Bool) (s : ByteArray) : Bs := if noted then [32, 58, 32] ++ quoteT (bs s) ++ [59] else [59]
mutual
def attrT : Nat → SA → Bs
  | d, ⟨n, sp, v, br, ps, noted, note⟩ =>
    blanksT d ++ bs n ++ [32, 61, 32] ++ valT v ++
      (if br then (if ps.isEmpty then [32, 123, 32, 125] else [32, 123, 10] ++ attrsT (d + 1) ps ++ blanksT d ++ [125]) else []) ++ endB noted note ++ [10]
def attrsT : Nat → List SA → Bs
  | _, [] => []
  | d, a :: r => attrT d a ++ attrsT d r
end
def objT (o : SO) : Bs :=
  [32, 32] ++ bs o.f0 ++ [32] ++ bs o.f1 ++ (if o.f3.isEmpty then [32, 123, 32, 125] else [32, 123, 10] ++ attrsT 2 o.f3 ++ [32, 32, 125]) ++ endB o.f4 o.f5 ++ [10]
def objsT : List SO → Bs
  | [] => []
  | o :: r => objT o ++ objsT r
/-- OIL_VERSION =  · CPU -/
def versionL : Bs := [79, 73, 76, 95, 86, 69, 82, 83, 73, 79, 78, 32, 61, 32]
def cpuL : Bs := [67, 80, 85, 32]
def treeT (t : ST) : Bs := versionL ++ quoteT (bs t.f0) ++ [59, 10] ++ cpuL ++ bs t.f1 ++ [32, 123, 10] ++ objsT t.f2 ++ [125] ++ endB t.f3 t.f4 ++ [10]

/-! ### alike -/
def sameV (a b : SV) : Bool := a.f0 == b.f0 && decide (a.f1 = b.f1) && a.f2 == b.f2 && a.f3 == b.f3
def sameP (a b : SP) : Bool := a.f0 == b.f0 && a.f1 == b.f1 && a.f2 == b.f2
mutual
def sameA : Bool → SA → SA → Bool
  | s, ⟨n, sp, v, br, ps, noted, note⟩, ⟨n', sp', v', br', ps', noted', note'⟩ =>
    decide (n = n') && sameV v v' && br == br' && noted == noted' && decide (note = note') && (!s || sameP sp sp') && sameL s ps ps'
def sameL : Bool → List SA → List SA → Bool
  | _, [], [] => true
  | s, a :: r, b :: r' => sameA s a b && sameL s r r'
  | _, _, _ => false
end
def sameO (s : Bool) (a b : SO) : Bool := decide (a.f0 = b.f0) && decide (a.f1 = b.f1) && a.f4 == b.f4 && decide (a.f5 = b.f5) && (!s || sameP a.f2 b.f2) && sameL s a.f3 b.f3
def sameOs (s : Bool) : List SO → List SO → Bool
  | [], [] => true
  | a :: r, b :: r' => sameO s a b && sameOs s r r'
  | _, _ => false
def sameT (s : Bool) (a b : ST) : Bool := decide (a.f0 = b.f0) && decide (a.f1 = b.f1) && a.f3 == b.f3 && decide (a.f4 = b.f4) && sameOs s a.f2 b.f2

/-! ### without spots -/
mutual
def bareA : SA → SA
  | ⟨n, sp, v, br, ps, noted, note⟩ => ⟨n, ⟨0, 0, 0⟩, v, br, bareL ps, noted, note⟩
def bareL : List SA → List SA
  | [] => []
  | a :: r => bareA a :: bareL r
end
def bareO (o : SO) : SO := ⟨o.f0, o.f1, ⟨0, 0, 0⟩, bareL o.f3, o.f4, o.f5⟩
def bareT (t : ST) : ST := ⟨t.f0, t.f1, t.f2.map bareO, t.f3, t.f4⟩
end Go.Proofs.YtmfejjlmflgnbaaGreatDoor.Tr
/- PLAIN LAWS of layer 4's spec: how a list of attributes is gone through; its size; numbers within their kind. -/
namespace Go.Proofs.YtmfejjlmflgnbaaGreatDoor.Tr
open Go.RowKit Go.Proofs.YtmfejjlmflgnbaaGreatDoor.PA Go.Proofs.YtmfejjlmflgnbaaGreatDoorW.PrintWords Go.Proofs.YtmfejjlmflgnbaaGreatDoor.Sp
set_option linter.unusedVariables false
set_option linter.unusedSimpArgs false

mutual
/-- How many attributes stand in one, itself among them. -/
def cntA : SA → Nat
  | ⟨n, sp, v, br, ps, noted, note⟩ => cntL ps + 1
def cntL : List SA → Nat
  | [] => 0
  | a :: r => cntA a + cntL r
end
mutual
def wfA : SA → Prop
  | ⟨n, sp, v, br, ps, noted, note⟩ => ((0 ≤ v.f2 ∧ v.f2 < 4294967296) ∧ v.f1.size ≤ 1000000000 ∧ note.size ≤ 1000000000) ∧ wfL ps
def wfL : List SA → Prop
  | [] => True
  | a :: r => wfA a ∧ wfL r
end
theorem cnt_eq (a : SA) : cntA a = cntL a.f4 + 1 := by cases a; simp only [cntA]
theorem wf_eq (a : SA) : wfA a ↔ ((0 ≤ a.f2.f2 ∧ a.f2.f2 < 4294967296) ∧ a.f2.f1.size ≤ 1000000000 ∧ a.f6.size ≤ 1000000000) ∧ wfL a.f4 := by cases a; simp only [wfA]
theorem cnt_len : ∀ l : List SA, l.length ≤ cntL l
  | [] => by simp [cntL]
  | a :: r => by
    have := cnt_len r
    have := cnt_eq a
    simp only [cntL, List.length_cons]
    omega
theorem cnt_get : ∀ (l : List SA) (j : Nat) (a : SA), l[j]? = some a → cntA a ≤ cntL l
  | [], j, a, h => by simp at h
  | b :: r, 0, a, h => by
    simp only [List.getElem?_cons_zero, Option.some.injEq] at h
    subst h
    simp only [cntL]; omega
  | b :: r, j + 1, a, h => by
    have := cnt_get r j a (by simpa using h)
    simp only [cntL]; omega
theorem wf_get : ∀ (l : List SA) (j : Nat) (a : SA), wfL l → l[j]? = some a → wfA a
  | [], j, a, hw, h => by simp at h
  | b :: r, 0, a, hw, h => by
    simp only [List.getElem?_cons_zero, Option.some.injEq] at h
    subst h
    simp only [wfL] at hw
    exact hw.1
  | b :: r, j + 1, a, hw, h => by
    simp only [wfL] at hw
    exact wf_get r j a hw.2 (by simpa using h)
theorem badA_eq (a : SA) (p : List Int) (d : Nat) : badA a p d = if wrongA a d then some p else match badL a.f4 p 0 (d + 1) with | some q => some q | none => if noteB a.f5 a.f6 then none else some p := by
  cases a; (first | (simp only [badA]; done) | (simp only [badA]; rfl))
theorem badL_nil (p : List Int) (i d : Nat) : badL [] p i d = none := by simp only [badL]
theorem badL_cons (a : SA) (r : List SA) (p : List Int) (i d : Nat) : badL (a :: r) p i d = match badA a (p ++ [(i : Int)]) d with | some q => some q | none => badL r p (i + 1) d := by (first | (simp only [badL]; done) | (simp only [badL]; rfl))
theorem badL_drop {l : List SA} {j : Nat} {a : SA} (h : l[j]? = some a) (p : List Int) (d : Nat) : badL (l.drop j) p j d = match badA a (p ++ [(j : Int)]) d with | some q => some q | none => badL (l.drop (j + 1)) p (j + 1) d := by
  obtain ⟨h1, e1⟩ := List.getElem?_eq_some_iff.1 h
  rw [List.drop_eq_getElem_cons h1, e1, badL_cons]
theorem badL_hit {l : List SA} {j : Nat} {a : SA} {p q : List Int} {d : Nat} (h : l[j]? = some a) (hb : badA a (p ++ [(j : Int)]) d = some q) : badL (l.drop j) p j d = some q := by
  rw [badL_drop h, hb]
theorem badL_miss {l : List SA} {j : Nat} {a : SA} {p : List Int} {d : Nat} (h : l[j]? = some a) (hb : badA a (p ++ [(j : Int)]) d = none) : badL (l.drop j) p j d = badL (l.drop (j + 1)) p (j + 1) d := by
  rw [badL_drop h, hb]
theorem badA_wrong {a : SA} {p : List Int} {d : Nat} (h : wrongA a d = true) : badA a p d = some p := by rw [badA_eq, if_pos h]
theorem badA_in {a : SA} {p q : List Int} {d : Nat} (h : wrongA a d = false) (hb : badL a.f4 p 0 (d + 1) = some q) : badA a p d = some q := by rw [badA_eq, if_neg (by simp [h]), hb]
theorem badA_note {a : SA} {p : List Int} {d : Nat} (h : wrongA a d = false) (hb : badL a.f4 p 0 (d + 1) = none) (hn : noteB a.f5 a.f6 = false) : badA a p d = some p := by rw [badA_eq, if_neg (by simp [h]), hb]; simp [hn]
theorem badA_none {a : SA} {p : List Int} {d : Nat} (h : wrongA a d = false) (hb : badL a.f4 p 0 (d + 1) = none) (hn : noteB a.f5 a.f6 = true) : badA a p d = none := by rw [badA_eq, if_neg (by simp [h]), hb]; simp [hn]
theorem badOs_drop {l : List SO} {j : Nat} {o : SO} (h : l[j]? = some o) : badOs (l.drop j) j = match badO o j with | some q => some q | none => badOs (l.drop (j + 1)) (j + 1) := by
  obtain ⟨h1, e1⟩ := List.getElem?_eq_some_iff.1 h
  rw [List.drop_eq_getElem_cons h1, e1]
  rfl
theorem badOs_hit {l : List SO} {j : Nat} {o : SO} {q : List Int} (h : l[j]? = some o) (hb : badO o j = some q) : badOs (l.drop j) j = some q := by rw [badOs_drop h, hb]
theorem badOs_miss {l : List SO} {j : Nat} {o : SO} (h : l[j]? = some o) (hb : badO o j = none) : badOs (l.drop j) j = badOs (l.drop (j + 1)) (j + 1) := by rw [badOs_drop h, hb]
theorem badO_kind {o : SO} {k : Nat} (h : nameB (bs o.f0) = false) : badO o k = some [(k : Int)] := by unfold badO; rw [h]; rfl
theorem badO_name {o : SO} {k : Nat} (h : nameB (bs o.f1) = false) : badO o k = some [(k : Int)] := by unfold badO; rw [h]; simp
theorem badO_in {o : SO} {k : Nat} {q : List Int} (h1 : nameB (bs o.f0) = true) (h2 : nameB (bs o.f1) = true) (h : badL o.f3 [(k : Int)] 0 1 = some q) : badO o k = some q := by unfold badO; rw [h1, h2, h]; rfl
theorem badO_note {o : SO} {k : Nat} (h1 : nameB (bs o.f0) = true) (h2 : nameB (bs o.f1) = true) (h : badL o.f3 [(k : Int)] 0 1 = none) (hn : noteB o.f4 o.f5 = false) : badO o k = some [(k : Int)] := by unfold badO; rw [h1, h2, h, hn]; rfl
theorem badO_none {o : SO} {k : Nat} (h1 : nameB (bs o.f0) = true) (h2 : nameB (bs o.f1) = true) (h : badL o.f3 [(k : Int)] 0 1 = none) (hn : noteB o.f4 o.f5 = true) : badO o k = none := by unfold badO; rw [h1, h2, h, hn]; rfl
theorem badT_ver {t : ST} (h : stringB (bs t.f0) = false) : badT t = some [] := by unfold badT; rw [h]; rfl
theorem badT_cpu {t : ST} (h : nameB (bs t.f1) = false) : badT t = some [] := by unfold badT; rw [h]; simp
theorem badT_in {t : ST} {q : List Int} (h1 : stringB (bs t.f0) = true) (h2 : nameB (bs t.f1) = true) (h : badOs t.f2 0 = some q) : badT t = some q := by unfold badT; rw [h1, h2, h]; rfl
theorem badT_note {t : ST} (h1 : stringB (bs t.f0) = true) (h2 : nameB (bs t.f1) = true) (h : badOs t.f2 0 = none) (hn : noteB t.f3 t.f4 = false) : badT t = some [] := by unfold badT; rw [h1, h2, h, hn]; rfl
theorem badT_none {t : ST} (h1 : stringB (bs t.f0) = true) (h2 : nameB (bs t.f1) = true) (h : badOs t.f2 0 = none) (hn : noteB t.f3 t.f4 = true) : badT t = none := by unfold badT; rw [h1, h2, h, hn]; rfl
end Go.Proofs.YtmfejjlmflgnbaaGreatDoor.Tr
/- PLAIN LAWS on a tree's text: its lines, and that it is no longer than a machine's string. -/
namespace Go.Proofs.YtmfejjlmflgnbaaGreatDoor.Tr
open Go.RowKit Go.Proofs.YtmfejjlmflgnbaaGreatDoor.PA Go.Proofs.YtmfejjlmflgnbaaGreatDoorW.PrintWords Go.Proofs.YtmfejjlmflgnbaaGreatDoor.Sp
set_option linter.unusedVariables false
set_option linter.unusedSimpArgs false

/-- A line of words at a depth. -/
def lineT (d : Nat) (ws : List Bs) : Bs := Lib.repeatL [32, 32] d ++ Lib.join ws [32] ++ [10]
theorem blanks_repeat : ∀ d, blanksT d = Lib.repeatL [32, 32] d
  | 0 => rfl
  | d + 1 => by
    have := blanks_repeat d
    unfold blanksT at this ⊢
    rw [List.replicate_succ, List.flatten_cons, this]
    rfl
theorem attrT_eq (d : Nat) (a : SA) : attrT d a = blanksT d ++ bs a.f0 ++ [32, 61, 32] ++ valT a.f2 ++ (if a.f3 then (if a.f4.isEmpty then [32, 123, 32, 125] else [32, 123, 10] ++ attrsT (d + 1) a.f4 ++ blanksT d ++ [125]) else []) ++ endB a.f5 a.f6 ++ [10] := by
  cases a; simp only [attrT]
theorem attrsT_nil (d : Nat) : attrsT d [] = [] := by simp only [attrsT]
theorem attrsT_cons (d : Nat) (a : SA) (r : List SA) : attrsT d (a :: r) = attrT d a ++ attrsT d r := by simp only [attrsT]
theorem attrsT_drop {d : Nat} {l : List SA} {j : Nat} {a : SA} (h : l[j]? = some a) : attrsT d (l.drop j) = attrT d a ++ attrsT d (l.drop (j + 1)) := by
  obtain ⟨h1, e1⟩ := List.getElem?_eq_some_iff.1 h
  rw [List.drop_eq_getElem_cons h1, e1, attrsT_cons]
theorem attrsT_take {d : Nat} : ∀ (l : List SA) (j : Nat) (a : SA), l[j]? = some a → attrsT d (l.take (j + 1)) = attrsT d (l.take j) ++ attrT d a
  | [], j, a, h => by simp at h
  | b :: r, 0, a, h => by
    simp only [List.getElem?_cons_zero, Option.some.injEq] at h
    subst h
    simp [attrsT_cons, attrsT_nil]
  | b :: r, j + 1, a, h => by
    rw [List.take_succ_cons, List.take_succ_cons, attrsT_cons, attrsT_cons, attrsT_take r j a (by simpa using h), List.append_assoc]
theorem objsT_take : ∀ (l : List SO) (j : Nat) (o : SO), l[j]? = some o → objsT (l.take (j + 1)) = objsT (l.take j) ++ objT o
  | [], j, a, h => by simp at h
  | b :: r, 0, a, h => by
    simp only [List.getElem?_cons_zero, Option.some.injEq] at h
    subst h
    simp [objsT]
  | b :: r, j + 1, a, h => by
    rw [List.take_succ_cons, List.take_succ_cons, objsT, objsT, objsT_take r j a (by simpa using h), List.append_assoc]
theorem join2 (a b : Bs) : Lib.join [a, b] [32] = a ++ [32] ++ b := by simp [Lib.join, List.intercalate]
theorem join3 (a b c : Bs) : Lib.join [a, b, c] [32] = a ++ [32] ++ b ++ [32] ++ c := by simp [Lib.join, List.intercalate]
theorem join4 (a b c d : Bs) : Lib.join [a, b, c, d] [32] = a ++ [32] ++ b ++ [32] ++ c ++ [32] ++ d := by simp [Lib.join, List.intercalate]
theorem join5 (a b c d e : Bs) : Lib.join [a, b, c, d, e] [32] = a ++ [32] ++ b ++ [32] ++ c ++ [32] ++ d ++ [32] ++ e := by simp [Lib.join, List.intercalate]
theorem attrT_bare {d : Nat} {a : SA} (h : a.f3 = false) : attrT d a = lineT d [bs a.f0, [61], valT a.f2 ++ endB a.f5 a.f6] := by
  rw [attrT_eq, h, lineT, join3, blanks_repeat]
  simp
theorem attrT_none {d : Nat} {a : SA} (h : a.f3 = true) (h4 : a.f4 = []) : attrT d a = lineT d [bs a.f0, [61], valT a.f2, [123], [125] ++ endB a.f5 a.f6] := by
  rw [attrT_eq, h, h4, lineT, join5, blanks_repeat]
  simp
theorem attrT_some {d : Nat} {a : SA} (h : a.f3 = true) (h4 : a.f4 ≠ []) : attrT d a = lineT d [bs a.f0, [61], valT a.f2, [123]] ++ attrsT (d + 1) a.f4 ++ lineT d [[125] ++ endB a.f5 a.f6] := by
  have : a.f4.isEmpty = false := by cases h5 : a.f4 <;> simp_all
  rw [attrT_eq, h, this, lineT, lineT, join4, Lib.join_one, blanks_repeat]
  simp
theorem objT_none {o : SO} (h : o.f3 = []) : objT o = lineT 1 [bs o.f0, bs o.f1, [123], [125] ++ endB o.f4 o.f5] := by
  unfold objT
  rw [h, lineT, join4]
  simp [Lib.repeatL]
theorem objT_some {o : SO} (h : o.f3 ≠ []) : objT o = lineT 1 [bs o.f0, bs o.f1, [123]] ++ attrsT 2 o.f3 ++ lineT 1 [[125] ++ endB o.f4 o.f5] := by
  have : o.f3.isEmpty = false := by cases h5 : o.f3 <;> simp_all
  unfold objT
  rw [this, lineT, lineT, join3, Lib.join_one]
  simp [Lib.repeatL]
def verT : Bs := [79, 73, 76, 95, 86, 69, 82, 83, 73, 79, 78]
theorem treeT_eq (t : ST) : treeT t = lineT 0 [verT, [61], quoteT (bs t.f0) ++ [59]] ++ lineT 0 [[67, 80, 85], bs t.f1, [123]] ++ objsT t.f2 ++ lineT 0 [[125] ++ endB t.f3 t.f4] := by
  unfold treeT
  rw [lineT, lineT, lineT, join3, join3, Lib.join_one]
  simp [Lib.repeatL, verT, versionL, cpuL]

/-! ### how long -/
theorem esc_len : ∀ s : Bs, (escT s).length ≤ 2 * s.length
  | [] => by simp [escT]
  | c :: r => by
    have := esc_len r
    unfold escT
    split <;> simp <;> omega
theorem quote_len (s : Bs) : (quoteT s).length ≤ 2 * s.length + 2 := by
  have := esc_len s
  unfold quoteT
  simp; omega
theorem decF_len : ∀ (f v : Nat) (acc : Bs), (decF f v acc).length ≤ acc.length + f
  | 0, v, acc => by simp [decF]
  | f + 1, v, acc => by
    unfold decF
    split
    · simp only [List.length_cons]; omega
    · have := decF_len f (v / 10) (UInt8.ofNat (48 + v % 10) :: acc)
      simp only [List.length_cons] at this; omega
theorem hexF_len : ∀ (f v : Nat) (acc : Bs), (hexF f v acc).length ≤ acc.length + f
  | 0, v, acc => by simp [hexF]
  | f + 1, v, acc => by
    unfold hexF
    split
    · simp only [List.length_cons]; omega
    · have := hexF_len f (v / 16) (Sp.hexDigit (v % 16) :: acc)
      simp only [List.length_cons] at this; omega
theorem bs_len (s : ByteArray) : (bs s).length = s.size := by unfold bs; rw [Array.length_toList]; rfl
theorem val_len (v : SV) : (valT v).length ≤ 2 * v.f1.size + 42 := by
  unfold valT
  have := quote_len (bs v.f1)
  have := decF_len 40 v.f2.toNat []
  have := hexF_len 40 v.f2.toNat []
  have := bs_len v.f1
  simp only [decT, hexL]
  repeat' split
  all_goals simp at *
  all_goals omega
theorem end_len (n : Bool) (s : ByteArray) : (endB n s).length ≤ 2 * s.size + 6 := by
  unfold endB
  have := quote_len (bs s)
  have := bs_len s
  split <;> simp <;> omega
theorem blanks_len (d : Nat) : (blanksT d).length = 2 * d := by
  rw [blanks_repeat, Lib.repeatL_length]
  simp; omega
mutual
def lettersA : SA → Nat
  | ⟨n, sp, v, br, ps, noted, note⟩ => n.size + v.f1.size + note.size + lettersL ps
def lettersL : List SA → Nat
  | [] => 0
  | a :: r => lettersA a + lettersL r
end
mutual
theorem attr_len : ∀ (a : SA) (d : Nat), d + cntA a ≤ 2000000 → (attrT d a).length ≤ 8000100 * cntA a + 2 * lettersA a
  | ⟨n, sp, v, br, ps, noted, note⟩, d, h => by
    simp only [cntA] at h
    have h1 := attrs_len ps (d + 1) (by omega)
    have h2 := val_len v
    have h3 := end_len noted note
    have h4 := blanks_len d
    have h5 := bs_len n
    simp only [attrT, cntA, lettersA, List.length_append]
    cases br
    · simp; omega
    · rw [if_pos rfl]
      split
      · simp; omega
      · simp; omega
theorem attrs_len : ∀ (l : List SA) (d : Nat), d + cntL l ≤ 2000000 → (attrsT d l).length ≤ 8000100 * cntL l + 2 * lettersL l
  | [], d, h => by simp [attrsT]
  | a :: r, d, h => by
    simp only [cntL] at h
    have h1 := attr_len a d (by omega)
    have h2 := attrs_len r d (by omega)
    simp only [attrsT, cntL, lettersL, List.length_append]
    omega
end
end Go.Proofs.YtmfejjlmflgnbaaGreatDoor.Tr

/- PLAIN LAWS: are two lists of attributes alike? Element by element. Two values: the run of '!=' on them. -/
import Derived.Test.YtmfejjlmflgnbaaGreatDoorZTree
import Derived.Test.YtmfejjlmflgnbaaGreatDoorZPrG
import Derived.Laws.StructEq
import Derived.Test.YtmfejjlmflgnbaaGreatDoorZPrA
import Derived.RegionTactic
namespace Go.Proofs.YtmfejjlmflgnbaaGreatDoor.Tok
open Go.RowKit Go.Proofs.YtmfejjlmflgnbaaGreatDoor.PA Go.Proofs.YtmfejjlmflgnbaaGreatDoorW.PrintWords Go.Proofs.YtmfejjlmflgnbaaGreatDoor.Sp Go.Proofs.YtmfejjlmflgnbaaGreatDoor.Tr
set_option linter.unusedVariables false
set_option linter.unusedSimpArgs false
set_option maxRecDepth 100000

theorem sameA_eq (s : Bool) (a b : SA) : sameA s a b = (decide (a.f0 = b.f0) && sameV a.f2 b.f2 && a.f3 == b.f3 && a.f5 == b.f5 && decide (a.f6 = b.f6) && (!s || sameP a.f1 b.f1) && sameL s a.f4 b.f4) := by
  cases a; cases b; simp only [sameA]
theorem sameL_nil (s : Bool) : sameL s [] [] = true := by simp only [sameL]
theorem sameL_cons (s : Bool) (a b : SA) (r r' : List SA) : sameL s (a :: r) (b :: r') = (sameA s a b && sameL s r r') := by simp only [sameL]
theorem sameL_len : ∀ (s : Bool) (l l' : List SA), l.length ≠ l'.length → sameL s l l' = false
  | s, [], [], h => absurd rfl h
  | s, [], b :: r', h => by simp only [sameL]
  | s, a :: r, [], h => by simp only [sameL]
  | s, a :: r, b :: r', h => by
    rw [sameL_cons, sameL_len s r r' (by simpa using h), Bool.and_false]
theorem sameL_drop {s : Bool} {l l' : List SA} {j : Nat} {a b : SA} (h : l[j]? = some a) (h' : l'[j]? = some b) : sameL s (l.drop j) (l'.drop j) = (sameA s a b && sameL s (l.drop (j + 1)) (l'.drop (j + 1))) := by
  obtain ⟨h1, e1⟩ := List.getElem?_eq_some_iff.1 h
  obtain ⟨h2, e2⟩ := List.getElem?_eq_some_iff.1 h'
  rw [List.drop_eq_getElem_cons h1, e1, List.drop_eq_getElem_cons h2, e2, sameL_cons]
theorem val_eqIn (k k' : Int) (t t' : ByteArray) (v v' : Int) (h h' : Bool) (w : World) : (Op.equalIn 10000 48 (.agg #[.int .i64 k, .string t, .int .u32 v, .bool h]) (.agg #[.int .i64 k', .string t', .int .u32 v', .bool h'])).run Tryz.prog w = .ok (k == k' && (t.toList == t'.toList && (v == v' && h == h'))) w := by
  have hu := Tryz.underlying48
  rw [show (10000 : Nat) = 9999 + 1 from rfl, run_equalIn_struct w 9999 48 _ _ hu (by kernel_rfl)]
  have u1 := Tryz.underlying45
  have u2 := Tryz.underlying9
  have u3 := Tryz.underlying46
  have u4 := Tryz.underlying4
  go_simp
  by_cases h1 : k = k' <;> by_cases h2 : t.toList = t'.toList <;> by_cases h3 : v = v' <;> cases h <;> cases h' <;> simp [h1, h2, h3]
theorem val_neq (k k' : Int) (t t' : ByteArray) (v v' : Int) (h h' : Bool) (W : World) (r : Bool) (hr : (k == k' && (t.toList == t'.toList && (v == v' && h == h'))) = !r) : (binOp .neq 48 (.agg #[.int .i64 k, .string t, .int .u32 v, .bool h]) (.agg #[.int .i64 k', .string t', .int .u32 v', .bool h'])).run Tryz.prog W = .ok (.bool r) W := by
  simp only [go_sem, binOp, Op.equal, Sem.run_bind]
  rw [show Op.maxDepth = 10000 from rfl, val_eqIn, hr]
  cases r <;> simp [go_sem]
theorem toList_inj (x y : ByteArray) : (x.toList == y.toList) = decide (x = y) := by
  rw [ByteArray.toList_eq, ByteArray.toList_eq]
  by_cases h : x = y
  · subst h; simp
  · have : ¬ x.data.toList = y.data.toList := fun e => h (ByteArray.ext (Array.toList_inj.1 e))
    rw [beq_eq_false_iff_ne.2 this, decide_eq_false h]
theorem val_same (k k' : Int) (t t' : ByteArray) (v v' : Int) (h h' : Bool) : (k == k' && (t.toList == t'.toList && (v == v' && h == h'))) = sameV ⟨k, t, v, h⟩ ⟨k', t', v', h'⟩ := by
  unfold sameV
  rw [toList_inj]
  by_cases h1 : k = k' <;> by_cases h2 : t = t' <;> by_cases h3 : v = v' <;> cases h <;> cases h' <;> simp [h1, h2, h3]
theorem sameV_eq {x y : SV} (h : sameV x y = true) : x = y := by
  obtain ⟨k, t, v, b⟩ := x
  obtain ⟨k', t', v', b'⟩ := y
  unfold sameV at h
  simp at h
  obtain ⟨⟨⟨h1, h2⟩, h3⟩, h4⟩ := h
  subst h1 h2 h3 h4
  rfl
end Go.Proofs.YtmfejjlmflgnbaaGreatDoor.Tok
/- PLAIN LAWS: are two trees alike; the cells of an object; two new blocks. -/
namespace Go.Proofs.YtmfejjlmflgnbaaGreatDoor.Tok
open Go.RowKit Go.Proofs.YtmfejjlmflgnbaaGreatDoor.PA Go.Proofs.YtmfejjlmflgnbaaGreatDoorW.PrintWords Go.Proofs.YtmfejjlmflgnbaaGreatDoorW.PrintLast Go.Proofs.YtmfejjlmflgnbaaGreatDoor.Sp Go.Proofs.YtmfejjlmflgnbaaGreatDoor.Tr
set_option linter.unusedVariables false
set_option linter.unusedSimpArgs false
set_option maxRecDepth 100000

theorem str_neq0 {x y : ByteArray} (h : ¬ x = y) : (x.toList == y.toList) = false := by rw [toList_inj, decide_eq_false h]
/-- A goal shown by something that is found on the way, and proved once. -/
theorem once {G : Prop} (T : Prop) (h1 : Hid T → G) (h2 : T) : G := h1 h2
theorem sameO_eq (s : Bool) (a b : SO) : sameO s a b = (decide (a.f0 = b.f0) && decide (a.f1 = b.f1) && a.f4 == b.f4 && decide (a.f5 = b.f5) && (!s || sameP a.f2 b.f2) && sameL s a.f3 b.f3) := rfl
theorem sameOs_nil (s : Bool) : sameOs s [] [] = true := rfl
theorem sameOs_len : ∀ (s : Bool) (l l' : List SO), l.length ≠ l'.length → sameOs s l l' = false
  | s, [], [], h => absurd rfl h
  | s, [], b :: r', h => rfl
  | s, a :: r, [], h => rfl
  | s, a :: r, b :: r', h => by
    show (sameO s a b && sameOs s r r') = false
    rw [sameOs_len s r r' (by simpa using h), Bool.and_false]
theorem sameOs_drop {s : Bool} {l l' : List SO} {j : Nat} {a b : SO} (h : l[j]? = some a) (h' : l'[j]? = some b) : sameOs s (l.drop j) (l'.drop j) = (sameO s a b && sameOs s (l.drop (j + 1)) (l'.drop (j + 1))) := by
  obtain ⟨h1, e1⟩ := List.getElem?_eq_some_iff.1 h
  obtain ⟨h2, e2⟩ := List.getElem?_eq_some_iff.1 h'
  rw [List.drop_eq_getElem_cons h1, e1, List.drop_eq_getElem_cons h2, e2]
  rfl
theorem sameT_eq (s : Bool) (t u : ST) : sameT s t u = (decide (t.f0 = u.f0) && decide (t.f1 = u.f1) && t.f3 == u.f3 && decide (t.f4 = u.f4) && sameOs s t.f2 u.f2) := rfl
theorem two_box {w w4 : World} {A B : Array Value} {T : TypeId} (h : w4 = (w.alloc (.cells A T)).alloc (.cells B T)) : Hid (Below w.heap.size w w4) ∧ Hid (w4.heap[w.heap.size]? = some (.cells A T (0, 0))) ∧ Hid (w4.heap[w.heap.size + 1]? = some (.cells B T (0, 0))) := by
  subst h
  have b1 := alloc_below w (.cells A T)
  have z1 : (w.alloc (.cells A T)).heap.size = w.heap.size + 1 := by simp
  have g0 := heap_alloc_new w (.cells A T)
  have g1 := heap_alloc_new (w.alloc (.cells A T)) (.cells B T)
  rw [z1] at g1
  generalize w.alloc (.cells A T) = w1 at *
  have b2 := alloc_below w1 (.cells B T)
  exact ⟨Lib.hid (b1.trans (b2.mono b1.size)), Lib.hid ((b2.block _ (Array.getElem?_eq_some_iff.1 g0).1).trans g0), Lib.hid g1⟩
theorem obj_cells {w' : World} {g : Nat} {a : SO} {A5 : Option Addr} {c5 : Nat} (h2 : w'.heap[g]? = some (.cells (objC a A5 c5) 44 (0, 0))) :
    w'.cell? ⟨g, 0, none⟩ = some (.string a.f0) ∧ w'.cell? ⟨g, 1, none⟩ = some (.string a.f1) ∧ w'.cell? ⟨g, 2, none⟩ = some (.int .i64 a.f2.f0) ∧ w'.cell? ⟨g, 3, none⟩ = some (.int .i64 a.f2.f1) ∧ w'.cell? ⟨g, 4, none⟩ = some (.int .i64 a.f2.f2) ∧ w'.cell? ⟨g, 5, none⟩ = some (.slice A5 a.f3.length c5) ∧ w'.cell? ⟨g, 6, none⟩ = some (.bool a.f4) ∧ w'.cell? ⟨g, 7, none⟩ = some (.string a.f5) :=
  ⟨(cell_row h2 0).trans rfl, (cell_row h2 1).trans rfl, (cell_row h2 2).trans rfl, (cell_row h2 3).trans rfl, (cell_row h2 4).trans rfl, (cell_row h2 5).trans rfl, (cell_row h2 6).trans rfl, (cell_row h2 7).trans rfl⟩
end Go.Proofs.YtmfejjlmflgnbaaGreatDoor.Tok

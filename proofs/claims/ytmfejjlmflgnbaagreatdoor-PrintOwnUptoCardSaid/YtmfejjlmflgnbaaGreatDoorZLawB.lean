/- For the laws' walks: what the flaws and copies are. -/
import Derived.Test.YtmfejjlmflgnbaaGreatDoorZLiveP
import Derived.Test.YtmfejjlmflgnbaaGreatDoorZRfT
import Derived.Test.YtmfejjlmflgnbaaGreatDoorZRf
import Derived.Test.YtmfejjlmflgnbaaGreatDoorZTCopy
namespace Go.Proofs.YtmfejjlmflgnbaaGreatDoor.Tok
open Go.RowKit Go.Proofs.YtmfejjlmflgnbaaGreatDoor.PA Go.Proofs.YtmfejjlmflgnbaaGreatDoorW.PrintWords Go.Proofs.YtmfejjlmflgnbaaGreatDoorW.PrintLast Go.Proofs.YtmfejjlmflgnbaaGreatDoor.Sp Go.Proofs.YtmfejjlmflgnbaaGreatDoor.Tr
set_option linter.unusedVariables false
set_option linter.unusedSimpArgs false
set_option maxRecDepth 100000

def cdOf (r : Option (List Int)) : Int := match r with
  | none => 0
  | some _ => 40
def qOf (r : Option (List Int)) : List Int := match r with
  | none => []
  | some q => q
theorem ref_val {r : Option (List Int)} {w w' : World} {e : Ending} (h : FlawRef r w e w') : (∃ A c, e = .returned (.agg #[.int .i64 (cdOf r), .slice A (qOf r).length c]) ∧ AtQ w' w.heap.size A c (qOf r)) ∧ Below w.heap.size w w' := by
  obtain ⟨hB, h⟩ := h
  refine ⟨?_, hB⟩
  cases r with
  | none => exact ⟨none, 0, h, atq_nil _ _⟩
  | some q =>
    obtain ⟨A, c, he, hI⟩ := h
    exact ⟨A, c, he, hI⟩
/-- The document's Copy with its spots: the same tree in memory of the call's own. -/
theorem copyT_calls (t : ST) (A : Option Addr) (c : Nat) (w : World) (hC : Kd.C k44 w A t.f2.length t.f2) (hc : t.f2.length ≤ c) (hT : TreeOk t) :
    Calls Tryz.prog 12 #[.agg #[.string t.f0, .string t.f1, .slice A t.f2.length c, .bool t.f3, .string t.f4], .bool true] w fun e w' => (∃ A' c', e = .returned (.agg #[.string t.f0, .string t.f1, .slice A' t.f2.length c', .bool t.f3, .string t.f4]) ∧ Kd.C k44 w' A' t.f2.length t.f2 ∧ t.f2.length ≤ c') ∧ Below w.heap.size w w' :=
  (copy_calls t true A c w hC hc hT).mono fun e w' hp => by
    obtain ⟨⟨A', c', he, h1, h2, _⟩, hB⟩ := hp
    rw [cpT_true] at he h1 h2
    exact ⟨⟨A', c', he, h1, h2⟩, hB⟩
theorem sameP_self (x : SP) : sameP x x = true := by simp [sameP]
theorem sameV_self (x : SV) : sameV x x = true := by simp [sameV]
mutual
theorem sameA_self (s : Bool) : ∀ a : SA, sameA s a a = true
  | ⟨n, sp, v, br, ps, noted, note⟩ => by
    have := sameL_self s ps
    simp [sameA, sameP_self, sameV_self, this]
theorem sameL_self (s : Bool) : ∀ l : List SA, sameL s l l = true
  | [] => by simp only [sameL]
  | a :: r => by
    simp [sameL, sameA_self s a, sameL_self s r]
end
theorem sameOs_self (s : Bool) : ∀ l : List SO, sameOs s l l = true
  | [] => rfl
  | o :: l => by
    show (sameO s o o && sameOs s l l) = true
    rw [sameOs_self s l]
    simp [sameO, sameP_self, sameL_self]
theorem sameT_self (s : Bool) (t : ST) : sameT s t t = true := by
  simp [sameT, sameOs_self]
theorem AtQ.at0 {w : World} {B : Nat} {A : Option Addr} {c : Nat} {q : List Int} (h : AtQ w B A c q) : AtQ0 w A c q := ⟨h.cap, h.rd⟩
theorem flaw_same (cd : Int) (q : List Int) (A A' : Option Addr) (n n' : Nat) (w : World) (h : AtQ0 w A n q) (h' : AtQ0 w A' n' q) :
    Calls Tryz.prog 15 #[.agg #[.int .i64 cd, .slice A q.length n], .agg #[.int .i64 cd, .slice A' q.length n']] w fun e w' => e = .returned (.bool true) ∧ Below w.heap.size w w' :=
  (sameflaw_calls cd A n q cd A' n' q w h.rd h.cap h'.rd h'.cap).mono fun e w' hp => by
    obtain ⟨he, hB⟩ := hp
    exact ⟨by rw [he]; simp, hB⟩
theorem flawq_cells {w : World} {b : Nat} {cd : Int} {v : Value} (h : w.heap[b]? = some (.cells #[.int .i64 cd, v] 29 (0, 0))) : w.cell? ⟨b, 0, none⟩ = some (.int .i64 cd) ∧ w.cell? ⟨b, 1, none⟩ = some v :=
  ⟨(cell_row h 0).trans rfl, (cell_row h 1).trans rfl⟩
theorem blk_below {w w' : World} {k : Nat} {o : Obj} (h : w.heap[k]? = some o) (hB : Below w.heap.size w w') : w'.heap[k]? = some o := (hB.block _ (Array.getElem?_eq_some_iff.1 h).1).trans h
end Go.Proofs.YtmfejjlmflgnbaaGreatDoor.Tok

/- PLAIN LAWS for TokenBack: a list that Join can write reads back as its own tokens, the end's one last. -/
import Derived.Test.YtpecmmicndcgjaaGreatDoorAlike
import Derived.Test.YtpecmmicndcgjaaGreatDoorLawC
namespace Go.Proofs.YtpecmmicndcgjaaGreatDoor.Tok
open Go.RowKit Go.Proofs.YtpecmmicndcgjaaGreatDoor.PA Go.Proofs.YtpecmmicndcgjaaGreatDoorW.PrintWords Go.Proofs.YtpecmmicndcgjaaGreatDoorW.PrintLast Go.Proofs.YtpecmmicndcgjaaGreatDoor.Sp
set_option linter.unusedVariables false
set_option linter.unusedSimpArgs false

def tkS (x : S34) : Sp.Tok := ⟨x.f0.toNat, x.f2.data.toList, x.f3.toNat, x.f4⟩
def itemsOf : List S34 → List Bs → List (Sp.Tok × Bs)
  | x :: r, s :: ss => (tkS x, s) :: itemsOf r ss
  | _, _ => []
theorem spell_kind {k : Int} {t : Bs} {v : Nat} {h : Bool} {s : Bs} (e : spellT k t v h = some s) : 0 ≤ k := by
  unfold spellT at e
  split at e
  · omega
  split at e
  · omega
  split at e
  · omega
  split at e
  · omega
  split at e
  · omega
  · cases e
theorem join_items : ∀ (l : List S34) (ss : List Bs), joinF l = some ss → (∀ x ∈ l, 0 ≤ x.f3 ∧ x.f3 < 4294967296) →
    (∀ x ∈ l, 0 ≤ x.f0) ∧ (∀ p ∈ itemsOf l ss, Sp.Item p) ∧ Sp.lastOnly (itemsOf l ss) ∧ (itemsOf l ss).map Prod.snd = ss ∧ (itemsOf l ss).map Prod.fst = l.map tkS
  | [], ss, h, hw => by
    simp only [joinF, Option.some.injEq] at h
    subst h
    exact ⟨fun x hx => (by cases hx), fun p hp => (by cases hp), trivial, rfl, rfl⟩
  | x :: r, ss, h, hw => by
    unfold joinF at h
    split at h
    · cases h
    · rename_i s hs
      split at h
      · cases h
      · rename_i hz
        obtain ⟨s2, h2, rfl⟩ := Option.map_eq_some_iff.1 h
        obtain ⟨i1, i2, i3, i4, i5⟩ := join_items r s2 h2 (fun y hy => hw y (List.mem_cons_of_mem _ hy))
        have hk := spell_kind hs
        have hx := hw x List.mem_cons_self
        have ek : ((x.f0.toNat : Nat) : Int) = x.f0 := Int.toNat_of_nonneg hk
        refine ⟨fun y hy => ?_, fun p hp => ?_, ⟨fun h0 => ?_, i3⟩, ?_, ?_⟩
        · rcases List.mem_cons.1 hy with rfl | hy
          · exact hk
          · exact i1 y hy
        · rcases List.mem_cons.1 hp with rfl | hp
          · refine ⟨?_, ?_⟩
            · show spellT ((x.f0.toNat : Nat) : Int) _ _ _ = _
              rw [ek]; exact hs
            · show x.f3.toNat ≤ 4294967295
              omega
          · exact i2 p hp
        · have h0' : x.f0.toNat = 0 := h0
          have hr : r = [] := by
            by_cases hr : r = []
            · exact hr
            · exact (hz ⟨by omega, hr⟩).elim
          subst hr
          rfl
        · show s :: _ = _
          rw [i4]
        · show tkS x :: _ = _
          rw [i5]; rfl
def keepB (x : S34) : Bool := decide (x.f0 ≠ 0)
theorem keep_map : ∀ l : List S34, (∀ x ∈ l, 0 ≤ x.f0) → (l.filter keepB).map tkS = (l.map tkS).filter fun y => decide (y.kind ≠ 0)
  | [], _ => rfl
  | x :: l, h => by
    have ih := keep_map l (fun y hy => h y (List.mem_cons_of_mem _ hy))
    have hx := h x List.mem_cons_self
    by_cases hk : x.f0 = 0
    · have e1 : keepB x = false := by simp [keepB, hk]
      have e2 : decide ((tkS x).kind ≠ 0) = false := by simp [tkS, hk]
      rw [List.filter_cons_of_neg (by simp [e1]), List.map_cons, List.filter_cons_of_neg (by simpa using e2), ih]
    · have e1 : keepB x = true := by simp [keepB, hk]
      have e2 : decide ((tkS x).kind ≠ 0) = true := by simp [tkS]; omega
      rw [List.filter_cons_of_pos e1, List.map_cons, List.map_cons, List.filter_cons, if_pos e2, ih]
theorem rd_get (l : List S34) (j : Nat) (h : j < l.length) : rd_T34 l (j : Int) = l[j] := by
  simp [rd_T34, h]
theorem alive_of {l1 l2 : List S34} (h1 : ∀ x ∈ l1, 0 ≤ x.f0 ∧ 0 ≤ x.f3) (h2 : ∀ x ∈ l2, 0 ≤ x.f0 ∧ 0 ≤ x.f3) (e : l1.map tkS = l2.map tkS) : AliveB l1 l2 := by
  have hl : l2.length = l1.length := by
    have := congrArg List.length e
    simpa using this.symm
  refine ⟨hl, fun j hj => ?_⟩
  rw [rd_get l1 j hj, rd_get l2 j (by omega)]
  have ej : tkS l1[j] = tkS l2[j] := by
    have h3 : (l1.map tkS)[j]? = (l2.map tkS)[j]? := by rw [e]
    rw [List.getElem?_map, List.getElem?_map, List.getElem?_eq_getElem hj, List.getElem?_eq_getElem (by omega)] at h3
    exact Option.some.inj h3
  have a1 := h1 l1[j] (List.getElem_mem hj)
  have a2 := h2 l2[j] (List.getElem_mem (by omega))
  generalize l1[j] = x at ej a1
  generalize l2[j] = y at ej a2
  obtain ⟨k, at1, t, v, h⟩ := x
  obtain ⟨k', at2, t', v', h'⟩ := y
  simp only [tkS, Sp.Tok.mk.injEq] at ej
  obtain ⟨e1, e2, e3, e4⟩ := ej
  have et : t = t' := by
    apply ByteArray.ext
    exact Array.toList_inj.1 e2
  simp only at a1 a2
  obtain rfl : k = k' := by omega
  obtain rfl : v = v' := by omega
  subst et e4
  exact ⟨rfl, rfl, rfl, rfl⟩
/-- The whole: what Join wrote, if it is short enough, reads back as the tokens that are no end, and the end's one. -/
theorem back_scan (l : List S34) (ss : List Bs) (h : joinF l = some ss) (hw : ∀ x ∈ l, 0 ≤ x.f3 ∧ x.f3 < 4294967296) (hs : (Lib.join ss [32]).length ≤ 262144) :
    ∃ L, scanT (Lib.join ss [32]) = .ok L ∧ 0 < L.length ∧ L.length ≤ 262145 ∧ AliveB (L.map (toS (Lib.join ss [32]))) (l.filter keepB ++ [z34]) := by
  obtain ⟨i1, i2, i3, i4, i5⟩ := join_items l ss h hw
  obtain ⟨L, hL, hm⟩ := back (itemsOf l ss) i2 i3
  rw [i4] at hL
  have hb := scans_bound hL (Nat.zero_le _)
  refine ⟨L, scanT_of hL hs, hb.1, by omega, alive_of ?_ ?_ ?_⟩
  · intro x hx
    obtain ⟨p, _, rfl⟩ := List.mem_map.1 hx
    exact ⟨by simp [toS], by simp [toS]⟩
  · intro x hx
    rcases List.mem_append.1 hx with hx | hx
    · have := (List.mem_filter.1 hx).1
      exact ⟨i1 x this, (hw x this).1⟩
    · obtain rfl := List.mem_singleton.1 hx
      exact ⟨by simp [z34], by simp [z34]⟩
  · have e1 : (L.map (toS (Lib.join ss [32]))).map tkS = L.map Prod.fst := by
      rw [List.map_map]
      apply List.map_congr_left
      intro p _
      simp [tkS, toS]
    rw [e1, hm, List.map_append, keep_map l i1]
    unfold real
    rw [i5]
    rfl
end Go.Proofs.YtpecmmicndcgjaaGreatDoor.Tok

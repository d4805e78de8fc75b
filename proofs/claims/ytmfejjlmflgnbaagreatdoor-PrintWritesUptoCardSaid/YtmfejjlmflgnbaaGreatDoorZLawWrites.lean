/- A part of the set. -/
import Derived.Test.YtmfejjlmflgnbaaGreatDoorZLawB
import Derived.Test.YtmfejjlmflgnbaaGreatDoorZRp3
namespace Go.Proofs.YtmfejjlmflgnbaaGreatDoor.Tok
open Go.RowKit Go.Proofs.YtmfejjlmflgnbaaGreatDoor.PA Go.Proofs.YtmfejjlmflgnbaaGreatDoorW.PrintWords Go.Proofs.YtmfejjlmflgnbaaGreatDoorW.PrintLast Go.Proofs.YtmfejjlmflgnbaaGreatDoor.Sp Go.Proofs.YtmfejjlmflgnbaaGreatDoor.Tr
set_option linter.unusedVariables false
set_option linter.unusedSimpArgs false
set_option maxRecDepth 100000
def prS (t : ST) : ByteArray := match badT t with
  | some _ => ⟨#[]⟩
  | none => if (treeT t).length > 262144 then ⟨#[]⟩ else ⟨(treeT t).toArray⟩
def prC (t : ST) : Int := match badT t with
  | some _ => 40
  | none => if (treeT t).length > 262144 then 24 else 0
def PrV (S : ByteArray) (d : Int) (q : List Int) (w : World) (e : Ending) (w' : World) : Prop := (∃ A c, e = .returned (.tuple #[.string S, .agg #[.int .i64 d, .slice A q.length c]]) ∧ AtQ0 w' A c q) ∧ Below w.heap.size w w'
theorem print_val {t : ST} {w w' : World} {e : Ending} (h : PrintRes t w e w') : PrV (prS t) (prC t) (qOf (badT t)) w e w' := by
  obtain ⟨hB, h⟩ := h
  refine ⟨?_, hB⟩
  unfold prS prC
  cases hr : badT t with
  | some q =>
    rw [hr] at h
    exact h
  | none =>
    rw [hr] at h
    simp only at h ⊢
    by_cases hl : (treeT t).length > 262144
    · rw [if_pos hl] at h
      rw [if_pos hl, if_pos hl]
      exact ⟨none, 0, h, ⟨Nat.le_refl _, C_nil _ _⟩⟩
    · rw [if_neg hl] at h
      rw [if_neg hl, if_neg hl]
      exact ⟨none, 0, h, ⟨Nat.le_refl _, C_nil _ _⟩⟩
set_option maxHeartbeats 32000000 in
theorem law_writes (t : ST) (A : Option Addr) (c : Nat) (w : World) (hC : Kd.C k44 w A t.f2.length t.f2) (hc : t.f2.length ≤ c) (hT : TreeSm t) (hG : Glob w) :
    Calls Tryz.prog 4 #[treeV t A c] w fun e w' => e = .returned (.bool true) ∧ Below w.heap.size w w' := by
  have HG := Lib.hid hG
  have HC := Lib.hid hC
  have HT := Lib.hid hT
  have HCC := Lib.hid hc
  have HP : Hid (∀ W A' c', Glob W → Kd.C k44 W A' t.f2.length t.f2 → t.f2.length ≤ c' → Calls Tryz.prog 18 #[treeV t A' c'] W (PrV (prS t) (prC t) (qOf (badT t)) W)) :=
    Lib.hid (fun W A' c' h1 h2 h3 => (pprint_calls t A' c' W h2 h3 hT h1).mono fun e w' hp => print_val hp)
  have HPR : Hid (∀ W, Kd.C k44 W A t.f2.length t.f2 → Calls Tryz.prog 19 #[treeV t A c] W (PrV (prS t) (prC t) (qOf (badT t)) W)) :=
    Lib.hid (fun W h2 => (rprint_calls t A c W h2 hc hT).mono fun e w' hp => print_val hp)
  generalize prC t = cd at HP HPR
  generalize prS t = S at HP HPR
  generalize qOf (badT t) = q at HP HPR
  have HSM : Hid (∀ W A' c', Kd.C k44 W A' t.f2.length t.f2 → t.f2.length ≤ c' → Kd.C k44 W A t.f2.length t.f2 → Calls Tryz.prog 16 #[treeV t A' c', treeV t A c, .bool true] W fun e w' => e = .returned (.bool true) ∧ Below W.heap.size W w') :=
    Lib.hid (fun W A' c' h1 h2 h3 => (rsame_calls true t t A' A c' c W h1 h2 h3 hc (fun j o ho => by have := hT.ok.cnt j o ho; omega) (by have := hT.ok.len; omega)).mono fun e w' hp => by rw [sameT_self] at hp; exact hp)
  clear hG hC
  have tk1 : True := trivial
  have tk2 : True := trivial
  have tk3 : True := trivial
  unfold treeV treeC
  go_enter Tryz.func4, Tryz.ntmps4
  go_wp2_with fail
  obtain ⟨w1, hw1⟩ : ∃ w1 : World, w1 = w.alloc (.cells #[.string t.f0, .string t.f1, .slice A t.f2.length c, .bool t.f3, .string t.f4] 24) := ⟨_, rfl⟩
  rw [← hw1]
  have B1 : Hid (Below w.heap.size w w1) := Lib.hid (by rw [hw1]; exact alloc_below _ _)
  have G1 : Hid (w1.heap[w.heap.size]? = some (.cells (treeC t A c) 24 (0, 0))) := Lib.hid (by rw [hw1]; exact heap_alloc_new _ _)
  clear hw1
  refine (copyT_calls t A c w1 (Kd.C_below HC.out B1.out) hc HT.out.ok).mono ?_
  rintro e w2 ⟨⟨A', c', rfl, hC2, hc2⟩, hB2⟩
  have C2 := Lib.hid hC2
  have CC2 := Lib.hid hc2
  have B12 := Lib.hid hB2
  clear hC2 hc2 hB2
  go_wp2_with (first
    | (have _t := tk1; refine run_event rfl (.alloc 24) rfl (.pointer (some ⟨w2.heap.size, 0, none⟩)) (w2.alloc (.cells tree0 24)) (by kernel_rfl) ?_; intro w3 hw3; have B23 : Hid (Below w2.heap.size w2 w3) := Lib.hid (by rw [hw3]; exact alloc_below _ _); have G3 : Hid (w3.heap[w2.heap.size]? = some (.cells tree0 24 (0, 0))) := Lib.hid (by rw [hw3]; exact heap_alloc_new _ _); clear hw3 tk1 _t)
    | ((with_reducible refine gate_store (t := 24) (p := 3) rfl ?_); refine put_event rfl 24 _ _ rfl w2.heap.size (treeC t A' c') rfl rfl 24 tree0 G3.out (by kernel_rfl) rfl (tree_all _ _ _) w2.heap.size (Nat.le_refl _) ?_; intro w4 hb4 hB4 hs4 ho4; have G4 := Lib.hid hb4; have B24 : Hid (Below w2.heap.size w2 w4) := Lib.hid (B23.out.trans hB4); have B4 : Hid (Below w.heap.size w w4) := Lib.hid (dz B1.out (dz B12.out B24.out)); have G14 : Hid (w4.heap[w.heap.size]? = some (.cells (treeC t A c) 24 (0, 0))) := Lib.hid (blk_below G1.out (dz B12.out B24.out)); obtain ⟨y0, y1, y2, y3, y4⟩ := tree_read hb4 (Below.refl _ _); clear hb4 hB4 hs4 ho4)
    | (go_at_call 18; refine (HP.out _ A' c' (HG.out.below B4.out) (Kd.C_below C2.out B24.out) CC2.out).mono ?_; rintro e w5 ⟨⟨Af, cf, rfl, hQ5⟩, hB5⟩; have Q5 := Lib.hid hQ5; have B45 := Lib.hid hB5; clear hQ5 hB5 y0 y1 y2 y3 y4)
    | (have _t := tk2; refine run_event rfl (.alloc 29) rfl (.pointer (some ⟨w5.heap.size, 0, none⟩)) (w5.alloc (.cells flawC0 29)) (by kernel_rfl) ?_; intro w6 hw6; have B56 : Hid (Below w5.heap.size w5 w6) := Lib.hid (by rw [hw6]; exact alloc_below _ _); have G6 : Hid (w6.heap[w5.heap.size]? = some (.cells flawC0 29 (0, 0))) := Lib.hid (by rw [hw6]; exact heap_alloc_new _ _); clear hw6 tk2 _t)
    | ((with_reducible refine gate_store (t := 29) (p := 5) rfl ?_); refine put_event rfl 29 _ _ rfl w5.heap.size #[.int .i64 cd, .slice Af q.length cf] rfl rfl 29 flawC0 G6.out (by kernel_rfl) rfl (flaw_all _ _ _ _) w5.heap.size (Nat.le_refl _) ?_; intro w7 hb7 hB7 hs7 ho7; have G7 := Lib.hid hb7; have B57 : Hid (Below w5.heap.size w5 w7) := Lib.hid (B56.out.trans hB7); have B47 : Hid (Below w4.heap.size w4 w7) := Lib.hid (dz B45.out B57.out); have B7 : Hid (Below w.heap.size w w7) := Lib.hid (dz B4.out B47.out); obtain ⟨y0, y1, y2, y3, y4⟩ := tree_read G14.out B47.out; clear hb7 hB7 hs7 ho7)
    | (go_at_call 19; refine (HPR.out _ (Kd.C_below HC.out B7.out)).mono ?_; rintro e w8 ⟨⟨Ar, cr, rfl, hQ8⟩, hB8⟩; have Q8 := Lib.hid hQ8; have B78 := Lib.hid hB8; clear hQ8 hB8 y0 y1 y2 y3 y4)
    | (have _t := tk3; refine run_event rfl (.alloc 29) rfl (.pointer (some ⟨w8.heap.size, 0, none⟩)) (w8.alloc (.cells flawC0 29)) (by kernel_rfl) ?_; intro w9 hw9; have B89 : Hid (Below w8.heap.size w8 w9) := Lib.hid (by rw [hw9]; exact alloc_below _ _); have G9 : Hid (w9.heap[w8.heap.size]? = some (.cells flawC0 29 (0, 0))) := Lib.hid (by rw [hw9]; exact heap_alloc_new _ _); clear hw9 tk3 _t)
    | ((with_reducible refine gate_store (t := 29) (p := 7) rfl ?_); refine put_event rfl 29 _ _ rfl w8.heap.size #[.int .i64 cd, .slice Ar q.length cr] rfl rfl 29 flawC0 G9.out (by kernel_rfl) rfl (flaw_all _ _ _ _) w8.heap.size (Nat.le_refl _) ?_; intro w10 hb10 hB10 hs10 ho10; have G10 := Lib.hid hb10; have B810 : Hid (Below w8.heap.size w8 w10) := Lib.hid (B89.out.trans hB10); have B710 : Hid (Below w7.heap.size w7 w10) := Lib.hid (dz B78.out B810.out); have B410 : Hid (Below w4.heap.size w4 w10) := Lib.hid (dz B47.out B710.out); have B10 : Hid (Below w.heap.size w w10) := Lib.hid (dz B7.out B710.out); have G710 : Hid (w10.heap[w5.heap.size]? = some (.cells #[.int .i64 cd, .slice Af q.length cf] 29 (0, 0))) := Lib.hid (blk_below G7.out B710.out); obtain ⟨u0, u1⟩ := flawq_cells G710.out; obtain ⟨v0, v1⟩ := flawq_cells hb10; clear hb10 hB10 hs10 ho10)
    | (go_at_call 15; refine (flaw_same cd q Af Ar cf cr _ (Q5.out.below (dz B57.out B710.out)) (Q8.out.below B810.out)).mono ?_; rintro e w11 ⟨rfl, hB11⟩; have B1011 := Lib.hid hB11; have B411 : Hid (Below w4.heap.size w4 w11) := Lib.hid (dz B410.out B1011.out); have B11 : Hid (Below w.heap.size w w11) := Lib.hid (dz B10.out B1011.out); clear hB11 u0 u1 v0 v1; obtain ⟨y0, y1, y2, y3, y4⟩ := tree_read G4.out B411.out; obtain ⟨z0, z1, z2, z3, z4⟩ := tree_read G14.out B411.out)
    | (go_at_call 16; refine (HSM.out _ A' c' (Kd.C_below C2.out (dz B24.out B411.out)) CC2.out (Kd.C_below HC.out B11.out)).mono ?_; rintro e w15 ⟨rfl, hB15⟩; have B15 : Hid (Below w.heap.size w w15) := Lib.hid (dz B11.out hB15); clear hB15 y0 y1 y2 y3 y4 z0 z1 z2 z3 z4)
    | (go_at_call 17; refine (palive_calls _ (HG.out.below B15.out)).mono ?_; rintro e w16 ⟨rfl, hB16⟩; have B16 : Hid (Below w.heap.size w w16) := Lib.hid (dz B15.out hB16); clear hB16))
  go_ret
  exact ⟨rfl, B16.out⟩
end Go.Proofs.YtmfejjlmflgnbaaGreatDoor.Tok

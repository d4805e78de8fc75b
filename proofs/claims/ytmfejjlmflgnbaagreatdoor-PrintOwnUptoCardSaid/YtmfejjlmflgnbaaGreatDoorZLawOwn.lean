/- THE LAWS' WALKS: PrintOwn, its parts: objects' rows, spent elements. -/
import Derived.Test.YtmfejjlmflgnbaaGreatDoorZSpoil
import Derived.Test.YtmfejjlmflgnbaaGreatDoorZLawPlain
namespace Go.Proofs.YtmfejjlmflgnbaaGreatDoor.Tok
open Go.RowKit Go.Proofs.YtmfejjlmflgnbaaGreatDoor.PA Go.Proofs.YtmfejjlmflgnbaaGreatDoorW.PrintWords Go.Proofs.YtmfejjlmflgnbaaGreatDoorW.PrintLast Go.Proofs.YtmfejjlmflgnbaaGreatDoor.Sp Go.Proofs.YtmfejjlmflgnbaaGreatDoor.Tr
set_option linter.unusedVariables false
set_option linter.unusedSimpArgs false
set_option maxRecDepth 100000

/-- An object, its rows apart; or any cells (an object that is spent). -/
def ksx : Kd (Option SO) where
  sz := 8
  E := kso.E
  K := fun w x cs => match x with
    | some o => kso.K w o cs
    | none => cs.length = 8 ∧ ∀ u ∈ cs, u.oneCell' = true
  M := fun w base ok x cs => match x with
    | some o => kso.M w base ok o cs
    | none => cs.length = 8 ∧ ∀ u ∈ cs, u.oneCell' = true
  K_len := by
    rintro w x cs h
    cases x with
    | some o => exact kso.K_len h
    | none => exact h.1
  K_one := by
    rintro w x cs h
    cases x with
    | some o => exact kso.K_one h
    | none => exact h.2
  K_below := by
    rintro w w1 x cs hb h
    cases x with
    | some o => exact kso.K_below hb h
    | none => exact h
  K_of_M := by
    rintro w base ok x cs h
    cases x with
    | some o => exact kso.K_of_M h
    | none => exact h
  M_mono := by
    rintro w base ok ok' x cs hok h
    cases x with
    | some o => exact kso.M_mono hok h
    | none => exact h
  M_bound := by
    rintro w base ok x cs h
    cases x with
    | some o => exact kso.M_bound h
    | none => exact h
  M_move := by
    rintro w w1 base ok x cs hm h
    cases x with
    | some o => exact kso.M_move hm h
    | none => exact h
  M_lower := by
    rintro w base base' ok x cs hb h
    cases x with
    | some o => exact kso.M_lower hb h
    | none => exact h
theorem S_some {w : World} {base : Nat} {ok : Nat → Prop} {v : Value} {xs : List SO} (h : Kd.S kso 44 w base ok v xs) : Kd.S ksx 44 w base ok v (xs.map some) := by
  obtain ⟨f, h0, inner, ho, hr⟩ := h
  refine ⟨f, h0, inner, ?_, ?_, fun j p hj => ?_⟩
  · rw [List.length_zipIdx] at ho ⊢
    rw [List.length_map]
    exact ho
  · have := hr.1
    rw [List.length_zipIdx] at this ⊢
    rw [List.length_map]
    exact this
  · rw [List.getElem?_zipIdx, Nat.zero_add, List.getElem?_map] at hj
    obtain ⟨x, hx, rfl⟩ := Option.map_eq_some_iff.1 hj
    obtain ⟨y, hy, rfl⟩ := Option.map_eq_some_iff.1 hx
    exact hr.2 j (y, j) (Kd.zip_at hy)
/-- The row after i rounds: the elder ones are spent. -/
def mixO (l : List SO) (i : Nat) : List (Option SO) := List.replicate i none ++ (l.drop i).map some
theorem mixO_len (l : List SO) (i : Nat) (h : i ≤ l.length) : (mixO l i).length = l.length := by
  unfold mixO
  rw [List.length_append, List.length_replicate, List.length_map, List.length_drop]
  omega
theorem mixO_zero (l : List SO) : mixO l 0 = l.map some := by
  unfold mixO
  simp
theorem mixO_at (l : List SO) (i : Nat) (z : Option SO) (h : i < l.length) : (mixO l i).getD ((i : Int)).toNat z = some l[i] := by
  unfold mixO
  rw [Int.toNat_natCast, List.getD_eq_getElem?_getD, List.getElem?_append_right (by simp), List.length_replicate, Nat.sub_self, List.getElem?_map, List.getElem?_drop, Nat.add_zero, List.getElem?_eq_getElem h]
  rfl
theorem mixO_set (l : List SO) (i : Nat) (h : i < l.length) : (mixO l i).set ((i : Int)).toNat none = mixO l (i + 1) := by
  unfold mixO
  rw [Int.toNat_natCast]
  apply List.ext_getElem?
  intro k
  rcases Nat.lt_trichotomy k i with hk | hk | hk
  · rw [List.getElem?_set_ne (by omega), List.getElem?_append_left (by simpa using hk), List.getElem?_append_left (by simp; omega), List.getElem?_replicate, List.getElem?_replicate, if_pos hk, if_pos (by omega)]
  · subst hk
    rw [List.getElem?_set_self (by simp; omega), List.getElem?_append_left (by simp), List.getElem?_replicate, if_pos (by omega)]
  · rw [List.getElem?_set_ne (by omega), List.getElem?_append_right (by simp; omega), List.getElem?_append_right (by simp; omega), List.getElem?_map, List.getElem?_map, List.getElem?_drop, List.getElem?_drop, List.length_replicate, List.length_replicate]
    congr 2
    omega
/-- What stands while object i's row is written. -/
structure HO (w W : World) (base : Nat) (ok oki : Nat → Prop) (g n cap : Nat) (l : List SO) (i : Nat) (c : List Value) : Prop where
  hole : Kd.H ksx 44 W base ok (.slice (some ⟨g, 0, none⟩) n cap) (mixO l i) (i : Int) oki c
  bel : Below base w W
  keep : ∀ k, k < w.heap.size → ¬ ok k → W.heap[k]? = w.heap[k]?
theorem HO.grown {w W W1 : World} {base : Nat} {ok oki : Nat → Prop} {g n cap : Nat} {l : List SO} {i : Nat} {c : List Value} (h : HO w W base ok oki g n cap l i c) {row : Option Nat} (hg : W.grownBy W1 row) (hrow : ∀ k, row = some k → oki k) (hb : Below base w W1) : HO w W1 base ok oki g n cap l i c :=
  ⟨Kd.H_grown h.hole hg hrow, hb, fun k hk hn => (hg.block k (by have := h.bel.size; omega) (fun e => hn (h.hole.1 k (hrow k e.symm)))).trans (h.keep k hk hn)⟩
theorem HO.cell {w W : World} {base : Nat} {ok oki : Nat → Prop} {g n cap : Nat} {l : List SO} {i : Nat} {c : List Value} (h : HO w W base ok oki g n cap l i c) (hi : i < n) (j : Nat) (u : Value) (hu : c[j]? = some u) : W.cell? ⟨g, i * 8 + j, none⟩ = some u := by
  have h1 := (Kd.H_at h.hole (by omega) (by omega)).1 j u hu
  rw [Int.toNat_natCast] at h1
  exact h1
theorem HO.there {w W : World} {base : Nat} {ok oki : Nat → Prop} {g n cap : Nat} {l : List SO} {i : Nat} {c : List Value} (h : HO w W base ok oki g n cap l i c) (hi : i < n) (j : Nat) (u : Value) (hu : c[j]? = some u) : W.there g (i * 8 + j) 1 := fun k hk => by
  obtain rfl : k = 0 := by omega
  have h4 := (Kd.H_at h.hole (by omega) (by omega)).2 j
  rw [Int.toNat_natCast] at h4
  rw [Nat.add_zero]
  exact ⟨by rw [h.cell hi j u hu]; rfl, h4⟩
/-- One cell of the object is written. -/
theorem HO.put {w W W1 : World} {base : Nat} {ok oki : Nat → Prop} {g n cap : Nat} {l : List SO} {i : Nat} {c : List Value} (h : HO w W base ok oki g n cap l i c) (hi : i < n) (hbs : base ≤ w.heap.size) (hbg : base ≤ g) (hok : ok g) (j : Nat) (u : Value) (hj : j < 8) (hu : u.oneCell' = true) (hw : W1 = W.setCells g (i * 8 + j) [u]) :
    HO w W1 base ok oki g n cap l i (c.take j ++ [u] ++ c.drop (j + 1)) ∧ W.grownBy W1 (some g) := by
  subst hw
  obtain ⟨h1, h2⟩ := Kd.H_seg h.hole (by omega) (by omega) (seg := [u]) (j := j) (by show j + 1 ≤ 8; omega) (fun q hq => by rw [List.mem_singleton.1 hq]; exact hu)
  rw [show (i : Int).toNat * ksx.sz + j = i * 8 + j from by rw [Int.toNat_natCast]; rfl] at h1 h2
  refine ⟨⟨h1, h.bel.grown h2 (by have := h.bel.size; omega) (fun k hk => by injection hk with hk; omega), fun k hk hn => (h2.block k (by have := h.bel.size; omega) (fun e => ?_)).trans (h.keep k hk hn)⟩, h2⟩
  injection e with e
  subst e
  exact hn hok
/-- The object is spent. -/
theorem HO.back {w W : World} {base : Nat} {ok oki : Nat → Prop} {g n cap : Nat} {l : List SO} {i : Nat} {c : List Value} (h : HO w W base ok oki g n cap l i c) (hi : i < l.length) (hc : c.length = 8) (h1 : ∀ u ∈ c, u.oneCell' = true) : Kd.S ksx 44 W base ok (.slice (some ⟨g, 0, none⟩) n cap) (mixO l (i + 1)) := by
  have := Kd.H_back h.hole (x' := none) (okp := fun _ => False) (show ksx.M W base (fun _ => False) none c from ⟨hc, h1⟩) (fun k hk => hk.elim)
  rw [mixO_set l i hi] at this
  exact this
theorem obj_one (s : ByteArray) : ∀ u ∈ ([.string s, .string ⟨#[]⟩, .int .i64 0, .int .i64 0, .int .i64 0, .slice none 0 0, .bool false, .string ⟨#[]⟩] : List Value), u.oneCell' = true := by simp [Value.oneCell']
set_option maxHeartbeats 32000000 in
theorem law_own (t : ST) (A : Option Addr) (c : Nat) (w : World) (hC : Kd.C k44 w A t.f2.length t.f2) (hc : t.f2.length ≤ c) (hT : TreeSm t) (hG : Glob w) :
    Calls Tryz.prog 6 #[treeV t A c] w fun e w' => e = .returned (.bool true) ∧ Below w.heap.size w w' := by
  have HG := Lib.hid hG
  have HC := Lib.hid hC
  have HT := Lib.hid hT.ok
  have HCC := Lib.hid hc
  have hnt : ∀ (j : Nat) (o : SO), t.f2[j]? = some o → cntL o.f3 ≤ 1000000000 := fun j o ho => by have := hT.ok.cnt j o ho; omega
  have hlt : t.f2.length ≤ 1000000000 := by have := hT.ok.len; omega
  have HS1 : Hid (∀ W A' c', Kd.C k44 W A t.f2.length t.f2 → Kd.C k44 W A' t.f2.length t.f2 → t.f2.length ≤ c' → Calls Tryz.prog 16 #[.agg #[.string t.f0, .string t.f1, .slice A t.f2.length c, .bool t.f3, .string t.f4], .agg #[.string t.f0, .string t.f1, .slice A' t.f2.length c', .bool t.f3, .string t.f4], .bool true] W fun e w' => e = .returned (.bool true) ∧ Below W.heap.size W w') :=
    Lib.hid (fun W A' c' h1 h2 h3 => (rsame_calls true t t A A' c c' W h1 hc h2 h3 hnt hlt).mono fun e w' hp => by rw [sameT_self] at hp; exact hp)
  have HS2 : Hid (∀ W Aq cq A' c', Kd.C k44 W Aq (bareT t).f2.length (bareT t).f2 → t.f2.length ≤ cq → Kd.C k44 W A' t.f2.length t.f2 → t.f2.length ≤ c' → Calls Tryz.prog 16 #[.agg #[.string t.f0, .string t.f1, .slice Aq t.f2.length cq, .bool t.f3, .string t.f4], .agg #[.string t.f0, .string t.f1, .slice A' t.f2.length c', .bool t.f3, .string t.f4], .bool false] W fun e w' => e = .returned (.bool true) ∧ Below W.heap.size W w') :=
    Lib.hid (fun W Aq cq A' c' h1 h2 h3 h4 => by have := rsame_calls false (bareT t) t Aq A' cq c' W h1 (by rw [bare_len]; exact h2) h3 h4 (bare_cnt hT.ok) (by rw [bare_len]; exact hlt); rw [sameT_comm, sameT_bare, tV_bare] at this; exact this)
  have HBC := Lib.hid (bare_cnt hT.ok)
  have HLT := Lib.hid hlt
  clear hG hC hnt hlt
  have tk1 : True := trivial
  have tk2 : True := trivial
  have tk3 : True := trivial
  have tq1 : True := trivial
  unfold treeV treeC
  go_enter Tryz.func6, Tryz.ntmps6
  go_wp2_with fail
  obtain ⟨w1, hw1⟩ : ∃ w1 : World, w1 = w.alloc (.cells #[.string t.f0, .string t.f1, .slice A t.f2.length c, .bool t.f3, .string t.f4] 24) := ⟨_, rfl⟩
  rw [← hw1]
  have B1 : Hid (Below w.heap.size w w1) := Lib.hid (by rw [hw1]; exact alloc_below _ _)
  have G1 : Hid (w1.heap[w.heap.size]? = some (.cells (treeC t A c) 24 (0, 0))) := Lib.hid (by rw [hw1]; exact heap_alloc_new _ _)
  clear hw1
  refine (copyT_calls t A c w1 (Kd.C_below HC.out B1.out) hc HT.out).mono ?_
  rintro e w2 ⟨⟨A', c', rfl, hC2, hc2⟩, hB2⟩
  have C2 := Lib.hid hC2
  have CC2 := Lib.hid hc2
  have B12 := Lib.hid hB2
  clear hC2 hc2 hB2
  go_wp2_with (first
    | (have _t := tk1; refine run_event rfl (.alloc 24) rfl (.pointer (some ⟨w2.heap.size, 0, none⟩)) (w2.alloc (.cells tree0 24)) (by kernel_rfl) ?_; intro w3 hw; have B23 : Hid (Below w2.heap.size w2 w3) := Lib.hid (by rw [hw]; exact alloc_below _ _); have G3 : Hid (w3.heap[w2.heap.size]? = some (.cells tree0 24 (0, 0))) := Lib.hid (by rw [hw]; exact heap_alloc_new _ _); clear hw tk1 _t)
    | ((with_reducible refine gate_store (t := 24) (p := 3) rfl ?_); refine put_event rfl 24 _ _ rfl w2.heap.size (treeC t A' c') rfl rfl 24 tree0 G3.out (by kernel_rfl) rfl (tree_all _ _ _) w2.heap.size (Nat.le_refl _) ?_; intro w4 hb4 hB4 hs4 ho4; have G4 := Lib.hid hb4; have B24 : Hid (Below w2.heap.size w2 w4) := Lib.hid (B23.out.trans hB4); have B4 : Hid (Below w.heap.size w w4) := Lib.hid (B1.out.trans ((B12.out.trans (B24.out.mono B12.out.size)).mono B1.out.size)); have G14 : Hid (w4.heap[w.heap.size]? = some (.cells (treeC t A c) 24 (0, 0))) := Lib.hid (blk_below G1.out (B12.out.trans (B24.out.mono B12.out.size))); have S24 := Lib.hid (show w2.heap.size < w4.heap.size from (Array.getElem?_eq_some_iff.1 hb4).1); clear hb4 hB4 hs4 ho4; obtain ⟨y0, y1, y2, y3, y4⟩ := tree_read G14.out (Below.refl _ _))
    | (go_at_call 20; have _t := tq1; refine (pplainS_calls t A c _ (Kd.C_below HC.out B4.out) HCC.out HT.out).mono ?_; rintro e w5 ⟨⟨Ap, cp, rfl, hSp⟩, hB5⟩; have SP := Lib.hid hSp; have B45 := Lib.hid hB5; clear hSp hB5 tq1 _t y0 y1 y2 y3 y4)
    | (have _t := tk2; refine run_event rfl (.alloc 24) rfl (.pointer (some ⟨w5.heap.size, 0, none⟩)) (w5.alloc (.cells tree0 24)) (by kernel_rfl) ?_; intro w6 hw; have B56 : Hid (Below w5.heap.size w5 w6) := Lib.hid (by rw [hw]; exact alloc_below _ _); have G6 : Hid (w6.heap[w5.heap.size]? = some (.cells tree0 24 (0, 0))) := Lib.hid (by rw [hw]; exact heap_alloc_new _ _); clear hw tk2 _t)
    | ((with_reducible refine gate_store (t := 24) (p := 4) rfl ?_); refine put_event rfl 24 _ _ rfl w5.heap.size (treeC t Ap cp) rfl rfl 24 tree0 G6.out (by kernel_rfl) rfl (tree_all _ _ _) w5.heap.size (Nat.le_refl _) ?_; intro w7 hb7 hB7 hs7 ho7; have G7 := Lib.hid hb7; have B57 : Hid (Below w5.heap.size w5 w7) := Lib.hid (B56.out.trans hB7); have B47 : Hid (Below w4.heap.size w4 w7) := Lib.hid (B45.out.trans (B57.out.mono B45.out.size)); have S57 := Lib.hid (show w5.heap.size < w7.heap.size from (Array.getElem?_eq_some_iff.1 hb7).1); have B7 : Hid (Below w.heap.size w w7) := Lib.hid (B4.out.trans (B47.out.mono B4.out.size)); clear hb7 hB7 hs7 ho7; obtain ⟨y0, y1, y2, y3, y4⟩ := tree_read G14.out B47.out)
    | (go_at_call 20; refine (pplainS_calls t A c _ (Kd.C_below HC.out B7.out) HCC.out HT.out).mono ?_; rintro e w8 ⟨⟨Aq, cq, rfl, hSq⟩, hB8⟩; have SQ := Lib.hid hSq; have B78 := Lib.hid hB8; clear hSq hB8 y0 y1 y2 y3 y4)
    | (have _t := tk3; refine run_event rfl (.alloc 24) rfl (.pointer (some ⟨w8.heap.size, 0, none⟩)) (w8.alloc (.cells tree0 24)) (by kernel_rfl) ?_; intro w9 hw; have B89 : Hid (Below w8.heap.size w8 w9) := Lib.hid (by rw [hw]; exact alloc_below _ _); have G9 : Hid (w9.heap[w8.heap.size]? = some (.cells tree0 24 (0, 0))) := Lib.hid (by rw [hw]; exact heap_alloc_new _ _); clear hw tk3 _t)
    | ((with_reducible refine gate_store (t := 24) (p := 5) rfl ?_); refine put_event rfl 24 _ _ rfl w8.heap.size (treeC t Aq cq) rfl rfl 24 tree0 G9.out (by kernel_rfl) rfl (tree_all _ _ _) w8.heap.size (Nat.le_refl _) ?_; intro w10 hb10 hB10 hs10 ho10; have G10 := Lib.hid hb10; have B810 : Hid (Below w8.heap.size w8 w10) := Lib.hid (B89.out.trans hB10); have B710 : Hid (Below w7.heap.size w7 w10) := Lib.hid (B78.out.trans (B810.out.mono B78.out.size)); have B410 : Hid (Below w4.heap.size w4 w10) := Lib.hid (B47.out.trans (B710.out.mono B47.out.size)); have S810 := Lib.hid (show w8.heap.size < w10.heap.size from (Array.getElem?_eq_some_iff.1 hb10).1); clear hb10 hB10 hs10 ho10))
  have HZ : Hid (w.heap.size < w4.heap.size ∧ w2.heap.size < w4.heap.size ∧ w4.heap.size ≤ w5.heap.size ∧ w5.heap.size < w7.heap.size ∧ w7.heap.size ≤ w8.heap.size ∧ w8.heap.size < w10.heap.size) := Lib.hid ⟨(Array.getElem?_eq_some_iff.1 G14.out).1, S24.out, B45.out.size, S57.out, B78.out.size, S810.out⟩
  obtain ⟨okp, hokp⟩ : ∃ okp : Nat → Prop, okp = (fun k => (w4.heap.size ≤ k ∧ k < w5.heap.size) ∨ w10.heap.size ≤ k) := ⟨_, rfl⟩
  have HOK : Hid (∀ k, okp k ↔ ((w4.heap.size ≤ k ∧ k < w5.heap.size) ∨ w10.heap.size ≤ k)) := Lib.hid (fun k => by rw [hokp])
  clear hokp
  obtain ⟨ob, hob⟩ : ∃ ob : List SO, ob = t.f2.map bareO := ⟨_, rfl⟩
  have HOB := Lib.hid hob
  have HOL : Hid (ob.length = t.f2.length) := Lib.hid (by rw [hob, List.length_map])
  have HOC : Hid (∀ (j : Nat) (o : SO), ob[j]? = some o → cntL o.f3 ≤ 1000000000) := Lib.hid (by rw [hob]; exact HBC.out)
  have SP0 : Hid (Kd.S ksx 44 w10 w4.heap.size okp (.slice Ap t.f2.length cp) (mixO ob 0)) := Lib.hid (by
    rw [mixO_zero, hob]
    have h1 := Kd.S_mono (ok' := okp) (Kd.S_bound SP.out) (fun k hk => (HOK.out k).2 (Or.inl ⟨hk.2.1, hk.2.2.1⟩))
    exact S_some (Kd.S_below h1 (B57.out.trans (B710.out.mono B57.out.size))))
  clear hob
  have GP : Hid (w10.heap[w5.heap.size]? = some (.cells (treeC t Ap cp) 24 (0, 0))) := Lib.hid (blk_below G7.out B710.out)
  have BS : Hid (w4.heap.size ≤ w10.heap.size) := Lib.hid B410.out.size
  go_loopw [6] (fun v wr => ∃ i : Nat, v = .int .i64 (i : Int) ∧ i ≤ t.f2.length ∧ Hid (Kd.S ksx 44 wr w4.heap.size okp (.slice Ap t.f2.length cp) (mixO ob i)) ∧ Hid (Below w4.heap.size w10 wr) ∧ Hid (∀ k, k < w10.heap.size → ¬ okp k → wr.heap[k]? = w10.heap[k]?)) (fun v _ => t.f2.length - (intOf v).toNat)
  case atStart => exact ⟨0, by go_num, by omega, SP0, Lib.hid (Below.refl _ _), Lib.hid (fun _ _ _ => rfl)⟩
  case round =>
    obtain ⟨i, rfl, hi, SR, BL, KL⟩ := hrel
    have hl9 := HLT.out
    have GPr : Hid (wr.heap[w5.heap.size]? = some (.cells (treeC t Ap cp) 24 (0, 0))) := Lib.hid ((KL.out _ (by have := HZ.out; omega) (fun h => by have := (HOK.out _).1 h; have := HZ.out; omega)).trans GP.out)
    obtain ⟨_, _, y2, _, _⟩ := tree_read GPr.out (Below.refl _ _)
    by_cases hlt : i < t.f2.length
    · have hlo : i < ob.length := by rw [HOL.out]; exact hlt
      have hx : ob[i]? = some ob[i] := List.getElem?_eq_getElem hlo
      have hml := mixO_len ob i (by omega)
      rw [HOL.out] at hml
      obtain ⟨g, cap, hv, hbg, hgl, _⟩ := Kd.S_form SR.out (by omega)
      injection hv with hA hn hcc
      clear hn
      subst hA hcc
      have HOG := Lib.hid (show okp g from by
        obtain ⟨f, h0, _⟩ := SR.out
        exact h0 g (by simp [Value.ownBlock]))
      obtain ⟨oki, cs, hcl, hM, _, hoki, hH⟩ := Kd.S_lend SR.out none (i : Int) (by omega) (by omega)
      rw [mixO_at ob i _ hlo] at hM
      have hcn := HOC.out i _ hx
      generalize ob[i] = o at hM hcn hx
      obtain ⟨v5, hcs, hS5⟩ := kso_openM (show kso.M wr w4.heap.size oki o cs from hM)
      subst hcs
      obtain ⟨A5, c5, e5⟩ := S_form2 hS5
      subst e5
      obtain ⟨okx, hokx⟩ : ∃ okx : Nat → Prop, okx = (fun k => oki k ∨ okp k ∧ wr.heap.size ≤ k) := ⟨_, rfl⟩
      have H0 := Kd.H_widen hH
      rw [← hokx] at H0
      have P0 : Hid (HO w10 wr w4.heap.size okp okx g t.f2.length cp ob i [.string o.f0, .string o.f1, .int .i64 o.f2.f0, .int .i64 o.f2.f1, .int .i64 o.f2.f2, .slice A5 o.f3.length c5, .bool o.f4, .string o.f5]) := Lib.hid ⟨H0, BL.out, KL.out⟩
      have S5 : Hid (Kd.S ks 50 wr w4.heap.size okx (.slice A5 o.f3.length c5) o.f3) := Lib.hid (Kd.S_mono hS5 (fun k hk => by rw [hokx]; exact Or.inl hk))
      have HX := Lib.hid (show ∀ k, wr.heap.size ≤ k → okx k from fun k hk => by rw [hokx]; exact Or.inr ⟨(HOK.out k).2 (Or.inr (by have := BL.out.size; omega)), hk⟩)
      have HXG := Lib.hid (show ¬ okx g from fun h => by
        obtain ⟨_, f, hR⟩ := H0
        exact (hR.1 g (by simp [Value.ownBlock])).2 h)
      have HCN := Lib.hid hcn
      have HBG := Lib.hid hbg
      have BSR : Hid (w4.heap.size ≤ wr.heap.size) := Lib.hid (by have := BL.out.size; have := BS.out; omega)
      have HLO := Lib.hid hlo
      have x5 := P0.out.cell hlt 5 _ rfl
      clear hx hml hbg hgl hcl hM hoki hH hcn hS5 H0 hokx hlo
      go_wp2_with fail
      refine (spoil_calls (cntL o.f3) o.f3 A5 c5 wr w4.heap.size okx (Nat.le_refl _) S5.out BSR.out HX.out HCN.out).mono ?_
      rintro e w11 ⟨rfl, hS1, hB1, hK1⟩
      have P1 : Hid (HO w10 w11 w4.heap.size okp okx g t.f2.length cp ob i [.string o.f0, .string o.f1, .int .i64 o.f2.f0, .int .i64 o.f2.f1, .int .i64 o.f2.f2, .slice A5 o.f3.length c5, .bool o.f4, .string o.f5]) := Lib.hid ⟨Kd.H_step P0.out.hole (fun k h1 h2 h3 => hK1 k h3 h2), P0.out.bel.trans hB1, fun k hk hn => (hK1 k (by have := BL.out.size; omega) (fun h => hn (P0.out.hole.1 k h))).trans (P0.out.keep k hk hn)⟩
      have R1 : Hid (Kd.R ks 50 w11 w4.heap.size okx (.slice A5 o.f3.length c5) (List.replicate o.f3.length (nameA spB))) := Lib.hid (Kd.S_R hS1)
      have HX1 : Hid (∀ k, w11.heap.size ≤ k → okx k) := Lib.hid (fun k hk => HX.out k (by have := hB1.size; omega))
      have GP1 : Hid (w11.heap[w5.heap.size]? = some (.cells (treeC t (some ⟨g, 0, none⟩) cp) 24 (0, 0))) := Lib.hid ((P1.out.keep _ (by have := HZ.out; omega) (fun h => by have := (HOK.out _).1 h; have := HZ.out; omega)).trans GP.out)
      clear x5 y2 hS1 hB1 hK1
      obtain ⟨_, _, y2, _, _⟩ := tree_read GP1.out (Below.refl _ _)
      have tk4 : True := trivial
      go_wp2_with (first
        | ((with_reducible refine gate_store (t := 9) (p := 34) rfl ?_); have _t := tk4; refine cell_event rfl 9 _ _ rfl g (i * 8 + 1) (.string spB) (by first | rfl | (simp [Addr.add, Act.eval]; done) | (go_simp; done)) rfl rfl (P1.out.there hlt 1 _ rfl) (by kernel_rfl) w4.heap.size HBG.out ?_; intro w12 hw12 hB12 hs12; have Q0 := P1.out.put hlt BS.out HBG.out HOG.out 1 (.string spB) (by omega) rfl hw12; have P2 : Hid (HO w10 w12 w4.heap.size okp okx g t.f2.length cp ob i [.string o.f0, .string spB, .int .i64 o.f2.f0, .int .i64 o.f2.f1, .int .i64 o.f2.f2, .slice A5 o.f3.length c5, .bool o.f4, .string o.f5]) := Lib.hid Q0.1; have R2 : Hid (Kd.R ks 50 w12 w4.heap.size okx (.slice A5 o.f3.length c5) (List.replicate o.f3.length (nameA spB))) := Lib.hid (Kd.R_grown R1.out Q0.2 (fun k hk e => by injection e with e; subst e; exact HXG.out hk)); have HX2 : Hid (∀ k, w12.heap.size ≤ k → okx k) := Lib.hid (fun k hk => HX1.out k (by have := Q0.2.size; omega)); have GP2 : Hid (w12.heap[w5.heap.size]? = some (.cells (treeC t (some ⟨g, 0, none⟩) cp) 24 (0, 0))) := Lib.hid ((P2.out.keep _ (by have := HZ.out; omega) (fun h => by have := (HOK.out _).1 h; have := HZ.out; omega)).trans GP.out); clear hw12 hB12 hs12 Q0 y2 tk4 _t; obtain ⟨_, _, y2, _, _⟩ := tree_read GP2.out (Below.refl _ _); have x5 := P2.out.cell hlt 5 _ rfl))
      clear x5 y2
      go_loopw [7, 8] (fun v7 v8 wq => ∃ (ys : List SA) (j : Nat), v8 = .int .i64 (j : Int) ∧ j ≤ 20 ∧ ys.length ≤ o.f3.length + j ∧ w12.heap.size ≤ wq.heap.size ∧ Hid (Kd.R ks 50 wq w4.heap.size okx v7 ys) ∧ Hid (HO w10 wq w4.heap.size okp okx g t.f2.length cp ob i [.string o.f0, .string spB, .int .i64 o.f2.f0, .int .i64 o.f2.f1, .int .i64 o.f2.f2, .slice A5 o.f3.length c5, .bool o.f4, .string o.f5])) (fun _ v _ => 20 - (intOf v).toNat)
      case atStart => exact ⟨_, 0, by go_num, by omega, by simp, Nat.le_refl _, R2, P2⟩
      case round =>
        obtain ⟨ys, j, rfl, hj, hyl, hwz, RY, PQ⟩ := hrel
        obtain ⟨Ay, cy, hvy⟩ := R_form2 RY.out
        subst hvy
        by_cases h20 : j < 20
        · have HYL := Lib.hid (show ys.length ≤ 1000000020 by have := HCN.out; have := cnt_len o.f3; omega)
          have HWZ := Lib.hid hwz
          have HYJ := Lib.hid hyl
          have BQS : Hid (w4.heap.size ≤ wr.heap.size) := Lib.hid (by have := PQ.out.bel.size; have := BS.out; omega)
          clear hwz hyl
          go_wp2_with (first
            | (at_builtin; refine Kd.R_append ks (w0 := w10) w4.heap.size rfl (.tmp 45) (.tmp 47) 42 50 (.agg #[(.string ⟨#[]⟩), (.int .i64 0), (.int .i64 0), (.int .i64 0), (.int .i64 0), (.string ⟨#[]⟩), (.int .u32 0), (.bool false), (.bool false), (.slice none 0 0), (.bool false), (.string ⟨#[]⟩)]) 128 rfl Tryz.underlying42 info50 rfl (by decide) (by omega) (.slice Ay ys.length cy) ys (nameA moB) (nameV moB) okx (fun _ => False) rfl rfl (name_M moB _ w4.heap.size _) (fun _ h => h.elim) (fun k hk => HX2.out k (by have := HWZ.out; omega)) RY.out PQ.out.bel BQS.out (by have := HYL.out; omega) ?_; intro v6 w6 ho hb hg hat; have R6 := Lib.hid ho; have P6 := Lib.hid (PQ.out.grown hg (fun k hk => RY.out.1 k hk) hb); have S6 := Lib.hid hg.size; clear ho hb hg hat))
          exact ⟨⟨_, j + 1, by go_num, by omega, by rw [List.length_append]; have := HYJ.out; simp; omega, by have := HWZ.out; have := S6.out; omega, R6, P6⟩, by simp [intOf]; omega⟩
        · obtain rfl : j = 20 := by omega
          clear hyl hwz
          go_wp2_with fail
          exact ⟨⟨i + 1, by go_num, by omega, Lib.hid (PQ.out.back HLO.out rfl (by simp [Value.oneCell'])), Lib.hid PQ.out.bel, Lib.hid PQ.out.keep⟩, by simp [intOf]; omega⟩
    · obtain rfl : i = t.f2.length := by omega
      go_wp2_with fail
      clear y2
      have R0 : Hid (Kd.R ksx 44 wr w4.heap.size okp (.slice Ap t.f2.length cp) (mixO ob t.f2.length)) := Lib.hid (Kd.S_R SR.out)
      have hml := mixO_len ob t.f2.length (by rw [HOL.out]; exact Nat.le_refl _)
      rw [HOL.out] at hml
      have HML := Lib.hid hml
      clear hml
      go_loopw [9] (fun v wq => ∃ (xs : List (Option SO)) (Ax : Option Addr) (cx n j : Nat), v = .int .i64 (j : Int) ∧ j ≤ 20 ∧ n ≤ t.f2.length + j ∧ Hid (xs.length = n) ∧ Hid (Kd.R ksx 44 wq w4.heap.size okp (.slice Ax n cx) xs) ∧ Hid (wq.heap[w5.heap.size]? = some (.cells #[.string t.f0, .string t.f1, .slice Ax n cx, .bool t.f3, .string t.f4] 24 (0, 0))) ∧ Hid (Below w4.heap.size w10 wq) ∧ Hid (∀ k, k < w10.heap.size → ¬ okp k → k ≠ w5.heap.size → wq.heap[k]? = w10.heap[k]?)) (fun v _ => 20 - (intOf v).toNat)
      case atStart => exact ⟨_, _, _, _, 0, by go_num, by omega, by omega, HML, R0, GPr, BL, Lib.hid (fun k h1 h2 _ => KL.out k h1 h2)⟩
      case round =>
        obtain ⟨xs, Ax, cx, n, j, rfl, hj, hn, HN, RX, GX, BX, KX⟩ := hrel
        have y2 : wr.cell? ⟨w5.heap.size, 2, none⟩ = some (.slice Ax n cx) := (cell_row GX.out 2).trans rfl
        by_cases h20 : j < 20
        · have HNB := Lib.hid (show n ≤ 1000000020 by omega)
          have BQS : Hid (w4.heap.size ≤ wr.heap.size) := Lib.hid (by have := BX.out.size; have := BS.out; omega)
          have NG : Hid (¬ okp w5.heap.size) := Lib.hid (fun h => by have := (HOK.out _).1 h; have := HZ.out; omega)
          go_wp2_with (first
            | (at_builtin; refine Kd.R_append ksx (w0 := w10) w4.heap.size rfl (.tmp 54) (.tmp 56) 22 44 (.agg #[(.string ⟨#[]⟩), (.string ⟨#[]⟩), (.int .i64 0), (.int .i64 0), (.int .i64 0), (.slice none 0 0), (.bool false), (.string ⟨#[]⟩)]) 104 rfl Tryz.underlying22 info44 rfl (by decide) (by omega) (.slice Ax n cx) xs none [.string moB, .string ⟨#[]⟩, .int .i64 0, .int .i64 0, .int .i64 0, .slice none 0 0, .bool false, .string ⟨#[]⟩] okp (fun _ => False) rfl rfl ⟨rfl, obj_one moB⟩ (fun _ h => h.elim) (fun k hk => (HOK.out k).2 (Or.inr (by have := BX.out.size; omega))) RX.out BX.out BQS.out (by have := HNB.out; have := HN.out; omega) ?_; intro v6 w13 ho hb hg hat; obtain ⟨A6, c6, hv6⟩ := R_form2 ho; rw [List.length_append, HN.out, show ([none] : List (Option SO)).length = 1 from rfl] at hv6; subst hv6; have R6 := Lib.hid ho; have B6 := Lib.hid hb; have K6 : Hid (∀ k, k < w10.heap.size → ¬ okp k → k ≠ w5.heap.size → w13.heap[k]? = w10.heap[k]?) := Lib.hid (fun k h1 h2 h3 => (hg.block k (by have := BX.out.size; omega) (fun e => h2 (RX.out.1 k e.symm))).trans (KX.out k h1 h2 h3)); have G6x : Hid (w13.heap[w5.heap.size]? = some (.cells #[.string t.f0, .string t.f1, .slice Ax n cx, .bool t.f3, .string t.f4] 24 (0, 0))) := Lib.hid ((hg.block _ (Array.getElem?_eq_some_iff.1 GX.out).1 (fun e => NG.out (RX.out.1 _ e.symm))).trans GX.out); clear ho hb hg hat y2)
            | ((with_reducible refine gate_store (t := 22) (p := 58) rfl ?_); refine cell_event rfl 22 _ _ rfl w5.heap.size 2 (.slice A6 (n + 1) c6) rfl rfl rfl (there_row G6x.out (by simp)) (by kernel_rfl) w4.heap.size (by have := HZ.out; omega) ?_; intro w14 hw14 hB14 hs14; obtain ⟨hr14, hk14⟩ := one_row G6x.out hw14; have G14x : Hid (w14.heap[w5.heap.size]? = some (.cells #[.string t.f0, .string t.f1, .slice A6 (n + 1) c6, .bool t.f3, .string t.f4] 24 (0, 0))) := Lib.hid hr14; have R14 : Hid (Kd.R ksx 44 w14 w4.heap.size okp (.slice A6 (n + 1) c6) (xs ++ [none])) := Lib.hid (Kd.R_step R6.out (fun k hk _ => hk14 k (fun e => NG.out (by rw [← e]; exact hk)))); have B14x : Hid (Below w4.heap.size w10 w14) := Lib.hid (B6.out.trans hB14); have K14 : Hid (∀ k, k < w10.heap.size → ¬ okp k → k ≠ w5.heap.size → w14.heap[k]? = w10.heap[k]?) := Lib.hid (fun k h1 h2 h3 => (hk14 k h3).trans (K6.out k h1 h2 h3)); clear hw14 hB14 hs14 hr14 hk14))
          exact ⟨⟨xs ++ [none], A6, c6, n + 1, j + 1, by go_num, by omega, by omega, Lib.hid (by rw [List.length_append, HN.out]; rfl), R14, G14x, B14x, K14⟩, by simp [intOf]; omega⟩
        · obtain rfl : j = 20 := by omega
          have hkeep : ∀ k, k < w10.heap.size → (k < w4.heap.size ∨ w5.heap.size < k) → wr.heap[k]? = w10.heap[k]? := fun k h1 h2 => KX.out k h1 (fun h => by have := (HOK.out _).1 h; have := HZ.out; omega) (by have := HZ.out; omega)
          have BW : Hid (Below w.heap.size w wr) := Lib.hid (B4.out.trans ((B410.out.trans BX.out).mono B4.out.size))
          have T1 : Hid (wr.heap[w.heap.size]? = some (.cells (treeC t A c) 24 (0, 0))) := Lib.hid ((hkeep _ (by have := HZ.out; omega) (Or.inl HZ.out.1)).trans (blk_below G14.out B410.out))
          have T3 : Hid (wr.heap[w2.heap.size]? = some (.cells (treeC t A' c') 24 (0, 0))) := Lib.hid ((hkeep _ (by have := HZ.out; omega) (Or.inl HZ.out.2.1)).trans (blk_below G4.out B410.out))
          have T5 : Hid (wr.heap[w8.heap.size]? = some (.cells (treeC t Aq cq) 24 (0, 0))) := Lib.hid ((hkeep _ HZ.out.2.2.2.2.2 (Or.inr (by have := HZ.out; omega))).trans G10.out)
          have CI : Hid (Kd.C k44 wr A' t.f2.length t.f2) := Lib.hid (Kd.C_below C2.out (B24.out.trans ((B410.out.trans BX.out).mono B24.out.size)))
          have CQ0 : Hid (Kd.C k44 wr Aq (bareT t).f2.length (bareT t).f2 ∧ t.f2.length ≤ cq) := Lib.hid (by
            have h1 := Smove (B' := w7.heap.size) (w1 := wr) SQ.out (fun k h1 h2 => (hkeep k (by have := HZ.out; omega) (Or.inr (by have := HZ.out; omega))).trans (B810.out.block k h2)) (Nat.le_refl _)
            obtain ⟨A2, c2, hv, hl, hC2⟩ := Kd.S_reads h1
            injection hv with e1 e2 e3
            subst e1 e3
            exact ⟨kso_C hC2, by rw [List.length_map] at hl; exact hl⟩)
          clear hkeep
          obtain ⟨y0, y1, y2b, y3, y4⟩ := tree_read T1.out (Below.refl _ _)
          obtain ⟨z0, z1, z2, z3, z4⟩ := tree_read T3.out (Below.refl _ _)
          have tk5 : True := trivial
          go_wp2_with (first
            | (go_at_call 16; have _t := tk5; refine (HS1.out _ A' c' (Kd.C_below HC.out BW.out) CI.out CC2.out).mono ?_; rintro e w15 ⟨rfl, hB15⟩; have B15 := Lib.hid hB15; clear hB15 y0 y1 y2b y3 y4 z0 z1 z2 z3 z4 y2 tk5 _t; obtain ⟨y0, y1, y2, y3, y4⟩ := tree_read T5.out B15.out; obtain ⟨z0, z1, z2, z3, z4⟩ := tree_read T3.out B15.out)
            | (go_at_call 16; refine (HS2.out _ Aq cq A' c' (Kd.C_below CQ0.out.1 B15.out) CQ0.out.2 (Kd.C_below CI.out B15.out) CC2.out).mono ?_; rintro e w16 ⟨rfl, hB16⟩; have B16 : Hid (Below w.heap.size w w16) := Lib.hid (BW.out.trans ((B15.out.trans (hB16.mono B15.out.size)).mono BW.out.size)); clear hB16 y0 y1 y2 y3 y4 z0 z1 z2 z3 z4)
            | (go_at_call 17; refine (palive_calls _ (HG.out.below B16.out)).mono ?_; rintro e w17 ⟨rfl, hB17⟩; have B17 : Hid (Below w.heap.size w w17) := Lib.hid (B16.out.trans (hB17.mono B16.out.size)); clear hB17))
          go_ret
          exact ⟨rfl, B17.out⟩
end Go.Proofs.YtmfejjlmflgnbaaGreatDoor.Tok

/- CONTRACT: token.Join of every list of tokens. -/
import Derived.Test.YtpecmmicndcgjaaGreatDoorMark
namespace Go.Proofs.YtpecmmicndcgjaaGreatDoor.Tok
open Go.RowKit Go.Proofs.YtpecmmicndcgjaaGreatDoor.PA Go.Proofs.YtpecmmicndcgjaaGreatDoorW.PrintWords Go.Proofs.YtpecmmicndcgjaaGreatDoorW.PrintLast Go.Proofs.YtpecmmicndcgjaaGreatDoor.Sp
set_option linter.unusedVariables false
set_option linter.unusedSimpArgs false
set_option maxRecDepth 100000

def joinF : List S34 → Option (List Bs)
  | [] => some []
  | x :: r => match spellT x.f0 x.f2.data.toList x.f3.toNat x.f4 with
    | none => none
    | some s => if x.f0 = 0 ∧ r ≠ [] then none else (joinF r).map (s :: ·)
def JoinPost (l : List S34) (w : World) (e : Ending) (w' : World) : Prop :=
  Below w.heap.size w w' ∧ e = .returned (match joinF l with
    | some s => .tuple #[.string ⟨(Lib.join s [32]).toArray⟩, .int .i64 0]
    | none => .tuple #[.string ⟨#[]⟩, .int .i64 20])
def mkS (l : List Bs) : List ByteArray := l.map fun s => ⟨s.toArray⟩
structure JInv (l : List S34) (w : World) (n : Nat) (v : Value) (acc : List Bs) (wr : World) : Prop where
  hn : n ≤ l.length
  hacc : acc.length = n
  own : wr.ownsRow w.heap.size 9 1 v (mkS acc).length (encs Value.string (mkS acc))
  bel : Below w.heap.size w wr
  says : (joinF (l.drop n)).map (acc ++ ·) = joinF l

theorem spell_no {k o ln cl : Int} {t : ByteArray} {v : Nat} {h : Bool} {w : World} (hv : v < 4294967296) (hs : spellT k t.data.toList v h = none) (hG : Glob w) :
    Calls Tryz.prog 14 #[tokV k o ln cl t v h] w fun e w' => e = .returned (.tuple #[.string ⟨#[]⟩, .int .i64 20]) ∧ Below w.heap.size w w' :=
  (spell_calls k o ln cl t v h w hv hG).mono fun e w' ⟨h1, h2⟩ => ⟨by rw [h2, hs], h1⟩
theorem spell_yes {k o ln cl : Int} {t : ByteArray} {v : Nat} {h : Bool} {w : World} {s : Bs} (hv : v < 4294967296) (hs : spellT k t.data.toList v h = some s) (hG : Glob w) :
    Calls Tryz.prog 14 #[tokV k o ln cl t v h] w fun e w' => e = .returned (.tuple #[.string ⟨s.toArray⟩, .int .i64 0]) ∧ Below w.heap.size w w' :=
  (spell_calls k o ln cl t v h w hv hG).mono fun e w' ⟨h1, h2⟩ => ⟨by rw [h2, hs], h1⟩
theorem mkS_data (l : List Bs) : (mkS l).map (·.data.toList) = l := by
  unfold mkS
  rw [List.map_map]
  conv => rhs; rw [← List.map_id l]
  apply List.map_congr_left
  intro x _
  rfl
theorem sjoin {l : List S34} {w wr : World} {n : Nat} {v : Value} {acc : List Bs} (J : JInv l w n v acc wr) (hsz : (Lib.join acc [32]).length ≤ 140737488355328) (hl : l.length ≤ 1048576) :
    Calls Tryz.prog 42 #[v, .string ⟨#[32]⟩] wr fun e w' => e = .returned (.string ⟨(Lib.join acc [32]).toArray⟩) ∧ Below wr.heap.size wr w' := by
  have hlen : (mkS acc).length = acc.length := by simp [mkS]
  rcases J.own.2 with ⟨rfl, h0⟩ | ⟨g, cap, cur, rfl, hb, hh, hn, hm, hs, htk⟩
  · rw [hlen] at h0
    obtain rfl := List.eq_nil_of_length_eq_zero h0
    exact (Tryz.strings_Join_none none 0 ⟨#[32]⟩ wr).mono fun e w' ⟨h1, h2⟩ => ⟨h1, by rw [h2]; exact Below.refl _ _⟩
  · have h := Tryz.strings_Join g 0 cap (mkS acc) ⟨#[32]⟩ wr (fun j x hx => by
        have hj : j < (mkS acc).length := by
          rcases Nat.lt_or_ge j (mkS acc).length with h | h
          · exact h
          · rw [List.getElem?_eq_none h] at hx; cases hx
        rw [Nat.zero_add, cell_row hh]
        have h2 := congrArg (fun q => q[j]?) htk
        simp only [List.getElem?_take, Nat.mul_one, if_pos hj] at h2
        rw [← Array.getElem?_toList, h2]
        simp [encs, hx]) (Array.getElem?_eq_some_iff.1 hh).1 (by rw [hlen, J.hacc]; have := J.hn; omega) hn (by rw [mkS_data]; exact hsz)
    rw [mkS_data] at h
    exact h
theorem rd_at (l : List S34) (n : Nat) (h : n < l.length) : rd_T34 l (n : Int) = l[n] := by
  unfold rd_T34
  simp [List.getD, h]
theorem rd_mem (l : List S34) (n : Nat) (h : n < l.length) : rd_T34 l (n : Int) ∈ l := by
  rw [rd_at l n h]
  exact List.getElem_mem h
theorem join_drop (l : List S34) (n : Nat) (h : n < l.length) : l.drop n = rd_T34 l (n : Int) :: l.drop (n + 1) := by
  rw [rd_at l n h]
  exact List.drop_eq_getElem_cons h
theorem JInv.bad {l : List S34} {w wr : World} {n : Nat} {v : Value} {acc : List Bs} {x : S34} (J : JInv l w n v acc wr) (hd : l.drop n = x :: l.drop (n + 1)) (hs : spellT x.f0 x.f2.data.toList x.f3.toNat x.f4 = none) : joinF l = none := by
  rw [← J.says, hd]
  simp [joinF, hs]
theorem JInv.end_ {l : List S34} {w wr : World} {n : Nat} {v : Value} {acc : List Bs} {x : S34} {sp : Bs} (J : JInv l w n v acc wr) (hd : l.drop n = x :: l.drop (n + 1)) (hs : spellT x.f0 x.f2.data.toList x.f3.toNat x.f4 = some sp) (hk : x.f0 = 0 ∧ n + 1 < l.length) : joinF l = none := by
  have : l.drop (n + 1) ≠ [] := fun e => by have := List.drop_eq_nil_iff.1 e; omega
  rw [← J.says, hd]
  simp only [joinF, hs]
  rw [if_pos ⟨hk.1, this⟩]
  rfl
theorem JInv.next {l : List S34} {w wr w2 : World} {n : Nat} {v v2 : Value} {acc : List Bs} {x : S34} {sp : Bs} (J : JInv l w n v acc wr) (hd : l.drop n = x :: l.drop (n + 1)) (hs : spellT x.f0 x.f2.data.toList x.f3.toNat x.f4 = some sp)
    (hB : Below w.heap.size w w2) (ho : w2.ownsRow w.heap.size 9 1 v2 (mkS acc ++ [(⟨sp.toArray⟩ : ByteArray)]).length (encs Value.string (mkS acc ++ [(⟨sp.toArray⟩ : ByteArray)]))) (hk : ¬ (x.f0 = 0 ∧ n + 1 < l.length)) : JInv l w (n + 1) v2 (acc ++ [sp]) w2 := by
  have e : mkS (acc ++ [sp]) = mkS acc ++ [(⟨sp.toArray⟩ : ByteArray)] := by simp [mkS]
  have hlt : n < l.length := by
    rcases Nat.lt_or_ge n l.length with h | h
    · exact h
    · rw [List.drop_eq_nil_of_le h] at hd; cases hd
  have hsz : (acc ++ [sp]).length = n + 1 := by simp [J.hacc]
  refine ⟨hlt, hsz, (by rw [e]; exact ho), hB, ?_⟩
  rw [← J.says, hd]
  have hk' : ¬ (x.f0 = 0 ∧ l.drop (n + 1) ≠ []) := by
    intro hh
    refine hk ⟨hh.1, ?_⟩
    rcases Nat.lt_or_ge (n + 1) l.length with h | h
    · exact h
    · exact absurd (List.drop_eq_nil_of_le h) hh.2
  simp only [joinF, hs]
  rw [if_neg hk']
  cases joinF (l.drop (n + 1)) <;> simp
set_option maxHeartbeats 1000000 in
theorem join_calls (A0 : Option Addr) (c0 : Nat) (l : List S34) (w : World) (hr : Kd.C k34 w A0 l.length l) (hc : l.length ≤ c0) (hl : l.length ≤ 1048576) (hwf : ∀ x ∈ l, 0 ≤ x.f3 ∧ x.f3 < 4294967296) (hsz : ∀ s, joinF l = some s → (Lib.join s [32]).length ≤ 140737488355328) (hG : Glob w) :
    Calls Tryz.prog 17 #[.slice A0 l.length c0] w (JoinPost l w) := by
  have hu := Tryz.underlying34
  have HR := Lib.hid hr
  have HG := Lib.hid hG
  have HW := Lib.hid hwf
  have HZ := Lib.hid hsz
  clear hr hG hwf hsz
  go_enter Tryz.func17, Tryz.ntmps17
  go_wp2
  go_loopw [4, 11] (fun v k wr => ∃ (n : Nat) (acc : List Bs), k = .int .i64 (n : Nat) ∧ JInv l w n v acc wr) (fun _ k _ => l.length - (intOf k).toNat)
  case atStart => exact ⟨0, [], by go_num, ⟨Nat.zero_le _, rfl, own_nil _ _ _ _, Below.refl _ _, by simp⟩⟩
  case round =>
    obtain ⟨n, acc, rfl, J⟩ := hrel
    have hn := J.hn
    by_cases hlt : n < l.length
    · have d0 : decide ((n : Int) < (l.length : Int)) = true := decide_eq_true (by omega)
      obtain ⟨ad, ea, x0, x1, x2, x3, x4, x5, x6⟩ := at_T34 HR.out (n : Int) (by omega) (by omega)
      cases ea
      replace x0 := (J.bel.cell (World.block_lt_of_cell? w _ x0)).trans x0
      replace x1 := (J.bel.cell (World.block_lt_of_cell? w _ x1)).trans x1
      replace x2 := (J.bel.cell (World.block_lt_of_cell? w _ x2)).trans x2
      replace x3 := (J.bel.cell (World.block_lt_of_cell? w _ x3)).trans x3
      replace x4 := (J.bel.cell (World.block_lt_of_cell? w _ x4)).trans x4
      replace x5 := (J.bel.cell (World.block_lt_of_cell? w _ x5)).trans x5
      replace x6 := (J.bel.cell (World.block_lt_of_cell? w _ x6)).trans x6
      have hd := join_drop l n hlt
      have hmem := rd_mem l n hlt
      have hww := HW.out _ hmem
      generalize rd_T34 l (n : Int) = x at x0 x1 x2 x3 x4 x5 x6 hd hww
      obtain ⟨k, ⟨o, ln, cl⟩, t, f3, h⟩ := x
      obtain ⟨vn, rfl⟩ : ∃ vn : Nat, f3 = (vn : Int) := ⟨f3.toNat, by have := hww.1; simp at this; omega⟩
      have hvn : vn < 4294967296 := by have := hww.2; simp at this; omega
      simp only [Int.toNat_natCast] at x0 x1 x2 x3 x4 x5 x6 hd
      have HD := Lib.hid hd
      have HJ := Lib.hid J
      clear J hd hww hmem
      cases hs : spellT k t.data.toList vn h with
      | none =>
        have HSP := Lib.hid hs
        clear hs
        go_upto_region 6 with (first
          | (refine run_event rfl (.alloc 34) rfl (.pointer (some ⟨wr.heap.size, 0, none⟩)) (wr.alloc (.cells tok0 34)) (by kernel_rfl) ?_; intro a0 ha0; have A0 : Hid (Below wr.heap.size wr a0) := Lib.hid (by rw [ha0]; exact alloc_below _ _); have G0 : Hid (a0.heap[wr.heap.size]? = some (.cells tok0 34 (0, 0))) := Lib.hid (by rw [ha0]; exact heap_alloc_new _ _); clear ha0)
          | ((with_reducible refine gate_store (t := 34) (p := 6) rfl ?_); refine put_event rfl 34 _ _ rfl wr.heap.size (tokCells k o ln cl t vn h) rfl rfl 34 tok0 G0.out (by kernel_rfl) rfl (tok_all _ _ _ _ _ _ _) wr.heap.size (Nat.le_refl _) ?_; intro b0 hb0 hB0 hs0 ho0; have B0 : Hid (Below wr.heap.size wr b0) := Lib.hid (A0.out.trans hB0); have y0 : b0.cell? ⟨wr.heap.size, 0, none⟩ = some (.int .i64 k) := (cell_row hb0 0).trans rfl; have y1 : b0.cell? ⟨wr.heap.size, 1, none⟩ = some (.int .i64 o) := (cell_row hb0 1).trans rfl; have y2 : b0.cell? ⟨wr.heap.size, 2, none⟩ = some (.int .i64 ln) := (cell_row hb0 2).trans rfl; have y3 : b0.cell? ⟨wr.heap.size, 3, none⟩ = some (.int .i64 cl) := (cell_row hb0 3).trans rfl; have y4 : b0.cell? ⟨wr.heap.size, 4, none⟩ = some (.string t) := (cell_row hb0 4).trans rfl; have y5 : b0.cell? ⟨wr.heap.size, 5, none⟩ = some (.int .u32 (vn : Int)) := (cell_row hb0 5).trans rfl; have y6 : b0.cell? ⟨wr.heap.size, 6, none⟩ = some (.bool h) := (cell_row hb0 6).trans rfl; have HB0 := Lib.hid hb0; clear hb0 hB0 hs0 ho0 x0 x1 x2 x3 x4 x5 x6)
          | (go_at_call 14; refine (spell_no hvn HSP.out (HG.out.below ((HJ.out.bel).trans (B0.out.mono HJ.out.bel.size)))).mono ?_; rintro e w1 ⟨rfl, hB1⟩; have z0 : w1.cell? ⟨wr.heap.size, 0, none⟩ = some (.int .i64 k) := (hB1.cell (World.block_lt_of_cell? _ _ y0)).trans y0; have B1 : Hid (Below wr.heap.size wr w1) := Lib.hid (B0.out.trans (hB1.mono B0.out.size)); clear hB1 y0 y1 y2 y3 y4 y5 y6))
        (try simp only [Act.put, List.setIfInBounds_toArray, List.set_cons_zero, List.set_cons_succ])
        go_upto_if 34 with fail
        go_wp2_with fail
        (refine bodyPost_ret (results_list (rs := [.tmp 2, .tmp 3]) rfl (by simp) (.tmp (.tmp .nil))) rfl ?_)
        exact ⟨HJ.out.bel.trans (B1.out.mono HJ.out.bel.size), by rw [HJ.out.bad HD.out HSP.out]; rfl⟩
      | some sp =>
        have HSP := Lib.hid hs
        clear hs
        by_cases hk : k = 0 ∧ n + 1 < l.length
        · have HK := Lib.hid hk
          have dk0 : (k == 0) = true := beq_iff_eq.2 hk.1
          have hk2 := hk.2
          clear hk
          have dk : decide ((n : Int) < (l.length : Int) - 1) = true := decide_eq_true (by omega)
          go_upto_region 6 with (first
            | (refine run_event rfl (.alloc 34) rfl (.pointer (some ⟨wr.heap.size, 0, none⟩)) (wr.alloc (.cells tok0 34)) (by kernel_rfl) ?_; intro a0 ha0; have A0 : Hid (Below wr.heap.size wr a0) := Lib.hid (by rw [ha0]; exact alloc_below _ _); have G0 : Hid (a0.heap[wr.heap.size]? = some (.cells tok0 34 (0, 0))) := Lib.hid (by rw [ha0]; exact heap_alloc_new _ _); clear ha0)
            | ((with_reducible refine gate_store (t := 34) (p := 6) rfl ?_); refine put_event rfl 34 _ _ rfl wr.heap.size (tokCells k o ln cl t vn h) rfl rfl 34 tok0 G0.out (by kernel_rfl) rfl (tok_all _ _ _ _ _ _ _) wr.heap.size (Nat.le_refl _) ?_; intro b0 hb0 hB0 hs0 ho0; have B0 : Hid (Below wr.heap.size wr b0) := Lib.hid (A0.out.trans hB0); have y0 : b0.cell? ⟨wr.heap.size, 0, none⟩ = some (.int .i64 k) := (cell_row hb0 0).trans rfl; have y1 : b0.cell? ⟨wr.heap.size, 1, none⟩ = some (.int .i64 o) := (cell_row hb0 1).trans rfl; have y2 : b0.cell? ⟨wr.heap.size, 2, none⟩ = some (.int .i64 ln) := (cell_row hb0 2).trans rfl; have y3 : b0.cell? ⟨wr.heap.size, 3, none⟩ = some (.int .i64 cl) := (cell_row hb0 3).trans rfl; have y4 : b0.cell? ⟨wr.heap.size, 4, none⟩ = some (.string t) := (cell_row hb0 4).trans rfl; have y5 : b0.cell? ⟨wr.heap.size, 5, none⟩ = some (.int .u32 (vn : Int)) := (cell_row hb0 5).trans rfl; have y6 : b0.cell? ⟨wr.heap.size, 6, none⟩ = some (.bool h) := (cell_row hb0 6).trans rfl; have HB0 := Lib.hid hb0; clear hb0 hB0 hs0 ho0 x0 x1 x2 x3 x4 x5 x6)
            | (go_at_call 14; refine (spell_yes hvn HSP.out (HG.out.below ((HJ.out.bel).trans (B0.out.mono HJ.out.bel.size)))).mono ?_; rintro e w1 ⟨rfl, hB1⟩; have z0 : w1.cell? ⟨wr.heap.size, 0, none⟩ = some (.int .i64 k) := (hB1.cell (World.block_lt_of_cell? _ _ y0)).trans y0; have B1 : Hid (Below wr.heap.size wr w1) := Lib.hid (B0.out.trans (hB1.mono B0.out.size)); clear hB1 y0 y1 y2 y3 y4 y5 y6))
          (try simp only [Act.put, List.setIfInBounds_toArray, List.set_cons_zero, List.set_cons_succ])
          go_upto_if 34 with fail
          go_wp2_with fail
          (refine bodyPost_ret (results_list (rs := [.tmp 2, .tmp 3]) rfl (by simp) (.tmp (.tmp .nil))) rfl ?_)
          exact ⟨HJ.out.bel.trans (B1.out.mono HJ.out.bel.size), by rw [HJ.out.end_ HD.out HSP.out HK.out]; rfl⟩
        · have HK := Lib.hid hk
          by_cases hk0 : k = 0
          · have dk : decide ((n : Int) < (l.length : Int) - 1) = false := decide_eq_false (by omega)
            have dk0 : (k == 0) = true := beq_iff_eq.2 hk0
            clear hk hk0
            go_upto_region 6 with (first
              | (refine run_event rfl (.alloc 34) rfl (.pointer (some ⟨wr.heap.size, 0, none⟩)) (wr.alloc (.cells tok0 34)) (by kernel_rfl) ?_; intro a0 ha0; have A0 : Hid (Below wr.heap.size wr a0) := Lib.hid (by rw [ha0]; exact alloc_below _ _); have G0 : Hid (a0.heap[wr.heap.size]? = some (.cells tok0 34 (0, 0))) := Lib.hid (by rw [ha0]; exact heap_alloc_new _ _); clear ha0)
              | ((with_reducible refine gate_store (t := 34) (p := 6) rfl ?_); refine put_event rfl 34 _ _ rfl wr.heap.size (tokCells k o ln cl t vn h) rfl rfl 34 tok0 G0.out (by kernel_rfl) rfl (tok_all _ _ _ _ _ _ _) wr.heap.size (Nat.le_refl _) ?_; intro b0 hb0 hB0 hs0 ho0; have B0 : Hid (Below wr.heap.size wr b0) := Lib.hid (A0.out.trans hB0); have y0 : b0.cell? ⟨wr.heap.size, 0, none⟩ = some (.int .i64 k) := (cell_row hb0 0).trans rfl; have y1 : b0.cell? ⟨wr.heap.size, 1, none⟩ = some (.int .i64 o) := (cell_row hb0 1).trans rfl; have y2 : b0.cell? ⟨wr.heap.size, 2, none⟩ = some (.int .i64 ln) := (cell_row hb0 2).trans rfl; have y3 : b0.cell? ⟨wr.heap.size, 3, none⟩ = some (.int .i64 cl) := (cell_row hb0 3).trans rfl; have y4 : b0.cell? ⟨wr.heap.size, 4, none⟩ = some (.string t) := (cell_row hb0 4).trans rfl; have y5 : b0.cell? ⟨wr.heap.size, 5, none⟩ = some (.int .u32 (vn : Int)) := (cell_row hb0 5).trans rfl; have y6 : b0.cell? ⟨wr.heap.size, 6, none⟩ = some (.bool h) := (cell_row hb0 6).trans rfl; have HB0 := Lib.hid hb0; clear hb0 hB0 hs0 ho0 x0 x1 x2 x3 x4 x5 x6)
              | (go_at_call 14; refine (spell_yes hvn HSP.out (HG.out.below ((HJ.out.bel).trans (B0.out.mono HJ.out.bel.size)))).mono ?_; rintro e w1 ⟨rfl, hB1⟩; have z0 : w1.cell? ⟨wr.heap.size, 0, none⟩ = some (.int .i64 k) := (hB1.cell (World.block_lt_of_cell? _ _ y0)).trans y0; have B1 : Hid (Below wr.heap.size wr w1) := Lib.hid (B0.out.trans (hB1.mono B0.out.size)); clear hB1 y0 y1 y2 y3 y4 y5 y6))
            (try simp only [Act.put, List.setIfInBounds_toArray, List.set_cons_zero, List.set_cons_succ])
            go_upto_if 34 with fail
            go_wp2_with (first
              | (at_builtin; refine print_append_of (w0 := w) Value.string w.heap.size rfl (.tmp 35) (.tmp 37) 79 9 (.string ⟨#[]⟩) 16 rfl Tryz.underlying79 (by kernel_rfl) rfl (by decide) _ (mkS acc) ⟨sp.toArray⟩ rfl rfl rfl (pw_own_below HJ.out.own B1.out) (HJ.out.bel.trans (B1.out.mono HJ.out.bel.size)) (Nat.le_trans HJ.out.bel.size B1.out.size) (by have := HJ.out.hacc; simp [mkS]; omega) ?_; intro v2 w2 ho2 hB2 hg2 hat2; have HN := Lib.hid (HJ.out.next HD.out HSP.out hB2 ho2 HK.out); clear ho2 hB2 hg2 hat2))
            go_roundw
            case rel => exact ⟨n + 1, _, by go_num, HN.out⟩
            case measure => simp only [intOf]; omega
          · have dk : (k == 0) = false := beq_eq_false_iff_ne.2 hk0
            clear hk
            go_upto_region 6 with (first
              | (refine run_event rfl (.alloc 34) rfl (.pointer (some ⟨wr.heap.size, 0, none⟩)) (wr.alloc (.cells tok0 34)) (by kernel_rfl) ?_; intro a0 ha0; have A0 : Hid (Below wr.heap.size wr a0) := Lib.hid (by rw [ha0]; exact alloc_below _ _); have G0 : Hid (a0.heap[wr.heap.size]? = some (.cells tok0 34 (0, 0))) := Lib.hid (by rw [ha0]; exact heap_alloc_new _ _); clear ha0)
              | ((with_reducible refine gate_store (t := 34) (p := 6) rfl ?_); refine put_event rfl 34 _ _ rfl wr.heap.size (tokCells k o ln cl t vn h) rfl rfl 34 tok0 G0.out (by kernel_rfl) rfl (tok_all _ _ _ _ _ _ _) wr.heap.size (Nat.le_refl _) ?_; intro b0 hb0 hB0 hs0 ho0; have B0 : Hid (Below wr.heap.size wr b0) := Lib.hid (A0.out.trans hB0); have y0 : b0.cell? ⟨wr.heap.size, 0, none⟩ = some (.int .i64 k) := (cell_row hb0 0).trans rfl; have y1 : b0.cell? ⟨wr.heap.size, 1, none⟩ = some (.int .i64 o) := (cell_row hb0 1).trans rfl; have y2 : b0.cell? ⟨wr.heap.size, 2, none⟩ = some (.int .i64 ln) := (cell_row hb0 2).trans rfl; have y3 : b0.cell? ⟨wr.heap.size, 3, none⟩ = some (.int .i64 cl) := (cell_row hb0 3).trans rfl; have y4 : b0.cell? ⟨wr.heap.size, 4, none⟩ = some (.string t) := (cell_row hb0 4).trans rfl; have y5 : b0.cell? ⟨wr.heap.size, 5, none⟩ = some (.int .u32 (vn : Int)) := (cell_row hb0 5).trans rfl; have y6 : b0.cell? ⟨wr.heap.size, 6, none⟩ = some (.bool h) := (cell_row hb0 6).trans rfl; have HB0 := Lib.hid hb0; clear hb0 hB0 hs0 ho0 x0 x1 x2 x3 x4 x5 x6)
              | (go_at_call 14; refine (spell_yes hvn HSP.out (HG.out.below ((HJ.out.bel).trans (B0.out.mono HJ.out.bel.size)))).mono ?_; rintro e w1 ⟨rfl, hB1⟩; have z0 : w1.cell? ⟨wr.heap.size, 0, none⟩ = some (.int .i64 k) := (hB1.cell (World.block_lt_of_cell? _ _ y0)).trans y0; have B1 : Hid (Below wr.heap.size wr w1) := Lib.hid (B0.out.trans (hB1.mono B0.out.size)); clear hB1 y0 y1 y2 y3 y4 y5 y6))
            (try simp only [Act.put, List.setIfInBounds_toArray, List.set_cons_zero, List.set_cons_succ])
            go_upto_if 34 with fail
            go_wp2_with (first
              | (at_builtin; refine print_append_of (w0 := w) Value.string w.heap.size rfl (.tmp 35) (.tmp 37) 79 9 (.string ⟨#[]⟩) 16 rfl Tryz.underlying79 (by kernel_rfl) rfl (by decide) _ (mkS acc) ⟨sp.toArray⟩ rfl rfl rfl (pw_own_below HJ.out.own B1.out) (HJ.out.bel.trans (B1.out.mono HJ.out.bel.size)) (Nat.le_trans HJ.out.bel.size B1.out.size) (by have := HJ.out.hacc; simp [mkS]; omega) ?_; intro v2 w2 ho2 hB2 hg2 hat2; have HN := Lib.hid (HJ.out.next HD.out HSP.out hB2 ho2 HK.out); clear ho2 hB2 hg2 hat2))
            go_roundw
            case rel => exact ⟨n + 1, _, by go_num, HN.out⟩
            case measure => simp only [intOf]; omega
    · have d0 : decide ((n : Int) < (l.length : Int)) = false := decide_eq_false (by omega)
      have hall : joinF l = some acc := by
        rw [← J.says, List.drop_eq_nil_of_le (by omega)]
        simp [joinF]
      have hj := sjoin J (HZ.out _ hall) hl
      have HA := Lib.hid hall
      have HJ := Lib.hid J
      clear J hall
      go_wp2_with (first
        | (go_at_call 42; refine hj.mono ?_; rintro e w1 ⟨rfl, hB1⟩; have HB1 := Lib.hid hB1; clear hB1))
      (refine bodyPost_ret (results_list (rs := [.tmp 2, .tmp 3]) rfl (by simp) (.tmp (.tmp .nil))) rfl ?_)
      exact ⟨HJ.out.bel.trans (HB1.out.mono HJ.out.bel.size), by rw [HA.out]; rfl⟩
end Go.Proofs.YtpecmmicndcgjaaGreatDoor.Tok

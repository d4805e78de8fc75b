/- CONTRACTS: (*strings.Replacer).buildOnce, sync.Once's slow road with it, Do, NewReplacer. -/
import Derived.Test.YtmfejjlmflgnbaaGreatDoorZBld
namespace Go.Proofs.YtmfejjlmflgnbaaGreatDoor.Tok
open Go.RowKit Go.Proofs.YtmfejjlmflgnbaaGreatDoor.PA Go.Proofs.YtmfejjlmflgnbaaGreatDoorW.PrintWords Go.Proofs.YtmfejjlmflgnbaaGreatDoorW.PrintLast Go.Proofs.YtmfejjlmflgnbaaGreatDoor.Sp
set_option linter.unusedVariables false
set_option linter.unusedSimpArgs false
set_option maxRecDepth 100000

theorem setCell_row {w : World} {b k : Nat} {cs : Array Value} {t : TypeId} (h : w.heap[b]? = some (.cells cs t (0, 0))) (v : Value) : (w.setCell ⟨b, k, none⟩ v).heap[b]? = some (.cells (cs.setIfInBounds k v) t (0, 0)) := by
  simp only [World.setCell, Array.getElem?_modify, h]
  simp
theorem setCell_grown (w : World) (b k : Nat) (v : Value) : w.grownBy (w.setCell ⟨b, k, none⟩ v) (some b) :=
  ⟨rfl, rfl, rfl, by simp [World.setCell], fun j hj hne => Below.heap_setCell w ⟨b, k, none⟩ v j (fun e => hne (by rw [e]))⟩
theorem cell_row {w : World} {b : Nat} {cs : Array Value} {t : TypeId} (h : w.heap[b]? = some (.cells cs t (0, 0))) (k : Nat) : w.cell? ⟨b, k, none⟩ = cs[k]? := by
  simp [World.cell?, h]
theorem frozen_row {w : World} {b : Nat} {cs : Array Value} {t : TypeId} (h : w.heap[b]? = some (.cells cs t (0, 0))) (k : Nat) : w.frozen? ⟨b, k, none⟩ = false := by
  simp [World.frozen?, h]
theorem below_grown {w w' : World} {r : Option Nat} (h : Below w.heap.size w w') : w.grownBy w' r := ⟨h.os, h.tape, h.output, h.size, fun k hk _ => h.block k hk⟩
def repT : TypeId := 262
def repV (R : Nat) : Value := .iface 300 (.pointer (some ⟨R, 0, none⟩))
structure Once1 (b : Nat) (w w' : World) (d l s : Value) : Prop where
  grown : w.grownBy w' (some b)
  out : ∃ R q p t cq cp ct, w'.heap[b]? = some (.cells #[d, l, s, repV R, .slice none 0 0] repT (0, 0)) ∧ Repl w.heap.size R w' q p t cq cp ct

theorem buildOnce_calls (b g cp : Nat) (d l s : Value) (w : World) (hc : 4 ≤ cp) (hb : w.heap[b]? = some (.cells #[d, l, s, .nilIface, .slice (some ⟨g, 0, none⟩) 4 cp] repT (0, 0))) (ho : OldNew g w) (hg : g < w.heap.size) :
    Calls Tryz.prog 154 #[.pointer (some ⟨b, 0, none⟩)] w fun e w' => e = .returned (.tuple #[]) ∧ Once1 b w w' d l s := by
  have hbl : b < w.heap.size := (Array.getElem?_eq_some_iff.1 hb).1
  have hbc := build_calls b g cp w hc ((cell_row hb 4).trans rfl) ho hg
  have HB := Lib.hid hb
  clear hb
  go_enter Tryz.func154, Tryz.ntmps154
  go_wp2_with (first
    | (go_at_call 168; refine hbc.mono ?_; rintro e w' ⟨R, q, p, t, cq, cp2, ct, rfl, hR, hB, hRep⟩; have H1 := Lib.hid (And.intro hR (And.intro hB hRep)); have hb1 : Hid (w'.heap[b]? = _) := Lib.hid ((hB.block b hbl).trans HB.out); clear hR hB hRep; have hx : w'.cell? ⟨b, 3, none⟩ = some .nilIface := (cell_row hb1.out 3).trans rfl; have hy : w'.cell? ⟨b, 4, none⟩ = some (.slice (some ⟨g, 0, none⟩) 4 cp) := (cell_row hb1.out 4).trans rfl; have fx : w'.frozen? ⟨b, 3, none⟩ = false := frozen_row hb1.out 3; have fy : w'.frozen? ⟨b, 4, none⟩ = false := frozen_row hb1.out 4))
  go_end0
  obtain ⟨hR, hB, hRep⟩ := H1.out
  have hb2 := setCell_row (k := 4) (setCell_row (k := 3) hb1.out (repV R)) (.slice none 0 0)
  have hg2 := ((below_grown (r := some b) hB).trans (setCell_grown w' b 3 (repV R))).trans (setCell_grown (w'.setCell ⟨b, 3, none⟩ (repV R)) b 4 (.slice none 0 0))
  exact ⟨rfl, hg2, R, q, p, t, cq, cp2, ct, hb2, (hRep.but hbl (setCell_grown _ _ _ _)).but hbl (setCell_grown _ _ _ _)⟩

theorem slow_calls (b g cp : Nat) (s : Value) (w : World) (hc : 4 ≤ cp) (hb : w.heap[b]? = some (.cells #[.int .u32 0, .int .i32 0, s, .nilIface, .slice (some ⟨g, 0, none⟩) 4 cp] repT (0, 0))) (ho : OldNew g w) (hg : g < w.heap.size) (hgb : g ≠ b) :
    Calls Tryz.prog 167 #[.pointer (some ⟨b, 0, none⟩), .func (.func 154) #[.pointer (some ⟨b, 0, none⟩)] #[]] w fun e w' => e = .returned (.tuple #[]) ∧ Once1 b w w' (.int .u32 1) (.int .i32 0) s := by
  have hbl : b < w.heap.size := (Array.getElem?_eq_some_iff.1 hb).1
  have hb1 := setCell_row (k := 1) hb (.int .i32 1)
  have hg1 := setCell_grown w b 1 (.int .i32 1)
  have hl := run_call_load (P := Tryz.prog) Tryz.func177 (by kernel_rfl) (by kernel_rfl) (by kernel_rfl) .u32 (by kernel_rfl) (w := w.setCell ⟨b, 1, none⟩ (.int .i32 1)) (a := ⟨b, 0, none⟩) (x := 0) ((cell_row hb1 0).trans rfl)
  have hnot : ∀ (x : Bool) (w : World), (Op.unary .not (.bool x)).run Tryz.prog w = .ok (.bool (!x)) w := fun _ _ => rfl
  have hlk := o_lock ⟨b, 1, none⟩ w ((cell_row hb 1).trans rfl) (frozen_row hb 1)
  have hbo := buildOnce_calls b g cp (.int .u32 0) (.int .i32 1) s (w.setCell ⟨b, 1, none⟩ (.int .i32 1)) hc hb1 (ho.of_block (hg1.block g hg (fun e => hgb (by injection e)))) (by simpa [World.setCell] using hg)
  have HB := Lib.hid hb
  clear hb hb1
  go_enter_defers Tryz.func167, Tryz.ntmps167
  go_wp2_with (first
    | (go_at_call 178; refine hlk.mono ?_; rintro e w' ⟨rfl, rfl⟩)
    | (go_at_call 166; go_in)
    | (go_at_call 154; refine hbo.mono ?_; rintro e w' ⟨rfl, H⟩; have HO := Lib.hid H; clear H))
  obtain ⟨hgr, R, q, p, t, cq, cp2, ct, hbw, hRep⟩ := HO.out
  have hb2 := setCell_row (k := 0) (w := w'.drew) hbw (.int .u32 1)
  have hb3 := setCell_row (k := 1) hb2 (.int .i32 0)
  refine leaves_cons (f := 180) (args := #[.pointer (some ⟨b, 0, none⟩), .bool true]) (by simp) (by simp [go_sem]) ?_
  refine (o_store ⟨b, 0, none⟩ (.int .u32 0) .returning _ ((cell_row hbw 0).trans rfl) (frozen_row hbw 0)).mono ?_
  rintro e u' w'' ⟨rfl, rfl, rfl⟩
  refine leaves_cons (f := 179) (args := #[.pointer (some ⟨b, 1, none⟩)]) (by simp [settle]) (by simp [go_sem]) ?_
  refine (o_unlock ⟨b, 1, none⟩ _ _ ((cell_row hb2 1).trans rfl) (frozen_row hb2 1)).mono ?_
  rintro e u' w'' ⟨rfl, rfl, rfl⟩
  have hgd : w'.grownBy w'.drew (some b) := below_grown ((Below.refl _ _).drew)
  have hgf := (((hg1.trans hgr).trans hgd).trans (setCell_grown w'.drew b 0 (.int .u32 1))).trans (setCell_grown (w'.drew.setCell ⟨b, 0, none⟩ (.int .u32 1)) b 1 (.int .i32 0))
  have hsz : (w.setCell ⟨b, 1, none⟩ (.int .i32 1)).heap.size = w.heap.size := by simp [World.setCell]
  rw [hsz] at hRep
  have hfin : Once1 b w ((w'.drew.setCell ⟨b, 0, none⟩ (.int .u32 1)).setCell ⟨b, 1, none⟩ (.int .i32 0)) (.int .u32 1) (.int .i32 0) s :=
    ⟨hgf, R, q, p, t, cq, cp2, ct, hb3, ((hRep.but hbl hgd).but hbl (setCell_grown _ _ _ _)).but hbl (setCell_grown _ _ _ _)⟩
  simp [Leaves, settle, results, Tryz.results167]
  exact hfin

theorem do_calls (b g cp : Nat) (s : Value) (w : World) (hc : 4 ≤ cp) (hb : w.heap[b]? = some (.cells #[.int .u32 0, .int .i32 0, s, .nilIface, .slice (some ⟨g, 0, none⟩) 4 cp] repT (0, 0))) (ho : OldNew g w) (hg : g < w.heap.size) (hgb : g ≠ b) :
    Calls Tryz.prog 153 #[.pointer (some ⟨b, 0, none⟩), .func (.func 154) #[.pointer (some ⟨b, 0, none⟩)] #[]] w fun e w' => e = .returned (.tuple #[]) ∧ Once1 b w w' (.int .u32 1) (.int .i32 0) s := by
  have hl := run_call_load (P := Tryz.prog) Tryz.func177 (by kernel_rfl) (by kernel_rfl) (by kernel_rfl) .u32 (by kernel_rfl) (w := w) (a := ⟨b, 0, none⟩) (x := 0) ((cell_row hb 0).trans rfl)
  have hnot : ∀ (x : Bool) (w : World), (Op.unary .not (.bool x)).run Tryz.prog w = .ok (.bool (!x)) w := fun _ _ => rfl
  have hs := slow_calls b g cp s w hc hb ho hg hgb
  clear hb
  go_enter Tryz.func153, Tryz.ntmps153
  go_wp2_with (first
    | (go_at_call 166; go_in)
    | (go_at_call 167; refine hs.mono ?_; rintro e w' ⟨rfl, H⟩; have HO := Lib.hid H; clear H))
  go_end0
  exact ⟨rfl, HO.out⟩

theorem old_reads {a : Nat} {w : World} (ho : OldNew a w) : ReadsOf Value.string ⟨#[]⟩ w (some ⟨a, 0, none⟩) 4 [sB, sBB, sQ, sBQ] := by
  refine ⟨rfl, by omega, fun _ => ⟨_, rfl, fun j hj => ?_⟩⟩
  rw [Addr.add_mid, Nat.zero_add]
  match j, hj with
  | 0, _ => exact ho.c0
  | 1, _ => exact ho.c1
  | 2, _ => exact ho.c2
  | 3, _ => exact ho.c3
theorem new_old {w : World} {B : Nat} {v : Value} (h : w.ownsRow B 9 1 v ([] ++ [sB, sBB, sQ, sBQ]).length (encs Value.string ([] ++ [sB, sBB, sQ, sBQ]))) :
    ∃ g cp, v = .slice (some ⟨g, 0, none⟩) 4 cp ∧ B ≤ g ∧ g < w.heap.size ∧ 4 ≤ cp ∧ OldNew g w := by
  rcases h.2 with ⟨_, e⟩ | ⟨t, ct, cur, rfl, hb, hh, hn, hm, hs, htk⟩
  · cases e
  · have hc : ∀ j, j < 4 → w.cell? ⟨t, j, none⟩ = (encs Value.string ([] ++ [sB, sBB, sQ, sBQ]))[j]? := fun j hj => by
      rw [cell_row hh, ← htk]
      simp [List.getElem?_take, hj]
    exact ⟨t, ct, rfl, hb, (Array.getElem?_eq_some_iff.1 hh).1, hn, hc 0 (by omega), hc 1 (by omega), hc 2 (by omega), hc 3 (by omega)⟩
theorem newrep_calls (a c : Nat) (w : World) (ho : OldNew a w) (ha : a < w.heap.size) :
    Calls Tryz.prog 130 #[.slice (some ⟨a, 0, none⟩) 4 c] w fun e w' => ∃ b g cp, e = .returned (.pointer (some ⟨b, 0, none⟩)) ∧ Below w.heap.size w w' ∧ w.heap.size ≤ b ∧ w.heap.size ≤ g ∧ g ≠ b ∧ g < w'.heap.size ∧ 4 ≤ cp ∧ OldNew g w' ∧
      w'.heap[b]? = some (.cells #[.int .u32 0, .int .i32 0, .int .u32 0, .nilIface, .slice (some ⟨g, 0, none⟩) 4 cp] repT (0, 0)) := by
  go_enter Tryz.func130, Tryz.ntmps130
  go_wp2_with (first
    | (at_builtin; refine print_append_row_of (w0 := w) Value.string ⟨#[]⟩ w.heap.size rfl (.const (.slice none 0 0)) (.tmp 8) 51 9 (.string ⟨#[]⟩) 16 rfl Tryz.underlying51 (by kernel_rfl) rfl (by decide) (fun _ => rfl) (.slice none 0 0) [] [sB, sBB, sQ, sBQ] (some ⟨a, 0, none⟩) 4 c rfl rfl (own_nil _ _ _ _) (old_reads ho) (Below.refl _ _) (Nat.le_refl _) (by decide) ?_; intro v1 w1 ho1 hB1 hg1 hat1; obtain ⟨g, cp, rfl, hgw, hgl, hcp, hON⟩ := new_old ho1; have HB := Lib.hid hB1; have HN := Lib.hid hON; clear ho1 hB1 hg1 hat1 hON))
  go_ret
  have hB2 := (Below.refl w1.heap.size w1).alloc (Nat.le_refl _) (.cells #[.int .u32 0, .int .i32 0, .int .u32 0, .nilIface, .slice (some ⟨g, 0, none⟩) 4 cp] repT)
  exact ⟨w1.heap.size, g, cp, rfl, HB.out.trans (hB2.mono HB.out.size), HB.out.size, hgw, by omega, Nat.lt_of_lt_of_le hgl hB2.size, hcp, HN.out.of_block (hB2.block g hgl), heap_alloc_new _ _⟩
end Go.Proofs.YtmfejjlmflgnbaaGreatDoor.Tok

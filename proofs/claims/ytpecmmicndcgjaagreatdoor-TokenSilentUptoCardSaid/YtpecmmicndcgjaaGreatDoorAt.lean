/- CONTRACT: token.At of every text and place. -/
import Derived.Test.YtpecmmicndcgjaaGreatDoorWalk
namespace Go.Proofs.YtpecmmicndcgjaaGreatDoor.Tok
open Go.RowKit Go.Proofs.YtpecmmicndcgjaaGreatDoor.PA Go.Proofs.YtpecmmicndcgjaaGreatDoorW.PrintWords Go.Proofs.YtpecmmicndcgjaaGreatDoorW.PrintLast Go.Proofs.YtpecmmicndcgjaaGreatDoor.Sp
set_option linter.unusedVariables false
set_option linter.unusedSimpArgs false
set_option maxRecDepth 100000

def clampT (off : Int) (n : Nat) : Nat := min off.toNat n
theorem at_calls2 (text : ByteArray) (off : Int) (w : World) (hs : text.size < 4294967296) :
    Calls Tryz.prog 19 #[.string text, .int .i64 off] w fun e w' => e = .returned (.agg #[.int .i64 (clampT off text.size : Nat), .int .i64 ((spotT text.data.toList (clampT off text.size)).1 : Nat), .int .i64 ((spotT text.data.toList (clampT off text.size)).2 : Nat)]) ∧ Below w.heap.size w w' := by
  have hcl : min (max off 0) (text.size : Int) = ((clampT off text.size : Nat) : Int) := by unfold clampT; omega
  have hle : clampT off text.size ≤ text.size := Nat.min_le_right _ _
  generalize clampT off text.size = m at hcl hle
  go_enter Tryz.func19, Tryz.ntmps19
  go_wp2_with (first
    | (go_at_call 43; refine (start_calls text _).mono ?_; rintro e w1 ⟨g, rfl, hg, hB1, hrow⟩; have HB1 := Lib.hid hB1; have HR := Lib.hid hrow; have HGE := Lib.hid hg; clear hB1 hrow hg)
    | (go_at_call 44; refine (to_calls text g 0 m _ (Nat.zero_le _) hle hs HR.out).mono ?_; rintro e w2 ⟨rfl, hgr, hrow2⟩; have H2 := Lib.hid (And.intro hgr hrow2); have hres : Hid (w2.heap[w.heap.size]? = some (.cells #[.int .i64 0, .int .i64 0, .int .i64 0] 25 (0, 0))) := Lib.hid (by have h1 := HB1.out.size; have h2 := HGE.out; simp at h1 h2; rw [hgr.block w.heap.size (by omega) (fun e => by injection e with e; omega), HB1.out.block w.heap.size (by simp)]; exact heap_alloc_new _ _); clear hgr hrow2)
    | ((with_reducible refine gate_store (t := 25) (p := 4) rfl ?_); refine put_event rfl 25 _ _ rfl w.heap.size #[.int .i64 (m : Nat), .int .i64 ((spotT text.data.toList m).1 : Nat), .int .i64 ((spotT text.data.toList m).2 : Nat)] rfl rfl 25 #[.int .i64 0, .int .i64 0, .int .i64 0] hres.out (by kernel_rfl) rfl (by simp [Value.oneCell']) w.heap.size (Nat.le_refl _) ?_; intro w3 hblk3 hB3 hsz3 hoth3))
  refine bodyPost_ret (results_cell_row rfl _ _ w.heap.size 25 #[.int .i64 (m : Nat), .int .i64 ((spotT text.data.toList m).1 : Nat), .int .i64 ((spotT text.data.toList m).2 : Nat)] (0, 0) _ rfl hblk3 Tryz.underlying25 rfl (by kernel_rfl)) rfl ?_
  have h1 := HB1.out.size
  have h2 := HGE.out
  simp at h1 h2
  have b2 : Below w.heap.size w1 w2 := ⟨H2.out.1.os, H2.out.1.tape, H2.out.1.output, H2.out.1.size, fun k hk => H2.out.1.block k (by omega) (fun e => by injection e with e; omega)⟩
  exact ⟨rfl, (((((Below.refl _ w).alloc (Nat.le_refl _) _).trans (HB1.out.mono (by simp))).trans b2)).trans hB3⟩
end Go.Proofs.YtpecmmicndcgjaaGreatDoor.Tok

/- CONTRACT: a quoting Replacer's Replace, whole: sync.Once, the building, the bytes. -/
import Derived.Test.YtmfejjlmflgnbaaGreatDoorZRpl
namespace Go.Proofs.YtmfejjlmflgnbaaGreatDoor.Tok
open Go.RowKit Go.Proofs.YtmfejjlmflgnbaaGreatDoor.PA Go.Proofs.YtmfejjlmflgnbaaGreatDoorW.PrintWords Go.Proofs.YtmfejjlmflgnbaaGreatDoorW.PrintLast Go.Proofs.YtmfejjlmflgnbaaGreatDoor.Sp
set_option linter.unusedVariables false
set_option linter.unusedSimpArgs false
set_option maxRecDepth 100000

/-- B: what is below B stays. -/
theorem rep_calls (b g cp B : Nat) (s : ByteArray) (w : World) (hB : B ≤ b) (hBs : B ≤ w.heap.size) (hs : s.size ≤ 65536) (hc : 4 ≤ cp) (hb : w.heap[b]? = some (.cells #[.int .u32 0, .int .i32 0, .int .u32 0, .nilIface, .slice (some ⟨g, 0, none⟩) 4 cp] repT (0, 0))) (ho : OldNew g w) (hg : g < w.heap.size) (hgb : g ≠ b) :
    Calls Tryz.prog 131 #[.pointer (some ⟨b, 0, none⟩), .string s] w fun e w' => e = .returned (.string ⟨(escT s.data.toList).toArray⟩) ∧ Below B w w' := by
  have hdo := do_calls b g cp (.int .u32 0) w hc hb ho hg hgb
  clear hb
  have hm : ∀ (h : Value) (wx : World), (Go.method 488 300 h "Replace").run Tryz.prog wx = .ok (256, h) wx := fun _ _ => by kernel_rfl
  go_enter Tryz.func131, Tryz.ntmps131
  go_wp2_with (first
    | (go_at_call 153; refine hdo.mono ?_; rintro e w' ⟨rfl, H⟩; obtain ⟨hgr, R, q, p, t, cq, cp2, ct, hrow, hRep⟩ := H; have HR := Lib.hid hRep; have HG := Lib.hid hgr; have hcell : w'.cell? ⟨b, 3, none⟩ = some (.iface 300 (.pointer (some ⟨R, 0, none⟩))) := (cell_row hrow 3).trans rfl; clear hrow hRep hgr)
    | (go_at_call 256; refine (bsrep_calls _ R q p t cq cp2 ct s _ HR.out hs).mono ?_; rintro e w2 ⟨rfl, hB2⟩; have HB2 := Lib.hid hB2; clear hB2))
  go_ret
  have h1 : Below B w w' := ⟨HG.out.os, HG.out.tape, HG.out.output, HG.out.size, fun k hk => HG.out.block k (by omega) (fun e => by injection e with e; omega)⟩
  exact ⟨rfl, h1.trans (HB2.out.mono (by have := HG.out.size; omega))⟩
end Go.Proofs.YtmfejjlmflgnbaaGreatDoor.Tok

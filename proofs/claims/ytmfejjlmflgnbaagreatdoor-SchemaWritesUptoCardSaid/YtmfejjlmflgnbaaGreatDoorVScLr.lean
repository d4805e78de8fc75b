/- THE LAW SchemaReads, its walk. -/
import Derived.Test.YtmfejjlmflgnbaaGreatDoorVScHx
import Derived.Test.YtmfejjlmflgnbaaGreatDoorVRd
set_option linter.unusedVariables false
set_option linter.unusedSimpArgs false
set_option maxRecDepth 100000
namespace Go.Proofs.YtmfejjlmflgnbaaGreatDoor.Sc
open RowKit PA YtmfejjlmflgnbaaGreatDoorW.PrintWords YtmfejjlmflgnbaaGreatDoorW.PrintLast YtmfejjlmflgnbaaGreatDoorW.PrintMore Sp Tr Tok
def shOf:Except SF SS->SS
 | .ok s=>s
 | .error _=>⟨⟨#[]⟩,[]⟩
def ftOf:Except SF SS->SF
 | .ok _=>⟨0,z41,⟨#[]⟩⟩
 | .error f=>f
theorem read_any {t:ST} {w:World} {fn:Nat} {args:Array Value} (h:Calls Tryz.prog fn args w (ReadPost t w)):Calls Tryz.prog fn args w fun e w'=>Below w.heap.size w w'/\∃ (Ai:Option Addr) (ci:Nat),e=.returned (.tuple #[.agg #[.string (shOf (readT t)).cpu,.slice Ai (shOf (readT t)).items.length ci],.agg #[.int .i64 (ftOf (readT t)).code,.int .i64 (ftOf (readT t)).spot.f0,.int .i64 (ftOf (readT t)).spot.f1,.int .i64 (ftOf (readT t)).spot.f2,.string (ftOf (readT t)).name]])/\Kd.R kItem 78 w' w.heap.size (fun _=>True) (.slice Ai (shOf (readT t)).items.length ci) (shOf (readT t)).items:=by
 refine h.mono ?_
 rintro e w' ⟨hB,hp⟩;cases hr:readT t with
 | ok s =>
  rw [hr] at hp;obtain ⟨v,h2,h3⟩:=hp;obtain ⟨Ai,ci,rfl⟩:=RForm h3;exact ⟨hB,Ai,ci,h2,h3⟩
 | error f =>
  rw [hr] at hp;exact ⟨hB,none,0,hp,Kd.R_nil _ _ _ _ _⟩
end Go.Proofs.YtmfejjlmflgnbaaGreatDoor.Sc

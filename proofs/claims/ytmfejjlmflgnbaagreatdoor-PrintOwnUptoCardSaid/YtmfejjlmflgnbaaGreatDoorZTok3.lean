/- A token's cells. -/
import Derived.Test.YtmfejjlmflgnbaaGreatDoorZBase
import Derived.Lib.Strings
namespace Go.Proofs.YtmfejjlmflgnbaaGreatDoor.Tok
open Go.RowKit Go.Proofs.YtmfejjlmflgnbaaGreatDoor.PA Go.Proofs.YtmfejjlmflgnbaaGreatDoorW.PrintWords Go.Proofs.YtmfejjlmflgnbaaGreatDoorW.PrintLast Go.Proofs.YtmfejjlmflgnbaaGreatDoor.Sp
set_option linter.unusedVariables false
set_option linter.unusedSimpArgs false

def tokCells (k o l c : Int) (t : ByteArray) (v : Int) (h : Bool) : Array Value := #[.int .i64 k, .int .i64 o, .int .i64 l, .int .i64 c, .string t, .int .u32 v, .bool h]
def tokV (k o l c : Int) (t : ByteArray) (v : Int) (h : Bool) : Value := .agg (tokCells k o l c t v h)
def tok0 : Array Value := tokCells 0 0 0 0 ⟨#[]⟩ 0 false
theorem tok_all (k o l c : Int) (t : ByteArray) (v : Int) (h : Bool) : (tokCells k o l c t v h).all (·.oneCell') = true := by simp [tokCells, Value.oneCell']
end Go.Proofs.YtmfejjlmflgnbaaGreatDoor.Tok

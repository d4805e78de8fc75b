/- The law PrintNames answers true (errors, depth and kinds of values of layer 4 are the numbers that the document names). No condition: it has no argument. -/
import Derived.Test.YtpecmmicndcgjaaPPrintNamesx1
namespace Go.Proofs.Ytpecmmicndcgjaa.Pure
open Go.RowKit Go.Proofs.Ytpecmmicndcgjaa.PPrintNames Go.Proofs.YtpecmmicndcgjaaW.PrintWords Go.Proofs.YtpecmmicndcgjaaW.PrintLast

/-- YOURS: tappetlaw04_PrintNames.f  = some true
What it reaches (each with k first where it has rounds; `.mono`: more rounds tell the same; `.l0`, ..: its loops, with `.mono_l`): tappetlaw04_num.f, tappetlaw04_PrintNames.f -/
theorem PrintNames : tappetlaw04_PrintNames.Pure := by
  rfl

end Go.Proofs.Ytpecmmicndcgjaa.Pure

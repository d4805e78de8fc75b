/- The law TokenNames answers true (errors, limits and kinds of layer 2 are the numbers that the document names). No condition: it has no argument. -/
import Derived.Test.YtpecmmicndcgjaaPTokenNamesx1
namespace Go.Proofs.Ytpecmmicndcgjaa.Pure
open Go.RowKit Go.Proofs.Ytpecmmicndcgjaa.PTokenNames Go.Proofs.YtpecmmicndcgjaaW.PrintWords Go.Proofs.YtpecmmicndcgjaaW.PrintLast

/-- YOURS: tappetlaw02_TokenNames.f  = some true
What it reaches (each with k first where it has rounds; `.mono`: more rounds tell the same; `.l0`, ..: its loops, with `.mono_l`): tappetlaw02_num.f, tappetlaw02_TokenNames.f -/
theorem TokenNames : tappetlaw02_TokenNames.Pure := by
  rfl

end Go.Proofs.Ytpecmmicndcgjaa.Pure

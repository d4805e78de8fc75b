/- The law NamesNames answers true (errors of layer 6 are the numbers that the document names). No condition: it has no argument. -/
import Derived.Test.YtpecmmicndcgjaaPNamesNamesx1
namespace Go.Proofs.Ytpecmmicndcgjaa.Pure
open Go.RowKit Go.Proofs.Ytpecmmicndcgjaa.PNamesNames Go.Proofs.YtpecmmicndcgjaaW.PrintWords Go.Proofs.YtpecmmicndcgjaaW.PrintLast

/-- YOURS: tappetlaw06_NamesNames.f  = some true
What it reaches (each with k first where it has rounds; `.mono`: more rounds tell the same; `.l0`, ..: its loops, with `.mono_l`): tappetlaw06_num.f, tappetlaw06_NamesNames.f -/
theorem NamesNames : tappetlaw06_NamesNames.Pure := by
  rfl

end Go.Proofs.Ytpecmmicndcgjaa.Pure

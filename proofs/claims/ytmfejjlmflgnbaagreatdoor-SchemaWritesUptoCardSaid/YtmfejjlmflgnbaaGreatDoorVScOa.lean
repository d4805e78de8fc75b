/- MEMORY: what holds while a sheet that was read is written over (its entries' names and words, its rows grown, its items' names): each slice of entries that was read is a row of entries still, and what lies under each entry was read, or is nothing; nothing else is touched. -/
import Derived.Test.YtmfejjlmflgnbaaGreatDoorVAttrs
set_option linter.unusedVariables false
set_option linter.unusedSimpArgs false
set_option maxRecDepth 100000
namespace Go.Proofs.YtmfejjlmflgnbaaGreatDoor.Sc
open RowKit PA YtmfejjlmflgnbaaGreatDoorW.PrintWords YtmfejjlmflgnbaaGreatDoorW.PrintLast YtmfejjlmflgnbaaGreatDoorW.PrintMore Sp Tr Tok
abbrev GdE (wX:World) (B0 B1:Nat) (v:Value) (xs:List SE):Prop:=Kd.R kEnt 80 wX B0 (fun k=>k<B1) v xs
def GV (wX:World) (B0 B1:Nat) (v:Value):Prop:=∃ xs,GdE wX B0 B1 v xs
def RP (wX:World) (B0 B1:Nat) (w:World) (v:Value) (n:Nat):Prop :=
 (v=.slice none 0 0/\n=0)∨∃ g cap cur,v=.slice (some ⟨g,0,none⟩) n cap/\B0<=g/\(g<B1∨wX.heap.size<=g)/\w.heap[g]?=some (.cells cur 80 (0,0))/\n<=cap/\cap<=maxLen/\cur.size=cap*8/\∀ j,j<n->∃ x,cur[j*8 + 7]?=some x/\GV wX B0 B1 x
section
variable {wX w w1:World} {B0 B1 gI n g off:Nat} {v u:Value} {cur cur2:Array Value} {its:List SI}
structure OI (wX:World) (B0 B1 gI:Nat) (its:List SI) (w:World):Prop where
 bds:B0<=B1/\B1<=wX.heap.size
 low:Below B0 wX w
 up:∀ k,B1<=k->k<wX.heap.size->w.heap[k]?=wX.heap[k]?
 rows:∀ v xs,GdE wX B0 B1 v xs->RP wX B0 B1 w v xs.length
 itm:0<its.length->∃ cur,w.heap[gI]?=some (.cells cur 78 (0,0))/\its.length*6<=cur.size/\∀ i x,its[i]?=some x->∃ A c,cur[i*6 + 5]?=some (.slice A x.ents.length c)/\GdE wX B0 B1 (.slice A x.ents.length c) x.ents
end
end Go.Proofs.YtmfejjlmflgnbaaGreatDoor.Sc

/- OPENING THE ARGUMENTS: a token by value, and a slice of tokens, out of what the form says of them. -/
import Derived.Test.YtmfejjlmflgnbaaGreatDoorCards
import Derived.Test.YtmfejjlmflgnbaaGreatDoorVBase
import Derived.WalkKit
import Derived.ProofKit
import Derived.OpenShut
import Derived.ShutString
import Derived.Below
set_option linter.unusedVariables false
set_option linter.unusedSimpArgs false
set_option maxRecDepth 100000
namespace Go.Proofs.YtmfejjlmflgnbaaGreatDoor.Tok
open ChangeShapes WideShapes ChangeAt RowKit PA YtmfejjlmflgnbaaGreatDoorW.PrintWords YtmfejjlmflgnbaaGreatDoorW.PrintLast
theorem laidOut:laidOutB Tryz.prog=true:=by kernel_rfl
theorem cells_at:Tryz.prog.cellsOf 41=3:=by kernel_rfl
theorem cells_int:Tryz.prog.cellsOf 3=1:=by kernel_rfl
theorem cells_str:Tryz.prog.cellsOf 9=1:=by kernel_rfl
theorem cells_num:Tryz.prog.cellsOf 46=1:=by kernel_rfl
theorem cells_bool:Tryz.prog.cellsOf 4=1:=by kernel_rfl
theorem open_at {H:Type} {enc:TypeId × Value->H} {W:World} {base:Nat} {sp:Nat->Bool} {held:Bool} {fuel:Nat} {cs:List Value} {x:DataW H × List MemPlace}
  (hf:DataW.trod enc Tryz.prog W base sp held fuel 41 cs=some x) :
  ∃ o l c,cs=[.int .i64 o,.int .i64 l,.int .i64 c]/\x=(.agg [.lit (.int .i64 o),.lit (.int .i64 l),.lit (.int .i64 c)],[]):=by
 obtain ⟨xs,n,rfl,rfl,hl,hn,hg⟩:=DataW.trod_struct Tryz.underlying41 hf;rw [cells_at] at hl;have hn3:xs.length=3:=hn
 match cs,hl with
 | [c0,c1,c2],_ =>
  match xs,hn3 with
  | [x0,x1,x2],_ =>
   have g0:=hg 0 _ rfl;have g1:=hg 1 _ rfl;have g2:=hg 2 _ rfl;simp only [cells_int,List.drop_zero,List.drop_succ_cons,List.take_succ_cons,List.take_zero,List.getElem?_cons_zero,List.getElem?_cons_succ] at g0 g1 g2;obtain ⟨o,e0,rfl,_⟩:=DataW.trod_int Tryz.underlying3 g0;obtain ⟨l,e1,rfl,_⟩:=DataW.trod_int Tryz.underlying3 g1;obtain ⟨c,e2,rfl,_⟩:=DataW.trod_int Tryz.underlying3 g2;cases e0;cases e1;cases e2;exact ⟨o,l,c,rfl,rfl⟩
theorem shut_below {H:Type} {enc:TypeId × Value->H} {W W':World} {ty:TypeId} {v:Value} {d:DataW H} {p:List MemPlace} (ht:ty<Tryz.prog.types.size)
  (h:DataW.Trod enc Tryz.prog W 0 (fun _=>true) true ty v d p) (bel:Below W.heap.size W W') (rr:Tryz.prog.readableRec ty=true):DataW.Trod enc Tryz.prog W' 0 (fun b=>decide (b<W.heap.size)) true ty v d p :=
 Below.trod laidOut rr ht h bel (fun x hx=>by obtain ⟨m,hm⟩:=h;exact DataW.trod_lt m _ _ _ hm x hx)
end Go.Proofs.YtmfejjlmflgnbaaGreatDoor.Tok

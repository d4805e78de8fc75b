/- THE LAW SchemaOwn, its walk, as far as its loop's round and its end. -/
import Derived.Test.YtmfejjlmflgnbaaGreatDoorVScLr
import Derived.Test.YtmfejjlmflgnbaaGreatDoorVScOa
set_option linter.unusedVariables false
set_option linter.unusedSimpArgs false
set_option maxRecDepth 100000
namespace Go.Proofs.YtmfejjlmflgnbaaGreatDoor.Sc
open RowKit PA YtmfejjlmflgnbaaGreatDoorW.PrintWords YtmfejjlmflgnbaaGreatDoorW.PrintLast YtmfejjlmflgnbaaGreatDoorW.PrintMore Sp Tr Tok
structure WU where
 v:ByteArray
 c:ByteArray
 l:List SO
 e:Int
def wuOf (s:SS):WU:=match writeS s with
 | some u=>⟨ver,s.cpu,u.f2,0⟩
 | none=>⟨⟨#[]⟩,⟨#[]⟩,[],2⟩
theorem write_any {s:SS} {w:World} {fn:Nat} {args:Array Value} (h:Calls Tryz.prog fn args w (WritePost s w)):Calls Tryz.prog fn args w fun e w'=>Below w.heap.size w w'/\∃ (Ao:Option Addr) (co:Nat),e=.returned (.tuple #[.agg #[.string (wuOf s).v,.string (wuOf s).c,.slice Ao (wuOf s).l.length co,.bool false,.string ⟨#[]⟩],.int .i64 (wuOf s).e])/\Kd.R k44 44 w' w.heap.size (fun _=>True) (.slice Ao (wuOf s).l.length co) (wuOf s).l:=by
 refine h.mono ?_
 rintro e w' ⟨hB,hp⟩;unfold wuOf;cases hr:writeS s with
 | some u =>
  rw [hr] at hp;obtain ⟨v,h2,h3⟩:=hp;obtain ⟨Ai,ci,rfl⟩:=RForm h3;exact ⟨hB,Ai,ci,h2,h3⟩
 | none =>
  rw [hr] at hp;exact ⟨hB,none,0,hp,Kd.R_nil _ _ _ _ _⟩
def Back (s:SS) (u:WU):Prop:=u.e=2∨(u.e=0/\(u.l.length<=1073741824/\∀ o ∈ u.l,szL o.f3<=1073741824)/\∃ b,readT ⟨u.v,u.c,u.l,false,⟨#[]⟩⟩=.ok b/\sameS false b s=true/\b.cpu=s.cpu/\b.items.length=s.items.length/\∀ i ∈ b.items,szEs i.ents<=1073741824)
theorem wu_back {s:SS} (hn:s.items.length<=1073741824) (hs:∀ i ∈ s.items,szEs i.ents<=1073741824):Back s (wuOf s):=by
 unfold wuOf;cases hr:writeS s with
 | none=>exact .inl rfl
 | some u =>
  obtain ⟨rfl,b,hb,hsb⟩:=write_back hr
  refine .inr ⟨rfl,⟨by show (layT s).f2.length<=_;rw [lay_len];exact hn,lay_sz hs⟩,b,hb,hsb,back_sz hsb hs⟩
end Go.Proofs.YtmfejjlmflgnbaaGreatDoor.Sc

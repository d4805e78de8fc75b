/- SMALL LAWS for the walks of layer 5's laws: strings that are empty, faults' numbers, sizes of what is alike, the arms' worlds. -/
import Derived.Test.YtmfejjlmflgnbaaGreatDoorVRef
import Derived.Test.YtmfejjlmflgnbaaGreatDoorVVal
import Derived.Test.YtmfejjlmflgnbaaGreatDoorVAlk
import Derived.Test.YtmfejjlmflgnbaaGreatDoorVHeads
set_option linter.unusedVariables false
set_option linter.unusedSimpArgs false
set_option maxRecDepth 100000
namespace Go.Proofs.YtmfejjlmflgnbaaGreatDoor.Sc
open RowKit PA YtmfejjlmflgnbaaGreatDoorW.PrintWords YtmfejjlmflgnbaaGreatDoorW.PrintLast Sp Tr Tok
mutual
theorem sameE_sz:∀ (s:Bool) (a b:SE),sameE s a b=true->szE a=szE b
 | s,⟨n,sp,m,au,wd,ps⟩,⟨n',sp',m',au',wd',ps'⟩,h=>by
  simp only [sameE,Bool.and_eq_true,decide_eq_true_eq] at h;have h1:=sameEs_sz s ps ps' h.2;have h2:=h.1.1.1.1.1;subst h2;simp only [szE,h1]
theorem sameEs_sz:∀ (s:Bool) (a b:List SE),sameEs s a b=true->szEs a=szEs b
 | s,[],[],h=>rfl
 | s,[],y :: b,h=>by simp [sameEs] at h
 | s,x :: a,[],h=>by simp [sameEs] at h
 | s,x :: a,y :: b,h=>by
  rw [sameEs,Bool.and_eq_true] at h;simp only [szEs,sameE_sz s x y h.1,sameEs_sz s a b h.2]
end
theorem back_sz {b s:SS} {K:Nat} (h:sameS false b s=true) (hs:∀ i ∈ s.items,szEs i.ents<=K):b.cpu=s.cpu/\b.items.length=s.items.length/\∀ i ∈ b.items,szEs i.ents<=K:=by
 unfold sameS at h;rw [Bool.and_eq_true] at h;obtain ⟨h1,h2⟩:=sameIs_get h.2
 refine ⟨of_decide_eq_true h.1,h1,fun i hi=>?_⟩
 obtain ⟨j,hj⟩:=List.mem_iff_getElem?.1 hi;have hjl:j<s.items.length:=by rw [<- h1];exact (List.getElem?_eq_some_iff.1 hj).1
 have h3:=h2 j i _ hj (List.getElem?_eq_getElem hjl);have h4:=sameEs_sz false _ _ (sameI_split h3).2.2.2;rw [h4];exact hs _ (List.getElem_mem hjl)
theorem read_ok {eb:Int->Addr} {t:ST} {s:SS} {w:World} {A:Option Addr} {c:Nat} (hr:readT t=.ok s) (h:Calls Tryz.prog 29 #[.agg (treC t A c)] w (ReadPost t w)) :
  Calls Tryz.prog 29 #[.agg (treC t A c)] w fun e w'=>Below w.heap.size w w'/\∃ (Ai:Option Addr) (ci:Nat),e=.returned (.tuple #[.agg #[.string s.cpu,.slice Ai s.items.length ci],.agg fa0])/\Kd.R kItem 78 w' w.heap.size (fun _=>True) (.slice Ai s.items.length ci) s.items:=h.mono (fun e w' hp=>⟨hp.1,by
   have h1:=hp.2;rw [hr] at h1;obtain ⟨v,h2,h3⟩:=h1;obtain ⟨Ai,ci,rfl⟩:=RForm h3
   exact ⟨Ai,ci,h2,h3⟩⟩)
theorem lay_len (s:SS):(layT s).f2.length=s.items.length:=by
 show (s.items.map (fun i=>(layI i).1)).length=_;rw [List.length_map]
end Go.Proofs.YtmfejjlmflgnbaaGreatDoor.Sc

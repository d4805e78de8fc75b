/- OPENING A TREE: what the form says of an argument of type api.Tree gives a tree over the printed types, its rows of objects and attributes, its numbers and sizes. -/
import Derived.Test.YtmfejjlmflgnbaaGreatDoorVOpen
import Derived.Test.YtmfejjlmflgnbaaGreatDoorVScRd
import Derived.Test.YtmfejjlmflgnbaaGreatDoorVVal
import Derived.DataReads
import Derived.DataElems
set_option linter.unusedVariables false
set_option linter.unusedSimpArgs false
set_option maxRecDepth 100000
namespace Go.Proofs.YtmfejjlmflgnbaaGreatDoor.Sc
open Go.ChangeShapes Go.WideShapes Go.ChangeAt RowKit PA YtmfejjlmflgnbaaGreatDoorW.PrintWords YtmfejjlmflgnbaaGreatDoorW.PrintLast Tr Tok
theorem pickR {α:Type} (n:Nat) (p:Nat->α->Prop) (h:∀ i,i<n->∃ x,p i x):∃ l:List α,l.length=n/\∀ (i:Nat) (x:α),l[i]?=some x->i<n/\p i x:=by
 induction n with
 | zero=>exact ⟨[],rfl,fun i x hx=>by simp at hx⟩
 | succ n ih =>
  obtain ⟨l,hl,hp⟩:=ih (fun i hi=>h i (by omega));obtain ⟨x,hx⟩:=h n (by omega)
  refine ⟨l++[x],by simp [hl],fun i y hy=>?_⟩
  by_cases e:i<l.length
  ·rw [List.getElem?_append_left e] at hy
   have:=hp i y hy;exact ⟨by omega,this.2⟩
  ·rw [List.getElem?_append_right (by omega)] at hy
   have hi:i - l.length=0:=by
    by_cases h0:i - l.length=0
    ·exact h0
    ·rw [List.getElem?_eq_none (by simp;omega)] at hy;cases hy
   rw [hi] at hy;simp at hy;subst hy;have:i=n:=by omega
   subst this;exact ⟨by omega,hx⟩
theorem sum_bulk {H α:Type} (wt:α->Nat):∀ (l:List α) (es:List (DataW H)),es.length=l.length->(∀ (i:Nat) (p:α) (d:DataW H),l[i]?=some p->es[i]?=some d->wt p<=Rows.uptoBulk d)->(l.map wt).sum<=Rows.uptoBulkAll es
 | [],es,_,_=>by simp
 | p :: l,[],h,_=>by simp at h
 | p :: l,d :: es,h,hw=>by
  have h0:=hw 0 p d rfl rfl;have h1:=sum_bulk wt l es (by simpa using h) (fun i q e hq he=>hw (i + 1) q e (by simpa using hq) (by simpa using he));simp only [List.map_cons,List.sum_cons,Rows.uptoBulkAll];omega
theorem open_row {H:Type} {enc:TypeId × Value->H} {W:World} {base:Nat} {sp:Nat->Bool} {held:Bool} {α:Type} (k:Kd α) (wt:α->Nat) (R:α->Prop) (e sl:TypeId) (hu:Tryz.prog.underlying sl=some (.slice e)) (hsz:Tryz.prog.cellsOf e=k.sz)
  {fuel:Nat} {cs:List Value} {x:DataW H × List MemPlace} (hf:DataW.trod enc Tryz.prog W base sp held fuel sl cs=some x)
  (hE:∀ n,n<fuel->∀ cs (y:DataW H × List MemPlace),DataW.trod enc Tryz.prog W base sp held n e cs=some y->∃ p,k.K W p cs/\R p/\wt p<=Rows.uptoBulk y.1) :
  ∃ (A:Option Addr) (c:Nat) (l:List α),cs=[.slice A l.length c]/\l.length<=c/\Kd.C k W A l.length l/\(∀ p ∈ l,R p)/\(l.map wt).sum + 1<=Rows.uptoBulk x.1:=by
 rcases DataW.trod_slice hu hf with ⟨hcs,he⟩ | ⟨a,l0,c0,elems,rest,n,rfl,hcs,he,hb,hle,hmax,hlen,hel,_,_⟩
 ·subst he
  exact ⟨none,0,[],hcs,Nat.le_refl _,⟨rfl,by simp,fun h=>absurd h (by simp)⟩,fun p hp=>(by cases hp),by simp [Rows.uptoBulk]⟩
 ·obtain ⟨l,hl,hp⟩:=pickR l0 (fun i (p:α)=>∃ c,c.length=k.sz/\k.K W p c/\(∀ (j:Nat) (u:Value),c[j]?=some u->W.cell? (a.add (i*k.sz + j))=some u)/\R p/\∃ d,(elems.map (·.1))[i]?=some d/\wt p<=Rows.uptoBulk d) (fun i hi=>by
   have h1:=hel i hi;rw [List.getElem?_eq_getElem (by omega)] at h1;obtain ⟨c,hc,ht⟩:=Option.bind_eq_some_iff.1 h1;obtain ⟨_,hcl,hcc⟩:=World.cells?_some hc;obtain ⟨p,hK,hR,hw⟩:=hE n (by omega) c _ ht
   refine ⟨p,c,by rw [hcl,hsz],hK,fun j u hu=>?_,hR,_,by rw [List.getElem?_map,List.getElem?_eq_getElem (by omega)];rfl,hw⟩
   have hj:j<c.length:=(List.getElem?_eq_some_iff.1 hu).1;have:=hcc j (by omega);rw [Addr.add_add,hsz] at this
   rw [this,hu])
  subst hl;have hD:x.1=.slice (elems.map (·.1)) (rest.map (·.1)):=congrArg Prod.fst he
  refine ⟨some a,c0,l,hcs,hle,⟨rfl,by unfold maxLen at hmax;omega,fun _=>⟨a,rfl,fun j p hj=>?_⟩⟩,fun p hpm=>?_,?_⟩
  ·obtain ⟨_,c,h1,h2,h3,_⟩:=hp j p hj
   exact ⟨c,h1,h2,h3⟩
  ·obtain ⟨i,hi,rfl⟩:=List.getElem_of_mem hpm
   obtain ⟨_,c,_,_,_,h4,_⟩:=hp i _ (List.getElem?_eq_getElem hi);exact h4
  ·rw [hD]
   have:=sum_bulk wt l (elems.map (·.1)) (by simp [hlen]) (fun i p d hq hd=>by
    obtain ⟨_,c,_,_,_,_,d',hd',hw⟩:=hp i p hq;rw [hd] at hd';cases hd'
    exact hw)
   simp only [Rows.uptoBulk];omega
theorem str_len (t:ByteArray):t.data.toList.length=t.size:=by rw [Array.length_toList];rfl
end Go.Proofs.YtmfejjlmflgnbaaGreatDoor.Sc

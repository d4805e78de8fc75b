/- OPENING A TREE: what the form says of an argument of type api.Tree gives a tree over the printed types, its rows of objects and attributes, its numbers and sizes. -/
import Derived.Test.YtmfejjlmflgnbaaGreatDoorZOpen
import Derived.Test.YtmfejjlmflgnbaaGreatDoorZScRd
import Derived.Test.YtmfejjlmflgnbaaGreatDoorZVal
import Derived.DataReads
import Derived.DataElems
namespace Go.Proofs.YtmfejjlmflgnbaaGreatDoor.Sc
open Go.ChangeShapes Go.WideShapes Go.ChangeAt Go.RowKit Go.Proofs.YtmfejjlmflgnbaaGreatDoor.PA Go.Proofs.YtmfejjlmflgnbaaGreatDoorW.PrintWords Go.Proofs.YtmfejjlmflgnbaaGreatDoorW.PrintLast Go.Proofs.YtmfejjlmflgnbaaGreatDoor.Tr Go.Proofs.YtmfejjlmflgnbaaGreatDoor.Tok
set_option linter.unusedVariables false
set_option linter.unusedSimpArgs false
set_option maxRecDepth 100000
mutual
def wtA:SA→Nat
 | ⟨n,sp,v,br,ps,noted,note⟩=>n.size + v.f1.size + note.size + 5 + wtL ps
def wtL:List SA→Nat
 | []=>0
 | a :: r=>wtA a + wtL r
end
mutual
def rgA:SA→Prop
 | ⟨n,sp,v,br,ps,noted,note⟩=>(0≤v.f2∧v.f2<4294967296)∧rgL ps
def rgL:List SA→Prop
 | []=>True
 | a :: r=>rgA a∧rgL r
end
theorem rgL_of:∀ l:List SA,(∀ a ∈ l,rgA a)→rgL l
 | [],_=>by simp only [rgL]
 | a :: r,h=>by
  simp only [rgL]
  exact ⟨h a (by simp),rgL_of r (fun b hb=>h b (by simp [hb]))⟩
theorem wtL_sum:∀ l:List SA,(l.map wtA).sum=wtL l
 | []=>by simp [wtL]
 | a :: r=>by
  have:=wtL_sum r
  simp only [List.map_cons,List.sum_cons,wtL]
  omega
theorem pickR {α:Type} (n:Nat) (p:Nat→α→Prop) (h:∀ i,i<n→∃ x,p i x):∃ l:List α,l.length=n∧∀ (i:Nat) (x:α),l[i]?=some x→i<n∧p i x:=by
 induction n with
 | zero=>exact ⟨[],rfl,fun i x hx=>by simp at hx⟩
 | succ n ih =>
  obtain ⟨l,hl,hp⟩:=ih (fun i hi=>h i (by omega))
  obtain ⟨x,hx⟩:=h n (by omega)
  refine ⟨l++[x],by simp [hl],fun i y hy=>?_⟩
  by_cases e:i<l.length
  ·rw [List.getElem?_append_left e] at hy
   have:=hp i y hy
   exact ⟨by omega,this.2⟩
  ·rw [List.getElem?_append_right (by omega)] at hy
   have hi:i - l.length=0:=by
    by_cases h0:i - l.length=0
    ·exact h0
    ·rw [List.getElem?_eq_none (by simp;omega)] at hy;cases hy
   rw [hi] at hy
   simp at hy
   subst hy
   have:i=n:=by omega
   subst this
   exact ⟨by omega,hx⟩
theorem sum_bulk {H α:Type} (wt:α→Nat):∀ (l:List α) (es:List (DataW H)),es.length=l.length→(∀ (i:Nat) (p:α) (d:DataW H),l[i]?=some p→es[i]?=some d→wt p≤Rows.uptoBulk d)→(l.map wt).sum≤Rows.uptoBulkAll es
 | [],es,_,_=>by simp
 | p :: l,[],h,_=>by simp at h
 | p :: l,d :: es,h,hw=>by
  have h0:=hw 0 p d rfl rfl
  have h1:=sum_bulk wt l es (by simpa using h) (fun i q e hq he=>hw (i + 1) q e (by simpa using hq) (by simpa using he))
  simp only [List.map_cons,List.sum_cons,Rows.uptoBulkAll]
  omega
theorem open_row {H:Type} {enc:TypeId × Value→H} {W:World} {base:Nat} {sp:Nat→Bool} {held:Bool} {α:Type} (k:Kd α) (wt:α→Nat) (R:α→Prop) (e sl:TypeId) (hu:Tryz.prog.underlying sl=some (.slice e)) (hsz:Tryz.prog.cellsOf e=k.sz)
  {fuel:Nat} {cs:List Value} {x:DataW H × List MemPlace} (hf:DataW.trod enc Tryz.prog W base sp held fuel sl cs=some x)
  (hE:∀ n,n<fuel→∀ cs (y:DataW H × List MemPlace),DataW.trod enc Tryz.prog W base sp held n e cs=some y→∃ p,k.K W p cs∧R p∧wt p≤Rows.uptoBulk y.1) :
  ∃ (A:Option Addr) (c:Nat) (l:List α),cs=[.slice A l.length c]∧l.length≤c∧Kd.C k W A l.length l∧(∀ p ∈ l,R p)∧(l.map wt).sum + 1≤Rows.uptoBulk x.1:=by
 rcases DataW.trod_slice hu hf with ⟨hcs,he⟩ | ⟨a,l0,c0,elems,rest,n,rfl,hcs,he,hb,hle,hmax,hlen,hel,_,_⟩
 ·subst he
  exact ⟨none,0,[],hcs,Nat.le_refl _,⟨rfl,by simp,fun h=>absurd h (by simp)⟩,fun p hp=>(by cases hp),by simp [Rows.uptoBulk]⟩
 ·obtain ⟨l,hl,hp⟩:=pickR l0 (fun i (p:α)=>∃ c,c.length=k.sz∧k.K W p c∧(∀ (j:Nat) (u:Value),c[j]?=some u→W.cell? (a.add (i*k.sz + j))=some u)∧R p∧∃ d,(elems.map (·.1))[i]?=some d∧wt p≤Rows.uptoBulk d) (fun i hi=>by
   have h1:=hel i hi
   rw [List.getElem?_eq_getElem (by omega)] at h1
   obtain ⟨c,hc,ht⟩:=Option.bind_eq_some_iff.1 h1
   obtain ⟨_,hcl,hcc⟩:=World.cells?_some hc
   obtain ⟨p,hK,hR,hw⟩:=hE n (by omega) c _ ht
   refine ⟨p,c,by rw [hcl,hsz],hK,fun j u hu=>?_,hR,_,by rw [List.getElem?_map,List.getElem?_eq_getElem (by omega)];rfl,hw⟩
   have hj:j<c.length:=(List.getElem?_eq_some_iff.1 hu).1
   have:=hcc j (by omega)
   rw [Addr.add_add,hsz] at this
   rw [this,hu])
  subst hl
  have hD:x.1=.slice (elems.map (·.1)) (rest.map (·.1)):=congrArg Prod.fst he
  refine ⟨some a,c0,l,hcs,hle,⟨rfl,by unfold maxLen at hmax;omega,fun _=>⟨a,rfl,fun j p hj=>?_⟩⟩,fun p hpm=>?_,?_⟩
  ·obtain ⟨_,c,h1,h2,h3,_⟩:=hp j p hj
   exact ⟨c,h1,h2,h3⟩
  ·obtain ⟨i,hi,rfl⟩:=List.getElem_of_mem hpm
   obtain ⟨_,c,_,_,_,h4,_⟩:=hp i _ (List.getElem?_eq_getElem hi)
   exact h4
  ·rw [hD]
   have:=sum_bulk wt l (elems.map (·.1)) (by simp [hlen]) (fun i p d hq hd=>by
    obtain ⟨_,c,_,_,_,_,d',hd',hw⟩:=hp i p hq
    rw [hd] at hd'
    cases hd'
    exact hw)
   simp only [Rows.uptoBulk]
   omega
theorem cells_attr:Tryz.prog.cellsOf 50=12:=by kernel_rfl
theorem cells_val:Tryz.prog.cellsOf 48=4:=by kernel_rfl
theorem cells_vkind:Tryz.prog.cellsOf 45=1:=by kernel_rfl
theorem cells_attrs:Tryz.prog.cellsOf 42=1:=by kernel_rfl
theorem cells_obj:Tryz.prog.cellsOf 44=8:=by kernel_rfl
theorem cells_objs:Tryz.prog.cellsOf 22=1:=by kernel_rfl
theorem cells_tree:Tryz.prog.cellsOf 24=5:=by kernel_rfl
theorem str_len (t:ByteArray):t.data.toList.length=t.size:=by rw [Array.length_toList];rfl
theorem open_val {H:Type} {enc:TypeId × Value→H} {W:World} {base:Nat} {sp:Nat→Bool} {held:Bool} {fuel:Nat} {cs:List Value} {x:DataW H × List MemPlace}
  (hf:DataW.trod enc Tryz.prog W base sp held fuel 48 cs=some x) :
  ∃ v:SV,cs=[.int .i64 v.f0,.string v.f1,.int .u32 v.f2,.bool v.f3]∧(0≤v.f2∧v.f2<4294967296)∧v.f1.size≤Rows.uptoBulk x.1:=by
 obtain ⟨xs,n,rfl,rfl,hl,hn,hg⟩:=DataW.trod_struct Tryz.underlying48 hf
 rw [cells_val] at hl
 have hn4:xs.length=4:=hn
 match cs,hl with
 | [c0,c1,c2,c3],_ =>
  match xs,hn4 with
  | [x0,x1,x2,x3],_ =>
   have g0:=hg 0 _ rfl
   have g1:=hg 1 _ rfl
   have g2:=hg 2 _ rfl
   have g3:=hg 3 _ rfl
   simp only [cells_vkind,cells_str,cells_num,cells_bool,List.drop_zero,List.drop_succ_cons,List.take_succ_cons,List.take_zero,List.getElem?_cons_zero,List.getElem?_cons_succ] at g0 g1 g2 g3
   obtain ⟨k,e0,rfl,_⟩:=DataW.trod_int Tryz.underlying45 g0
   obtain ⟨t,e1,rfl,_⟩:=DataW.trod_string Tryz.underlying9 g1
   obtain ⟨v,e2,rfl,wv⟩:=DataW.trod_int Tryz.underlying46 g2
   obtain ⟨h,e3,rfl⟩:=DataW.trod_bool Tryz.underlying4 g3
   have hb:=Go.bounds_u32 wv
   cases e0;cases e1;cases e2;cases e3
   have e:=str_len t
   exact ⟨⟨k,t,v,h⟩,rfl,⟨by simpa using hb.1,by simp at hb ⊢;omega⟩,by simp only [List.map_cons,List.map_nil,Rows.uptoBulk,Rows.uptoBulkAll];omega⟩
theorem open_attr {H:Type} {enc:TypeId × Value→H} {W:World} {base:Nat} {sp:Nat→Bool} {held:Bool}:∀ (fuel:Nat) (cs:List Value) (x:DataW H × List MemPlace),
  DataW.trod enc Tryz.prog W base sp held fuel 50 cs=some x→∃ a:SA,k50.K W a cs∧rgA a∧wtA a≤Rows.uptoBulk x.1:=by
 intro fuel
 induction fuel using Nat.strongRecOn with
 | ind fuel ih =>
  intro cs x hf
  obtain ⟨xs,n,rfl,rfl,hl,hn,hg⟩:=DataW.trod_struct Tryz.underlying50 hf
  rw [cells_attr] at hl
  have hn7:xs.length=7:=hn
  match cs,hl with
  | [c0,c1,c2,c3,c4,c5,c6,c7,c8,c9,c10,c11],_ =>
   match xs,hn7 with
   | [x0,x1,x2,x3,x4,x5,x6],_ =>
    have g0:=hg 0 _ rfl
    have g1:=hg 1 _ rfl
    have g2:=hg 2 _ rfl
    have g3:=hg 3 _ rfl
    have g4:=hg 4 _ rfl
    have g5:=hg 5 _ rfl
    have g6:=hg 6 _ rfl
    clear hg
    simp only [cells_str,cells_at,cells_val,cells_bool,cells_attrs,List.drop_zero,List.drop_succ_cons,List.take_succ_cons,List.take_zero,List.getElem?_cons_zero,List.getElem?_cons_succ] at g0 g1 g2 g3 g4 g5 g6
    obtain ⟨nm,e0,rfl,_⟩:=DataW.trod_string Tryz.underlying9 g0
    obtain ⟨so,sl,sc,e1,rfl⟩:=open_at g1
    obtain ⟨v,e2,hv,hvw⟩:=open_val g2
    obtain ⟨br,e3,rfl⟩:=DataW.trod_bool Tryz.underlying4 g3
    obtain ⟨A,c,l,e4,hlc,hC,hR,hw⟩:=open_row k50 wtA rgA 50 42 Tryz.underlying42 (by rw [cells_attr];rfl) g4 (fun m hm cs y hy=>ih m (by omega) cs y hy)
    obtain ⟨nt,e5,rfl⟩:=DataW.trod_bool Tryz.underlying4 g5
    obtain ⟨no,e6,rfl,_⟩:=DataW.trod_string Tryz.underlying9 g6
    cases e0;cases e1;cases e2;cases e3;cases e4;cases e5;cases e6
    refine ⟨⟨nm,⟨so,sl,sc⟩,v,br,l,nt,no⟩,k50_mk W ⟨nm,⟨so,sl,sc⟩,v,br,l,nt,no⟩ hlc hC,?_,?_⟩
    ·simp only [rgA]
     exact ⟨hv,rgL_of l hR⟩
    ·have e:=str_len nm
     have e':=str_len no
     rw [wtL_sum] at hw
     simp only [wtA,List.map_cons,List.map_nil,Rows.uptoBulk,Rows.uptoBulkAll]
     omega
def wtO (o:SO):Nat:=o.f0.size + o.f1.size + o.f5.size + 5 + wtL o.f3
def rgO (o:SO):Prop:=rgL o.f3
theorem open_obj {H:Type} {enc:TypeId × Value→H} {W:World} {base:Nat} {sp:Nat→Bool} {held:Bool} {fuel:Nat} {cs:List Value} {x:DataW H × List MemPlace}
  (hf:DataW.trod enc Tryz.prog W base sp held fuel 44 cs=some x):∃ o:SO,k44.K W o cs∧rgO o∧wtO o≤Rows.uptoBulk x.1:=by
 obtain ⟨xs,n,rfl,rfl,hl,hn,hg⟩:=DataW.trod_struct Tryz.underlying44 hf
 rw [cells_obj] at hl
 have hn6:xs.length=6:=hn
 match cs,hl with
 | [c0,c1,c2,c3,c4,c5,c6,c7],_ =>
  match xs,hn6 with
  | [x0,x1,x2,x3,x4,x5],_ =>
   have g0:=hg 0 _ rfl
   have g1:=hg 1 _ rfl
   have g2:=hg 2 _ rfl
   have g3:=hg 3 _ rfl
   have g4:=hg 4 _ rfl
   have g5:=hg 5 _ rfl
   clear hg
   simp only [cells_str,cells_at,cells_bool,cells_attrs,List.drop_zero,List.drop_succ_cons,List.take_succ_cons,List.take_zero,List.getElem?_cons_zero,List.getElem?_cons_succ] at g0 g1 g2 g3 g4 g5
   obtain ⟨kd,e0,rfl,_⟩:=DataW.trod_string Tryz.underlying9 g0
   obtain ⟨nm,e1,rfl,_⟩:=DataW.trod_string Tryz.underlying9 g1
   obtain ⟨so,sl,sc,e2,rfl⟩:=open_at g2
   obtain ⟨A,c,l,e3,hlc,hC,hR,hw⟩:=open_row k50 wtA rgA 50 42 Tryz.underlying42 (by rw [cells_attr];rfl) g3 (fun m hm cs y hy=>open_attr m cs y hy)
   obtain ⟨nt,e4,rfl⟩:=DataW.trod_bool Tryz.underlying4 g4
   obtain ⟨no,e5,rfl,_⟩:=DataW.trod_string Tryz.underlying9 g5
   cases e0;cases e1;cases e2;cases e3;cases e4;cases e5
   refine ⟨⟨kd,nm,⟨so,sl,sc⟩,l,nt,no⟩,k44_mk W ⟨kd,nm,⟨so,sl,sc⟩,l,nt,no⟩ hlc hC,rgL_of l hR,?_⟩
   have e:=str_len kd
   have e':=str_len nm
   have e'':=str_len no
   rw [wtL_sum] at hw
   simp only [wtO,List.map_cons,List.map_nil,Rows.uptoBulk,Rows.uptoBulkAll]
   omega
def wtOs (l:List SO):Nat:=(l.map wtO).sum
def wtT (t:ST):Nat:=t.f0.size + t.f1.size + t.f4.size + wtOs t.f2
theorem wtOs_len:∀ l:List SO,l.length≤wtOs l
 | []=>by simp
 | o :: l=>by
  have:=wtOs_len l
  simp only [wtOs,List.map_cons,List.sum_cons,List.length_cons,wtO] at this ⊢
  omega
theorem wtOs_mem:∀ (l:List SO) (o:SO),o ∈ l→wtO o≤wtOs l
 | p :: l,o,h=>by
  simp only [wtOs,List.map_cons,List.sum_cons]
  rcases List.mem_cons.1 h with rfl | h
  ·omega
  ·have:=wtOs_mem l o h
   unfold wtOs at this
   omega
theorem list5 {α:Type} (l:List α) (h:l.length=5):∃ a b c d e,l=[a,b,c,d,e]:=by
 match l,h with
 | [a,b,c,d,e],_=>exact ⟨a,b,c,d,e,rfl⟩
theorem open_treeV {H:Type} {enc:TypeId × Value→H} {W:World} {v:Value} {d:DataW H} {p:List MemPlace} {sp:Nat→Bool} {held:Bool} {base base':Nat}
  (hv:Value.okWide Tryz.prog W .any base' 24 v) (h:DataW.Trod enc Tryz.prog W base sp held 24 v d p) :
  ∃ (t:ST) (A:Option Addr) (c:Nat),v=.agg (treC t A c)∧Kd.C k44 W A t.f2.length t.f2∧t.f2.length≤c∧(∀ o ∈ t.f2,rgO o)∧wtT t≤Rows.uptoBulk d:=by
 obtain ⟨cs,rfl,hsz⟩:=okWide_struct Tryz.underlying24 hv
 obtain ⟨fuel,hf⟩:=h
 obtain ⟨xs,n,rfl,he,hl,hn,hg⟩:=DataW.trod_struct Tryz.underlying24 hf
 have hD:d=.agg (xs.map (·.1)):=congrArg Prod.fst he
 rw [cells_tree] at hl
 have hn5:xs.length=5:=hn
 have hcs:(Value.agg cs).cells.toList=cs.toList:=rfl
 rw [hcs] at hl hg
 obtain ⟨cl,rfl⟩:∃ l:List Value,cs=l.toArray:=⟨cs.toList,by simp⟩
 have ecl:cl.toArray.toList=cl:=by simp
 rw [ecl] at hl hg
 obtain ⟨c0,c1,c2,c3,c4,rfl⟩:=list5 cl hl
 obtain ⟨x0,x1,x2,x3,x4,rfl⟩:=list5 xs hn5
 have g0:=hg 0 _ rfl
 have g1:=hg 1 _ rfl
 have g2:=hg 2 _ rfl
 have g3:=hg 3 _ rfl
 have g4:=hg 4 _ rfl
 clear hg
 simp only [List.getElem_toArray,List.getElem_cons_zero,List.getElem_cons_succ,cells_str,cells_bool,cells_objs,List.drop_zero,List.drop_succ_cons,List.take_succ_cons,List.take_zero,List.getElem?_cons_zero,List.getElem?_cons_succ] at g0 g1 g2 g3 g4
 obtain ⟨ve,e0,rfl,_⟩:=DataW.trod_string Tryz.underlying9 g0
 obtain ⟨cp,e1,rfl,_⟩:=DataW.trod_string Tryz.underlying9 g1
 obtain ⟨A,c,l,e2,hlc,hC,hR,hw⟩:=open_row k44 wtO rgO 44 22 Tryz.underlying22 (by rw [cells_obj];rfl) g2 (fun m hm cs y hy=>open_obj hy)
 obtain ⟨nt,e3,rfl⟩:=DataW.trod_bool Tryz.underlying4 g3
 obtain ⟨no,e4,rfl,_⟩:=DataW.trod_string Tryz.underlying9 g4
 cases e0;cases e1;cases e2;cases e3;cases e4
 refine ⟨⟨ve,cp,l,nt,no⟩,A,c,rfl,hC,hlc,hR,?_⟩
 have e:=str_len ve
 have e':=str_len cp
 have e'':=str_len no
 subst hD
 simp only [wtT,wtOs,List.map_cons,List.map_nil,Rows.uptoBulk,Rows.uptoBulkAll]
 omega
mutual
theorem sz_wt:∀ a:SA,szA a≤wtA a
 | ⟨n,sp,v,br,ps,noted,note⟩=>by
  have:=sz_wtL ps
  simp only [szA,wtA]
  omega
theorem sz_wtL:∀ l:List SA,szL l≤wtL l
 | []=>by simp [szL]
 | a :: r=>by
  have:=sz_wt a
  have:=sz_wtL r
  simp only [szL,wtL]
  omega
end
theorem tree_szL (t:ST) (hw:wtT t≤1048576):∀ o ∈ t.f2,szL o.f3≤1048576:=fun o ho=>by
 unfold wtT at hw
 have h1:=wtOs_mem t.f2 o ho
 have h2:=sz_wtL o.f3
 unfold wtO at h1
 omega
theorem tree_len (t:ST) (hw:wtT t≤1048576):t.f2.length≤1048576:=by
 unfold wtT at hw
 have h1:=wtOs_len t.f2
 omega
end Go.Proofs.YtmfejjlmflgnbaaGreatDoor.Sc

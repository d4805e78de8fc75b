/- MEMORY: what holds while a sheet that was read is written over (its entries' names and words, its rows grown, its items' names): each slice of entries that was read is a row of entries still, and what lies under each entry was read, or is nothing; nothing else is touched. -/
import Derived.Test.YtmfejjlmflgnbaaGreatDoorZAttrs
namespace Go.Proofs.YtmfejjlmflgnbaaGreatDoor.Sc
open Go.RowKit Go.Proofs.YtmfejjlmflgnbaaGreatDoor.PA Go.Proofs.YtmfejjlmflgnbaaGreatDoorW.PrintWords Go.Proofs.YtmfejjlmflgnbaaGreatDoorW.PrintLast Go.Proofs.YtmfejjlmflgnbaaGreatDoorW.PrintMore Go.Proofs.YtmfejjlmflgnbaaGreatDoor.Sp Go.Proofs.YtmfejjlmflgnbaaGreatDoor.Tr Go.Proofs.YtmfejjlmflgnbaaGreatDoor.Tok
set_option linter.unusedVariables false
set_option linter.unusedSimpArgs false
set_option maxRecDepth 100000
abbrev GdE (wX:World) (B0 B1:Nat) (v:Value) (xs:List SE):Prop:=Kd.R kEnt 80 wX B0 (fun k=>k<B1) v xs
def GV (wX:World) (B0 B1:Nat) (v:Value):Prop:=∃ xs,GdE wX B0 B1 v xs
theorem gv_nil (wX:World) (B0 B1:Nat):GV wX B0 B1 (.slice none 0 0):=⟨[],Kd.R_nil _ _ _ _ _⟩
def RP (wX:World) (B0 B1:Nat) (w:World) (v:Value) (n:Nat):Prop :=
 (v=.slice none 0 0∧n=0)∨∃ g cap cur,v=.slice (some ⟨g,0,none⟩) n cap∧B0≤g∧(g<B1∨wX.heap.size≤g)∧w.heap[g]?=some (.cells cur 80 (0,0))∧n≤cap∧cap≤maxLen∧cur.size=cap*8∧∀ j,j<n→∃ x,cur[j*8 + 7]?=some x∧GV wX B0 B1 x
section
variable {wX w w1:World} {B0 B1 gI n g off:Nat} {v u:Value} {cur cur2:Array Value} {its:List SI}
theorem RP.slice_ (h:RP wX B0 B1 w v n):∃ A c,v=.slice A n c:=by
 rcases h with ⟨rfl,rfl⟩ | ⟨g,cap,cur,rfl,_⟩
 ·exact ⟨_,_,rfl⟩
 ·exact ⟨_,_,rfl⟩
theorem RP.far (h:RP wX B0 B1 w v n) (hk:∀ (k:Nat) (c:Array Value),w.heap[k]?=some (Obj.cells c 80 (0,0))→w1.heap[k]?=w.heap[k]?):RP wX B0 B1 w1 v n:=by
 rcases h with h | ⟨g,cap,cur,hv,h1,h2,h3,h4⟩
 ·exact .inl h
 ·exact .inr ⟨g,cap,cur,hv,h1,h2,(hk g cur h3).trans h3,h4⟩
theorem RP.over (h:RP wX B0 B1 w v n) (hb:w.heap[g]?=some (.cells cur 80 (0,0))) (hr:w1.heap[g]?=some (.cells cur2 80 (0,0))) (hz:cur2.size=cur.size) (h7:∀ p,p % 8=7→cur2[p]?=cur[p]?∨∃ x,cur2[p]?=some x∧GV wX B0 B1 x) (hk:∀ k,k≠g→w1.heap[k]?=w.heap[k]?):RP wX B0 B1 w1 v n:=by
 rcases h with h | ⟨g',cap,c',hv,h1,h2,h3,h4,h5,h6,h8⟩
 ·exact .inl h
 ·by_cases hg:g'=g
  ·subst hg
   rw [hb] at h3
   injection h3 with h3
   injection h3 with h3
   subst h3
   refine .inr ⟨g',cap,cur2,hv,h1,h2,hr,h4,h5,hz.trans h6,fun j hj=>?_⟩
   obtain ⟨x,hx,hG⟩:=h8 j hj
   rcases h7 (j*8 + 7) (by omega) with h9 | h9
   ·exact ⟨x,h9.trans hx,hG⟩
   ·exact h9
  ·exact .inr ⟨g',cap,c',hv,h1,h2,(hk g' hg).trans h3,h4,h5,h6,h8⟩
structure OI (wX:World) (B0 B1 gI:Nat) (its:List SI) (w:World):Prop where
 bds:B0≤B1∧B1≤wX.heap.size
 low:Below B0 wX w
 up:∀ k,B1≤k→k<wX.heap.size→w.heap[k]?=wX.heap[k]?
 rows:∀ v xs,GdE wX B0 B1 v xs→RP wX B0 B1 w v xs.length
 itm:0<its.length→∃ cur,w.heap[gI]?=some (.cells cur 78 (0,0))∧its.length*6≤cur.size∧∀ i x,its[i]?=some x→∃ A c,cur[i*6 + 5]?=some (.slice A x.ents.length c)∧GdE wX B0 B1 (.slice A x.ents.length c) x.ents
theorem OI.size (h:OI wX B0 B1 gI its w):B0≤w.heap.size∧wX.heap.size≤w.heap.size:=by
 have:=h.bds
 have:=h.low.size
 omega
theorem ent_item {k:Nat} {c d:Array Value} (h1:w.heap[k]?=some (.cells c 80 (0,0))) (h2:w.heap[k]?=some (.cells d 78 (0,0))):False:=by
 rw [h1] at h2
 injection h2 with h2
 injection h2 with _ h2
 exact absurd h2 (by decide)
theorem OI.below (h:OI wX B0 B1 gI its w) (hB:Below w.heap.size w w1):OI wX B0 B1 gI its w1:=by
 refine ⟨h.bds,h.low.trans (hB.mono h.size.1),fun k h1 h2=>(hB.block k (Nat.lt_of_lt_of_le h2 h.size.2)).trans (h.up k h1 h2),fun v xs hv=>(h.rows v xs hv).far (fun k c hc=>hB.block k (Array.getElem?_eq_some_iff.1 hc).1),fun hp=>?_⟩
 obtain ⟨cur,h1,h2⟩:=h.itm hp
 exact ⟨cur,(hB.block gI (Array.getElem?_eq_some_iff.1 h1).1).trans h1,h2⟩
theorem OI.over (h:OI wX B0 B1 gI its w) (hb:w.heap[g]?=some (.cells cur 80 (0,0))) (hg:g<B1∨wX.heap.size≤g) (hr:w1.heap[g]?=some (.cells cur2 80 (0,0))) (hz:cur2.size=cur.size) (h7:∀ p,p % 8=7→cur2[p]?=cur[p]?∨∃ x,cur2[p]?=some x∧GV wX B0 B1 x) (hk:∀ k,k≠g→w1.heap[k]?=w.heap[k]?) (hB:Below B0 w w1):OI wX B0 B1 gI its w1:=by
 refine ⟨h.bds,h.low.trans hB,fun k h1 h2=>(hk k (fun e=>by omega)).trans (h.up k h1 h2),fun v xs hv=>(h.rows v xs hv).over hb hr hz h7 hk,fun hp=>?_⟩
 obtain ⟨c,h1,h2⟩:=h.itm hp
 exact ⟨c,(hk gI (fun e=>by subst e;exact ent_item hb h1)).trans h1,h2⟩
theorem set_seven {off:Nat} (ho:off % 8≠7) (cur:Array Value) (u:Value):∀ p,p % 8=7→(cur.setIfInBounds off u)[p]?=cur[p]?∨∃ x,(cur.setIfInBounds off u)[p]?=some x∧GV wX B0 B1 x:=fun p hp=>.inl (by rw [Array.getElem?_setIfInBounds,if_neg (fun e=>by subst e;exact ho hp)])
theorem OI.store (h:OI wX B0 B1 gI its w) (hb:w.heap[g]?=some (.cells cur 80 (0,0))) (hg:g<B1∨wX.heap.size≤g) (ho:off % 8≠7) (hr:w1.heap[g]?=some (.cells (cur.setIfInBounds off u) 80 (0,0))) (hk:∀ k,k≠g→w1.heap[k]?=w.heap[k]?) (hB:Below B0 w w1):OI wX B0 B1 gI its w1 :=
 h.over hb hg hr (by simp) (set_seven ho cur u) hk hB
theorem OI.name (h:OI wX B0 B1 gI its w) (hb:w.heap[gI]?=some (.cells cur 78 (0,0))) (hg:gI<B1) (ho:off % 6≠5) (hr:w1.heap[gI]?=some (.cells (cur.setIfInBounds off u) 78 (0,0))) (hk:∀ k,k≠gI→w1.heap[k]?=w.heap[k]?) (hB:Below B0 w w1):OI wX B0 B1 gI its w1:=by
 refine ⟨h.bds,h.low.trans hB,fun k h1 h2=>(hk k (fun e=>by omega)).trans (h.up k h1 h2),fun v xs hv=>(h.rows v xs hv).far (fun k c hc=>hk k (fun e=>by subst e;exact ent_item hc hb)),fun hp=>?_⟩
 obtain ⟨c,h1,h2,h3⟩:=h.itm hp
 rw [hb] at h1
 injection h1 with h1
 injection h1 with h1
 subst h1
 refine ⟨_,hr,by simpa using h2,fun i x hx=>?_⟩
 obtain ⟨A,c,h4,h5⟩:=h3 i x hx
 exact ⟨A,c,by rw [Array.getElem?_setIfInBounds,if_neg (fun e=>by subst e;exact ho (by omega))];exact h4,h5⟩
theorem gd_rp {xs:List SE} (hle:B1≤wX.heap.size) (h:GdE wX B0 B1 v xs):RP wX B0 B1 wX v xs.length:=by
 have h':=h
 obtain ⟨hok,inner,ho,hr⟩:=h
 rcases ho.2 with ⟨hv,hn⟩ | ⟨g,cap,cur,hv,h1,h2,h3,h4,h5,h6⟩
 ·exact .inl ⟨hv,hn⟩
 ·refine .inr ⟨g,cap,cur,hv,h1,.inl (hok g (by rw [hv];rfl)),h2,h3,h4,h5,fun j hj=>?_⟩
  subst hv
  obtain ⟨c,hcl,hM,hcc,_⟩:=Kd.R_elem h' zEnt (j:Int) (by omega) (by omega)
  obtain ⟨v7,hc,hR⟩:=kEnt_openM hM
  subst hc
  have h7:=hcc 7 v7 rfl
  rw [Int.toNat_natCast] at h7
  have h8:wX.cell? ⟨g,j*8 + 7,none⟩=some v7:=h7
  rw [cell_row h2] at h8
  exact ⟨v7,h8,_,Kd.R_mono hR (fun k hk=>hk.1)⟩
theorem oi_start {A:Option Addr} {c:Nat} (hB:B0≤B1) (hle:B1≤wX.heap.size) (h:Kd.R kItem 78 wX B0 (fun k=>k<B1) (.slice A its.length c) its) (hA:0<its.length→A=some ⟨gI,0,none⟩):OI wX B0 B1 gI its wX:=by
 refine ⟨⟨hB,hle⟩,Below.refl _ _,fun _ _ _=>rfl,fun v xs hv=>gd_rp hle hv,fun hp=>?_⟩
 have hA:=hA hp
 subst hA
 have h':=h
 obtain ⟨hok,inner,ho,hr⟩:=h
 rcases ho.2 with ⟨hv,hn⟩ | ⟨g,cap,cur,hv,h1,h2,h3,h4,h5,h6⟩
 ·cases hv
 ·injection hv with ha hx hc
  injection ha with ha
  injection ha with ha
  subst ha hc
  refine ⟨cur,h2,by rw [h5];exact Nat.mul_le_mul_right _ h3,fun i x hx=>?_⟩
  have hi:i<its.length:=(List.getElem?_eq_some_iff.1 hx).1
  obtain ⟨q,hcl,hM,hcc,_⟩:=Kd.R_elem h' zItem (i:Int) (by omega) (by omega)
  rw [Int.toNat_natCast] at hM hcc
  have hge:its.getD i zItem=x:=by rw [List.getD_eq_getElem?_getD,hx];rfl
  rw [hge] at hM
  obtain ⟨v5,hq,hR⟩:=kItem_openM hM
  subst hq
  obtain ⟨A5,c5,rfl⟩:=RForm hR
  have h7:wX.cell? ⟨gI,i*6 + 5,none⟩=some (.slice A5 x.ents.length c5):=hcc 5 _ rfl
  rw [cell_row h2] at h7
  exact ⟨A5,c5,h7,Kd.R_mono hR (fun k hk=>hk.1)⟩
end
def moreL (nm:ByteArray):List Value:=[.string nm,.int .i64 0,.int .i64 0,.int .i64 0,.int .u32 0,.bool false,.string ⟨#[]⟩,.slice none 0 0]
theorem zero_size (z:Array Value) (n:Nat):(Builtin.zeroCells z n).size=n*z.size:=by simp [Builtin.zeroCells]
theorem grown_ent {wX w:World} {B0 B1 gI n:Nat} {its:List SI} (hI:OI wX B0 B1 gI its w) {olds news zs:List Value} {cap:Nat} (hlo:olds.length=n*8) (hln:news.length=8) (hlz:zs.length=(cap - (n + 1))*8) (hc:n + 1≤cap) (hcm:cap≤maxLen) (h7:∀ j,j<n→∃ x,olds[j*8 + 7]?=some x∧GV wX B0 B1 x) (h8:news[7]?=some (.slice none 0 0)) {A:Array Value} (hA:A.toList=olds++news++zs) :
  RP wX B0 B1 (w.drew.alloc (.cells A 80)) (.slice (some ⟨w.heap.size,0,none⟩) (n + 1) cap) (n + 1)∧OI wX B0 B1 gI its (w.drew.alloc (.cells A 80)):=by
 have hz:=hI.size
 refine ⟨.inr ⟨w.heap.size,cap,A,rfl,hz.1,.inr hz.2,heap_alloc_new w.drew _,hc,hcm,?_,fun j hj=>?_⟩,hI.below ((Below.refl _ w).drew.trans (alloc_below w.drew _))⟩
 ·rw [← Array.length_toList,hA,List.length_append,List.length_append,hlo,hln,hlz]
  have:cap=n + 1 + (cap - (n + 1)):=by omega
  omega
 ·rw [← Array.getElem?_toList,hA]
  by_cases hjn:j<n
  ·obtain ⟨x,hx,hG⟩:=h7 j hjn
   have hl:=(List.getElem?_eq_some_iff.1 hx).1
   rw [List.append_assoc,List.getElem?_append_left (by omega)]
   exact ⟨x,hx,hG⟩
  ·have hje:j=n:=by omega
   subst hje
   rw [List.append_assoc,List.getElem?_append_right (by omega),hlo,List.getElem?_append_left (by omega),show j*8 + 7 - j*8=7 by omega]
   exact ⟨_,h8,gv_nil _ _ _⟩
theorem run_more {wX W:World} {B0 B1 gI n:Nat} {its:List SI} {v:Value} (nm:ByteArray) (ty:TypeId) (HR:RP wX B0 B1 W v n) (HI:OI wX B0 B1 gI its W) (hl:(n + 1)*88≤140737488355328) :
  ∃ v' w',(Builtin.append_ #[76,76] ty #[v,.slice (some ⟨W.heap.size,0,none⟩) 1 1]).run Tryz.prog (W.alloc (.cells (moreL nm).toArray 80))=.ok v' w'∧RP wX B0 B1 w' v' (n + 1)∧OI wX B0 B1 gI its w':=by
 have hB:=alloc_below W (.cells (moreL nm).toArray 80)
 have hnews:∀ j u,(moreL nm)[j]?=some u→(W.alloc (.cells (moreL nm).toArray 80)).cell? ((⟨W.heap.size,0,none⟩:Addr).add j)=some u:=by
  simpa using World.news_of_block (cs:=(moreL nm).toArray) (t:=80) (fr:=(0,0)) (heap_alloc_new W (.cells (moreL nm).toArray 80))
 have HI0:=HI.below hB
 have HR0:RP wX B0 B1 (W.alloc (.cells (moreL nm).toArray 80)) v n:=HR.far (fun k c hc=>hB.block k (Array.getElem?_eq_some_iff.1 hc).1)
 generalize W.alloc (.cells (moreL nm).toArray 80)=w0 at *
 obtain ⟨i0,hi,hzz⟩:=Option.map_eq_some_iff.1 infoEnt
 simp only [Prod.mk.injEq] at hzz
 obtain ⟨hz0,hz1,hz2⟩:=hzz
 have hm8:(moreL nm).length=8:=rfl
 have h1:∀ u ∈ moreL nm,u.oneCell'=true:=by
  intro u hu
  simp only [moreL,List.mem_cons,List.not_mem_nil,or_false] at hu
  rcases hu with rfl | rfl | rfl | rfl | rfl | rfl | rfl | rfl <;> rfl
 have hmx:n + 1≤maxLen:=by unfold maxLen;omega
 rcases HR0 with ⟨rfl,rfl⟩ | ⟨g,cap,cur,rfl,hb0,hb1,hg,hnc,hcm,hcs,h7⟩
 ·have hr:=run_append_nil (P:=Tryz.prog) w0 76 ty 80 i0 _ Tryz.underlying76 hi hz0 ⟨W.heap.size,0,none⟩ 1 1 (moreL nm) (by rw [hz1,hm8]) hnews (by omega) (by omega) (by rw [hz2];omega)
  have hgc:=grownCap_ge w0 1 0 80
  have hgm:=grownCap_le_maxLen w0 1 0 80 (by unfold maxLen;omega)
  obtain ⟨h2,h3⟩:=grown_ent HI0 (olds:=[]) (news:=moreL nm) (zs:=(Builtin.zeroCells (Value.cells (.agg ent0)) (grownCap w0 1 0 80 - 1)).toList) (n:=0) (cap:=grownCap w0 1 0 80) rfl hm8 (by rw [Array.length_toList,zero_size];rfl) (by omega) hgm (fun j hj=>by omega) rfl (A:=(moreL nm).toArray++Builtin.zeroCells (Value.cells (.agg ent0)) (grownCap w0 1 0 80 - 1)) (by simp)
  exact ⟨_,_,hr,h2,h3⟩
 ·by_cases hroom:n + 1≤cap
  ·have hfit:n*i0.size + (moreL nm).length≤cur.size:=by rw [hz1,hm8,hcs];omega
   have hr:=run_append_room (P:=Tryz.prog) w0 76 ty 80 i0 Tryz.underlying76 hi g n cap cur hg ⟨W.heap.size,0,none⟩ 1 1 (moreL nm) (by rw [hz1,hm8]) hnews h1 hroom hfit
   rw [hz1,hm8] at hr
   have hlc:n*8 + 8≤cur.toList.length:=by rw [Array.length_toList,hcs];omega
   obtain ⟨cur2,hcur2⟩:∃ cur2:Array Value,cur2=(cur.toList.take (n*8)++moreL nm++cur.toList.drop (n*8 + 8)).toArray:=⟨_,rfl⟩
   rw [← hcur2] at hr
   have hget:∀ p,cur2[p]?=if p<n*8 then cur[p]? else if p<n*8 + 8 then (moreL nm)[p - n*8]? else cur[p]?:=fun p=>by
    have h:=seg_get cur.toList (moreL nm) (n*8) (by rw [hm8];exact hlc) p
    rw [hm8] at h
    rw [hcur2,List.getElem?_toArray,h,Array.getElem?_toList]
   have hz:cur2.size=cur.size:=by
    rw [hcur2]
    simp only [List.size_toArray,List.length_append,List.length_take,List.length_drop,hm8]
    rw [Array.length_toList] at hlc ⊢
    omega
   have hrow:(w0.setRow g cur2).heap[g]?=some (.cells cur2 80 (0,0)):=setRow_heap w0 g cur cur2 80 (0,0) hg
   have hoth:∀ k,k≠g→(w0.setRow g cur2).heap[k]?=w0.heap[k]?:=fun k hk=>setRow_other w0 g k cur2 hk
   have h7':∀ p,p % 8=7→cur2[p]?=cur[p]?∨∃ x,cur2[p]?=some x∧GV wX B0 B1 x:=fun p hp=>by
    rw [hget p]
    by_cases h2:p<n*8
    ·rw [if_pos h2];exact .inl rfl
    ·rw [if_neg h2]
     by_cases h3:p<n*8 + 8
     ·rw [if_pos h3]
      have h4:p - n*8=7:=by omega
      rw [h4]
      exact .inr ⟨_,rfl,gv_nil _ _ _⟩
     ·rw [if_neg h3];exact .inl rfl
   refine ⟨_,_,hr,.inr ⟨g,cap,cur2,rfl,hb0,hb1,hrow,hroom,hcm,hz.trans hcs,fun j hj=>?_⟩,HI0.over hg hb1 hrow hz h7' hoth (setRow_below w0 g _ _ hb0)⟩
   by_cases hjn:j<n
   ·obtain ⟨x,hx,hG⟩:=h7 j hjn
    exact ⟨x,by rw [hget,if_pos (by omega)];exact hx,hG⟩
   ·have hje:j=n:=by omega
    subst hje
    refine ⟨.slice none 0 0,?_,gv_nil _ _ _⟩
    rw [hget,if_neg (by omega),if_pos (by omega),show j*8 + 7 - j*8=7 by omega]
    rfl
  ·have hol:(cur.toList.take (n*8)).length=n*8:=by rw [List.length_take,Array.length_toList,hcs];omega
   have holds:∀ j u,(cur.toList.take (n*8))[j]?=some u→w0.cell? ((⟨g,0,none⟩:Addr).add j)=some u:=fun j u hu=>by
    rw [List.getElem?_take] at hu
    split at hu
    ·rw [add_plain,cell_row hg,← Array.getElem?_toList]
     exact hu
    ·cases hu
   have hr:=run_append_grow (P:=Tryz.prog) w0 76 ty 80 i0 _ Tryz.underlying76 hi hz0 ⟨g,0,none⟩ n cap (cur.toList.take (n*8)) (by rw [hz1,hol]) holds ⟨W.heap.size,0,none⟩ 1 1 (moreL nm) (by rw [hz1,hm8]) hnews (by omega) (by omega) (growslice_fits (by omega) (by rw [hz2];exact hl))
   have hgc:=grownCap_ge w0 (n + 1) cap 80
   have hgm:=grownCap_le_maxLen w0 (n + 1) cap 80 hmx
   obtain ⟨h2,h3⟩:=grown_ent HI0 (olds:=cur.toList.take (n*8)) (news:=moreL nm) (zs:=(Builtin.zeroCells (Value.cells (.agg ent0)) (grownCap w0 (n + 1) cap 80 - (n + 1))).toList) (n:=n) (cap:=grownCap w0 (n + 1) cap 80) hol hm8 (by rw [Array.length_toList,zero_size];rfl) hgc hgm (fun j hj=>by
     obtain ⟨x,hx,hG⟩:=h7 j hj
     refine ⟨x,?_,hG⟩
     rw [List.getElem?_take,if_pos (by omega),Array.getElem?_toList]
     exact hx) rfl (A:=(cur.toList.take (n*8)).toArray++(moreL nm).toArray++Builtin.zeroCells (Value.cells (.agg ent0)) (grownCap w0 (n + 1) cap 80 - (n + 1))) (by simp)
   exact ⟨_,_,hr,h2,h3⟩
theorem rp_append {ops:Array Oper} {rest:List Oper} {o:Oper} {a:Act} {Q:Exit→Act→World→Prop} {wX W:World} {B0 B1 gI n:Nat} {its:List SI} {v:Value} (nm:ByteArray) (hgd:o.guard=none) (s x:Operand)
  (ho:o.op=.call { callee:=.builtin .append,args:=#[s,x],argTypes:=#[76,76] }) (hs:a.eval s=v) (hx:a.eval x=.slice (some ⟨W.heap.size,0,none⟩) 1 1) (HR:RP wX B0 B1 W v n) (HI:OI wX B0 B1 gI its W) (hl:(n + 1)*88≤140737488355328)
  (h:∀ v1 w1,RP wX B0 B1 w1 v1 (n + 1)→OI wX B0 B1 gI its w1→wpList Tryz.prog ops Q rest (a.put o.dst v1) w1):wpList Tryz.prog ops Q (o :: rest) a (W.alloc (.cells #[.string nm,.int .i64 0,.int .i64 0,.int .i64 0,.int .u32 0,.bool false,.string ⟨#[]⟩,.slice none 0 0] 80)):=by
 obtain ⟨v',w',hr,h2,h3⟩:=run_more nm o.type HR HI hl
 have hr':(Builtin.append_ #[76,76] o.type #[v,.slice (some ⟨W.heap.size,0,none⟩) 1 1]).run Tryz.prog (W.alloc (.cells #[.string nm,.int .i64 0,.int .i64 0,.int .i64 0,.int .u32 0,.bool false,.string ⟨#[]⟩,.slice none 0 0] 80))=.ok v' w':=hr
 refine wpList_plain hgd fun _ hK=>?_
 unfold Oper.wp execOp
 simp only [ho,resolve,invoke,builtin,Sem.run_bind,Sem.run_pure,Result.andThen_ok,List.map_toArray,List.map_cons,List.map_nil,hs,hx,hr']
 exact hK _ _ (h v' w' h2 h3)
end Go.Proofs.YtmfejjlmflgnbaaGreatDoor.Sc

/- WHAT HOLDS in (*reader).attrs' loops: what has been got of each name, in rows that are apart. -/
import Derived.Test.YtmfejjlmflgnbaaGreatDoorVSc5
import Derived.Deep.RegionLaw
import Derived.Deep.CutRange
import Derived.Test.YtmfejjlmflgnbaaGreatDoorVVal
set_option linter.unusedVariables false
set_option linter.unusedSimpArgs false
set_option maxRecDepth 100000
namespace Go.Proofs.YtmfejjlmflgnbaaGreatDoor.Sc
open RowKit PA YtmfejjlmflgnbaaGreatDoorW.PrintWords YtmfejjlmflgnbaaGreatDoorW.PrintLast Sp Tr Tok
open Go.Lib (hid)
theorem R_map {α:Type} {d:Kd α} {e:Nat} {w w1:World} {base:Nat} {ok:Nat->Prop} {v:Value} {xs:List α} {g:Nat} {es:Array MapEntry} {cl:Nat} (h:Kd.R d e w base ok v xs) (hb:w.heap[g]?=some (.map es cl)) (hg:w.grownBy w1 (some g)):Kd.R d e w1 base ok v xs:=by
 refine Kd.R_mono (Kd.R_move (w1:=w1) (Kd.R_bound h) (fun k hk=>?_)) (fun _ hk=>hk.1)
 obtain ⟨_,_,hlt,q,_,cells,hc⟩:=hk
 refine hg.block k hlt (fun he=>?_)
 injection he with he
 subst he;rw [hb] at hc;cases hc
theorem drew_grown {w w1:World} {r:Option Nat} (h:w.drew.grownBy w1 r):w.grownBy w1 r:=⟨h.os,h.tape,h.output,h.size,h.block⟩
theorem keeps_grown_map {w w1:World} {g:Nat} (hs:SeenAny w g) (hg:w.grownBy w1 (some g)):Keeps w w1:=by
 obtain ⟨es,cl,hb⟩:=hs.block;exact keeps_map hb hg
def okS (V:ByteArray->Value) (s:ByteArray) (k:Nat):Prop:=∀ t:ByteArray,t≠s->(V t).ownBlock≠some k
def updV (V:ByteArray->Value) (s:ByteArray) (v:Value):ByteArray->Value:=fun t=>if t=s then v else V t
def Rws (w:World) (base:Nat) (V:ByteArray->Value) (G:List SE):Prop:=∀ s,Kd.R kEnt 80 w base (okS V s) (V s) (named G s)
theorem rws_nil (w:World) (base:Nat):Rws w base (fun _=>.slice none 0 0) []:=fun s=>Kd.R_nil _ _ _ _ _
theorem Rws.below {w w1:World} {base:Nat} {V:ByteArray->Value} {G:List SE} (h:Rws w base V G) (hB:Below w.heap.size w w1):Rws w1 base V G:=fun s=>Kd.R_below (h s) hB
theorem Rws.map {w w1:World} {base g:Nat} {es:Array MapEntry} {cl:Nat} {V:ByteArray->Value} {G:List SE} (h:Rws w base V G) (hb:w.heap[g]?=some (.map es cl)) (hg:w.grownBy w1 (some g)):Rws w1 base V G:=fun s=>R_map (h s) hb hg
theorem Rws.lt {w:World} {base:Nat} {V:ByteArray->Value} {G:List SE} (h:Rws w base V G) (s:ByteArray) {k:Nat} (hk:(V s).ownBlock=some k):k<w.heap.size:=ownLt (h s) hk
theorem Rws.app {w w1:World} {base:Nat} {V:ByteArray->Value} {G:List SE} {e:SE} {v:Value} (h:Rws w base V G) (hv:Kd.R kEnt 80 w1 base (okS V e.name) v (named G e.name++[e])) (hg:w.grownBy w1 (V e.name).ownBlock)
  (hat:v.ownBlock=(V e.name).ownBlock∨∃ b,v.ownBlock=some b/\w.heap.size<=b):Rws w1 base (updV V e.name v) (G++[e]):=by
 intro s
 by_cases hs:s=e.name
 ·subst hs
  have hV:updV V e.name v e.name=v:=by unfold updV;rw [if_pos rfl]
  rw [hV,named_app,if_pos rfl]
  refine Kd.R_mono hv (fun k hk t ht=>?_)
  unfold updV;rw [if_neg ht];exact hk t ht
 ·have hV:updV V e.name v s=V s:=by unfold updV;rw [if_neg hs]
  rw [hV,named_app,if_neg (fun h=>hs h.symm),List.append_nil];have h1:=Kd.R_bound (h s);have h2:=Kd.R_move (w1:=w1) h1 (fun k hk=>hg.block k hk.2.2.1 (fun he=>hk.1 e.name (fun h=>hs h.symm) he.symm))
  refine Kd.R_mono h2 (fun k hk t ht=>?_)
  unfold updV
  by_cases hte:t=e.name
  ·rw [if_pos hte]
   rcases hat with hat | ⟨b,hb,hle⟩
   ·rw [hat]
    exact hk.1 e.name (fun h=>hs h.symm)
   ·rw [hb]
    intro he;injection he with he
    have:=hk.2.2.1;omega
  ·rw [if_neg hte]
   exact hk.1 t ht
structure L1 (rs:List SR) (obj:ByteArray) (l:List SR) (ats:List SA) (sp:SP) (w:World) (sm gm j:Nat) (G:List SE) (V:ByteArray->Value) (wr:World):Prop where
 rd:readL rs obj l G (ats.drop j)=readL rs obj l [] ats
 len:G.length<=j
 seen:Seen wr sm j (fun s=>(named G s).length)
 got:Got wr gm j V
 rws:Rws wr w.heap.size V G
 old:w.grownBy wr (some sm)
 box:wr.heap[w.heap.size]?=some (.cells #[.int .i64 sp.f0,.int .i64 sp.f1,.int .i64 sp.f2] 41 (0,0))
theorem L1.below {rs:List SR} {obj:ByteArray} {l:List SR} {ats:List SA} {sp:SP} {w:World} {sm gm j:Nat} {G:List SE} {V:ByteArray->Value} {wr w1:World} (h:L1 rs obj l ats sp w sm gm j G V wr) (hB:Below wr.heap.size wr w1):L1 rs obj l ats sp w sm gm j G V w1 :=
 ⟨h.rd,h.len,h.seen.kept (Go.Proofs.YtmfejjlmflgnbaaGreatDoor.Sc.below_grown (r:=none) hB) (by simp),h.got.kept (Go.Proofs.YtmfejjlmflgnbaaGreatDoor.Sc.below_grown (r:=none) hB) (by simp),h.rws.below hB,h.old.trans (Go.Proofs.YtmfejjlmflgnbaaGreatDoor.Sc.below_grown (r:=some sm) hB),(hB.block _ (gS.1 h.box).1).trans h.box⟩
def AttrU (eb:Int->Addr) (ra:Except SF SE) (B:Nat) (w':World) (ok:Nat->Prop) (y:SE) (Ap:Option Addr) (np cp:Nat) (er:Value):Prop :=
 match ra with
 | .ok e=>y=e/\np=e.params.length/\er=.nilIface/\Kd.R kEnt 80 w' B ok (.slice Ap np cp) e.params
 | .error f=>∃ b,er=flawP b/\FlawS eb w' B b f
theorem attr_u {eb:Int->Addr} {ra:Except SF SE} {W:World} {ev:Ending} {w':World} (h:AttrPost eb ra W ev w'):∃ (y:SE) (Ap:Option Addr) (np cp:Nat) (er:Value),ev=.returned (.tuple #[.agg #[.string y.name,.int .i64 y.spot.f0,.int .i64 y.spot.f1,.int .i64 y.spot.f2,.int .u32 y.num,.bool y.auto,.string y.word,.slice Ap np cp],er])/\Below W.heap.size W w'/\AttrU eb ra W.heap.size w' (fun _=>True) y Ap np cp er:=by
 obtain ⟨h1,h2⟩:=h;cases ra with
 | ok e =>
  obtain ⟨v,h3,h4⟩:=h2;obtain ⟨Ap,cp,rfl⟩:=RForm h4;exact ⟨e,Ap,_,cp,_,h3,h1,rfl,rfl,rfl,h4⟩
 | error f =>
  obtain ⟨b,y,h3,h4⟩:=h2;exact ⟨y,none,0,0,_,h3,h1,b,rfl,h4⟩
theorem AttrU.move {eb:Int->Addr} {ra:Except SF SE} {B B' g:Nat} {w8 w9:World} {y:SE} {Ap:Option Addr} {np cp:Nat} {er:Value} (h:AttrU eb ra B w8 (fun _=>True) y Ap np cp er) (hk:∀ k,B<=k->k<w8.heap.size->w9.heap[k]?=w8.heap[k]?) (hB:B'<=B) (hg:∀ k,B<=k->k<w8.heap.size->k≠g) :
  AttrU eb ra B' w9 (fun k=>k≠g) y Ap np cp er:=by
 cases ra with
 | ok e =>
  obtain ⟨h1,h2,h3,h4⟩:=h;exact ⟨h1,h2,h3,Kd.R_lower (Kd.R_mono (Kd.R_move (w1:=w9) (Kd.R_bound h4) (fun k hk2=>hk k hk2.2.1 hk2.2.2.1)) (fun k hk2=>hg k hk2.2.1 hk2.2.2.1)) hB⟩
 | error f =>
  obtain ⟨b,h1,h2,h3⟩:=h;exact ⟨b,h1,Nat.le_trans hB h2,(hk b h2 (gS.1 h3).1).trans h3⟩
theorem u_last {eb:Int->Addr} {ra:Except SF SE} {w7 w8 w9:World} {B:Nat} {y:SE} {Ap:Option Addr} {np cp:Nat} {er:Value} {C:Array Value} (hw:w9=w8.alloc (.cells C 80)) (hB:B=w7.heap.size) (h:AttrU eb ra B w8 (fun _=>True) y Ap np cp er) (h8:Below w7.heap.size w7 w8) :
  Hid (w9.heap[w8.heap.size]?=some (.cells C 80 (0,0)))/\Hid (Below w7.heap.size w7 w9)/\Hid (w7.heap.size<=w8.heap.size/\w8.heap.size<w9.heap.size)/\Hid (AttrU eb ra w7.heap.size w9 (fun k=>k≠w8.heap.size) y Ap np cp er):=by
 subst hw hB;have hb:=alloc_below w8 (.cells C 80);exact ⟨hid (heap_alloc_new _ _),hid (h8.trans (hb.mono h8.size)),hid ⟨h8.size,by simp⟩,hid (h.move (fun k _ hk=>hb.block k hk) (Nat.le_refl _) (fun k _ hk=>by omega))⟩
theorem u_first {eb:Int->Addr} {ra:Except SF SE} {w7 w8 w9:World} {B:Nat} {y:SE} {Ap:Option Addr} {np cp:Nat} {er:Value} {b0 b1 b2 b3 b4 b5 b6 b7 a0 a1 a2 a3 a4 a5 a6 a7:Value} (h16:w8.heap[w7.heap.size]?=some (.cells #[b0,b1,b2,b3,b4,b5,b6,b7] 80 (0,0)))
  (hw:((((((((w8.setCell ⟨w7.heap.size,0,none⟩ a0).setCell ⟨w7.heap.size,1,none⟩ a1).setCell ⟨w7.heap.size,2,none⟩ a2).setCell ⟨w7.heap.size,3,none⟩ a3).setCell ⟨w7.heap.size,4,none⟩ a4).setCell ⟨w7.heap.size,5,none⟩ a5).setCell ⟨w7.heap.size,6,none⟩ a6).setCell ⟨w7.heap.size,7,none⟩ a7)=w9)
  (hB:B=w7.heap.size + 1) (h:AttrU eb ra B w8 (fun _=>True) y Ap np cp er) (h8:Below w7.heap.size w7 w8) :
  Hid (w9.heap[w7.heap.size]?=some (.cells #[a0,a1,a2,a3,a4,a5,a6,a7] 80 (0,0)))/\Hid (Below w7.heap.size w7 w9)/\Hid (w7.heap.size<=w7.heap.size/\w7.heap.size<w9.heap.size)/\Hid (AttrU eb ra w7.heap.size w9 (fun k=>k≠w7.heap.size) y Ap np cp er):=by
 obtain ⟨h1,h2,h3⟩:=put8 h16 hw;have hlt:=(gS.1 h16).1;exact ⟨hid h1,hid (h8.trans (belowG h2 (Nat.le_refl _) (Nat.le_of_lt hlt))),hid ⟨Nat.le_refl _,by omega⟩,hid (h.move (fun k h4 h5=>h2.block k h5 (fun e=>by injection e with e;omega)) (by omega) (fun k h4 _=>by omega))⟩
theorem R_notmap {α:Type} {d:Kd α} {e:Nat} {w:World} {base:Nat} {ok:Nat->Prop} {v:Value} {xs:List α} {g:Nat} {es:Array MapEntry} {cl:Nat} (h:Kd.R d e w base ok v xs) (hb:w.heap[g]?=some (.map es cl)):some g≠v.ownBlock:=by
 intro he;obtain ⟨inner,ho⟩:=Kd.R_own h;obtain ⟨cells,hc⟩:=own_typed ho g he.symm;rw [hb] at hc;cases hc
theorem grown_new {w w1 w2:World} {sm:Nat} {r:Option Nat} (h:w.grownBy w1 (some sm)) (hg:w1.grownBy w2 r) (hr:∀ k,r=some k->w.heap.size<=k):w.grownBy w2 (some sm) :=
 ⟨hg.os.trans h.os,hg.tape.trans h.tape,hg.output.trans h.output,Nat.le_trans h.size hg.size,fun k hk hne=>(hg.block k (Nat.lt_of_lt_of_le hk h.size) (fun e=>by have:=hr k e.symm;omega)).trans (h.block k hk hne)⟩
theorem L1.next {eb:Int->Addr} {rs:List SR} {obj:ByteArray} {l:List SR} {ats:List SA} {sp:SP} {w w6 w7 w9 w1 w2:World} {sm gm j nC:Nat} {G:List SE} {V:ByteArray->Value} {a:SA} {e:SE} {v1:Value}
  (h:L1 rs obj l ats sp w sm gm j G V w6) (hx:ats[j]?=some a) (hr:readA rs obj l G a=.ok e) (hen:e.name=a.f0) (hnC:(named G a.f0).length=nC) (hsm:sm<w.heap.size) (hgm:w.heap.size<gm)
  (hg7:w6.grownBy w7 (some sm)) (hs7:Seen w7 sm (j + 1) (fun t=>if t=a.f0 then nC + 1 else (named G t).length)) (hb9:Below w7.heap.size w7 w9)
  (hR:Kd.R kEnt 80 w1 w.heap.size (okS V a.f0) v1 (named G a.f0++[e])) (hg1:w9.grownBy w1 (V a.f0).ownBlock) (hat:v1.ownBlock=(V a.f0).ownBlock∨∃ b,v1.ownBlock=some b/\w9.heap.size<=b)
  (hgot:Got w2 gm (j + 1) (fun t=>if t=a.f0 then v1 else V t)) (hg2:w1.grownBy w2 (some gm)):L1 rs obj l ats sp w sm gm (j + 1) (G++[e]) (updV V a.f0 v1) w2:=by
 obtain ⟨es6,cl6,hb6⟩:=h.seen.any.block;have hr7:=h.rws.map hb6 hg7;have hr9:=hr7.below hb9;have hg79:=Go.Proofs.YtmfejjlmflgnbaaGreatDoor.Sc.below_grown (r:=none) hb9;have hgot7:=h.got.kept hg7 (fun e=>by injection e with e;omega);have hgot9:=hgot7.kept hg79 (by simp);obtain ⟨es9,cl9,hbg9⟩:=hgot9.block;have hs9:=hs7.kept hg79 (by simp);obtain ⟨ess,cls,hbs9⟩:=hs9.any.block;have hVlt:∀ k,(V a.f0).ownBlock=some k->w.heap.size<=k:=fun k hk=>Kd.R_base (hr9 a.f0) k hk;have hs1:=hs9.kept hg1 (R_notmap (hr9 a.f0) hbs9);have hs2:=hs1.kept hg2 (fun e=>by injection e with e;omega);have hgot1:=hgot9.kept hg1 (R_notmap (hr9 a.f0) hbg9);obtain ⟨es1,cl1,hbg1⟩:=hgot1.block;have happ:=Rws.app (e:=e) (v:=v1) (w1:=w1) hr9 (by rw [hen];exact hR) (by rw [hen];exact hg1) (by rw [hen];exact hat);rw [hen] at happ;have ho9:w.grownBy w9 (some sm):=(h.old.trans hg7).trans (Go.Proofs.YtmfejjlmflgnbaaGreatDoor.Sc.below_grown (r:=some sm) hb9);have hbox7:w7.heap[w.heap.size]?=some (.cells #[.int .i64 sp.f0,.int .i64 sp.f1,.int .i64 sp.f2] 41 (0,0)):=(hg7.block _ (gS.1 h.box).1 (fun e=>by injection e with e;omega)).trans h.box;have hbox9:=(hb9.block _ (gS.1 hbox7).1).trans hbox7;have hbox1:=(hg1.block _ (gS.1 hbox9).1 (Kd.R_ne (hr9 a.f0) hbox9 (by decide))).trans hbox9;have hbox2:=(hg2.block _ (gS.1 hbox1).1 (fun e=>by injection e with e;omega)).trans hbox1
 refine ⟨by rw [<- readL_go hx hr];exact h.rd,by simp;exact h.len,?_,hgot,happ.map hbg1 hg2,grown_new (grown_new ho9 hg1 hVlt) hg2 (fun k hk=>by injection hk with hk;omega),hbox2⟩
 have hf:(fun s=>(named (G++[e]) s).length)=(fun t=>if t=a.f0 then nC + 1 else (named G t).length):=by
  funext s
  rw [named_app,hen]
  by_cases hs:s=a.f0
  ·rw [if_pos hs,if_pos hs.symm,hs]
   simp [hnC]
  ·rw [if_neg hs,if_neg (fun h=>hs h.symm),List.append_nil]
 rw [hf];exact hs2
theorem below_own {wr W w1:World} {r:Option Nat} (hB:Below wr.heap.size wr W) (hg:W.grownBy w1 r) (hr:∀ k,r=some k->wr.heap.size<=k):Below wr.heap.size wr w1 :=
 ⟨hg.os.trans hB.os,hg.tape.trans hB.tape,hg.output.trans hB.output,Nat.le_trans hB.size hg.size,fun k hk=>(hg.block k (Nat.lt_of_lt_of_le hk hB.size) (fun e=>by have:=hr k e.symm;omega)).trans (hB.block k hk)⟩
theorem rws_reads {wr W:World} {base:Nat} {V:ByteArray->Value} {G:List SE} (h:Rws wr base V G) (hB:Below wr.heap.size wr W) (s:ByteArray):∃ A c,V s=.slice A (named G s).length c/\ReadsRow (kEnt.M W base (fun k=>k<wr.heap.size)) kEnt.sz W A (named G s).length (named G s):=by
 obtain ⟨A,c,he,_,hr⟩:=OwnRow.reads (h s).2
 refine ⟨A,c,he,hr.imp_ hB (fun p cs hp=>?_)⟩
 exact Kd.M_below (kEnt.M_mono (fun k hk=>hk.2.2.1) (kEnt.M_bound hp)) hB
theorem own_at {wr W:World} {v v1:Value} (h:∀ b,v.ownBlock=some b->wr.heap.size<=b) (hat:v1.ownBlock=v.ownBlock∨∃ b,v1.ownBlock=some b/\W.heap.size<=b) (hs:wr.heap.size<=W.heap.size):∀ b,v1.ownBlock=some b->wr.heap.size<=b:=by
 intro b hb;rcases hat with hat | ⟨c,hc,hle⟩
 ·exact h b (hat.symm.trans hb)
 ·rw [hc] at hb
  injection hb with hb
  omega
theorem below_undrew {w w1:World} (h:Below w.drew.drew.heap.size w.drew.drew w1):Below w.heap.size w w1:=⟨h.os,h.tape,h.output,h.size,h.block⟩
theorem alloc_first {w w0 w1:World} (h:Below w0.heap.size w0 w1) (hz:w.heap.size<w0.heap.size) (hB:Below w.heap.size w w0):Below w.heap.size w w1:=hB.trans (h.mono (by omega))
theorem once {G:Prop} (T:Prop) (h1:Hid T->G) (h2:T):G:=h1 h2
theorem named_some {G:List SE} {n:ByteArray}:(!(named G n).isEmpty)=decide (0<(named G n).length):=by
 cases named G n <;> simp
theorem outR_nil (g:List SE) (sp:SP):outR g sp []=.ok []:=rfl
theorem outR_cons (g:List SE) (sp:SP) (x:SR) (r:List SR):outR g sp (x :: r)=if (named g x.name).isEmpty&&decide (x.times=1) then .error ⟨54,sp,x.name⟩ else match outR g sp r with
  | .error f=>.error f
  | .ok o=>.ok ((if (named g x.name).isEmpty&&decide (x.times=2) then [dfltR x] else named g x.name)++o):=rfl
def outTo (g:List SE) (sp:SP) (o:List SE) (r:List SR):Except SF (List SE):=match outR g sp r with
 | .error f=>.error f
 | .ok p=>.ok (o++p)
theorem outTo_start (g:List SE) (sp:SP) (r:List SR):outTo g sp [] r=outR g sp r:=by
 unfold outTo;cases outR g sp r <;> rfl
theorem outTo_end (g:List SE) (sp:SP) (o:List SE):outTo g sp o []=.ok o:=by
 unfold outTo;rw [outR_nil];simp
theorem outTo_bad {g:List SE} {sp:SP} {o:List SE} {l:List SR} {k:Nat} {x:SR} (hx:l[k]?=some x) (h:((named g x.name).isEmpty&&decide (x.times=1))=true):outTo g sp o (l.drop k)=.error ⟨54,sp,x.name⟩:=by
 obtain ⟨hk,rfl⟩:=List.getElem?_eq_some_iff.1 hx;unfold outTo;rw [List.drop_eq_getElem_cons hk,outR_cons,if_pos h]
theorem outTo_go {g:List SE} {sp:SP} {o:List SE} {l:List SR} {k:Nat} {x:SR} (hx:l[k]?=some x) (h:((named g x.name).isEmpty&&decide (x.times=1))=false) :
  outTo g sp o (l.drop k)=outTo g sp (o++(if (named g x.name).isEmpty&&decide (x.times=2) then [dfltR x] else named g x.name)) (l.drop (k + 1)):=by
 obtain ⟨hk,rfl⟩:=List.getElem?_eq_some_iff.1 hx;unfold outTo;rw [List.drop_eq_getElem_cons hk,outR_cons,if_neg (by rw [h];decide)];cases outR g sp (l.drop (k + 1)) with
 | error f=>rfl
 | ok p=>simp
structure L2 (RES:Except SF (List SE)) (sp:SP) (l:List SR) (G:List SE) (w wr:World) (k:Nat) (o:List SE) (ov:Value) (W:World):Prop where
 out:outTo G sp o (l.drop k)=RES
 row:Kd.R kEnt 80 W w.heap.size (fun _=>True) ov o
 own:∀ b,ov.ownBlock=some b->wr.heap.size<=b
 bel:Below wr.heap.size wr W
 len:o.length<=k*1073741825
theorem spot_read {w:World} {g:Nat} {sp:SP} (h:w.heap[g]?=some (.cells #[.int .i64 sp.f0,.int .i64 sp.f1,.int .i64 sp.f2] 41 (0,0))) :
  w.cell? ⟨g,0,none⟩=some (.int .i64 sp.f0)/\w.cell? ⟨g,1,none⟩=some (.int .i64 sp.f1)/\w.cell? ⟨g,2,none⟩=some (.int .i64 sp.f2) :=
 ⟨(cell_row h 0).trans rfl,(cell_row h 1).trans rfl,(cell_row h 2).trans rfl⟩
theorem att_at (l:List SA) (j:Nat) (a:SA) (h:l[j]?=some a):rd_T50 l (j:Int)=a:=by
 simp [rd_T50,h]
set_option maxHeartbeats 64000000 in
theorem attrs_step (eb:Int->Addr) (rs:List SR) (m:Nat) (ih:∀ m',m'<m->AttrsC eb rs m'):AttrsC eb rs m:=by
 intro ats obj l sp rb sm A c Al cl As cs w hm hm2 hR hCl hDf hll hCa hG
 have HAT:Hid (∀ (a:SA) (x:SR) (A5:Option Addr) (c5:Nat) (A9:Option Addr) (c9:Nat) (W:World),szA a<=szL ats->RdAt W rb sm rs A c->Kd.C Kd.string W A5 x.words.length x.words->Kd.C k50 W A9 a.f4.length a.f4->x.name=a.f0->EGlob eb W->Calls Tryz.prog 105 #[.pointer (some ⟨rb,0,none⟩),.string obj,rowV x A5 c5,attV a A9 c9] W (AttrPost eb (attrR rs obj x a) W)) :=
  hid (fun a x A5 c5 A9 c9 W ha h1 h2 h3 h4 h5=>attr_calls eb rs (szL a.f4) (ih _ (by have:=sz_eq a;omega)) obj x a rb sm A c A5 c5 A9 c9 W (Nat.le_refl _) (by have:=sz_eq a;omega) h1 h2 h3 h4 h5)
 have HM:=hid hm2;have HL:Hid (ats.length<=1073741824):=hid (by have:=sz_len ats;omega);have HLL:=hid hll;have HR:=hid hR;have HCL:=hid hCl;have HCA:=hid hCa;have HDF:=hid hDf;have HG:=hid hG;have hw1:w.cell? ⟨rb,1,none⟩=some (.map (some sm)):=hR.seen;have hw1a:=fun X=>cellA1 hw1 X;obtain ⟨W1,hW1⟩:∃ W1:World,W1=w.alloc (.cells #[.int .i64 sp.f0,.int .i64 sp.f1,.int .i64 sp.f2] 41):=⟨_,rfl⟩;have BW1:Hid (Below w.heap.size w W1):=hid (by rw [hW1];exact alloc_below _ _);have SP1:Hid (W1.heap[w.heap.size]?=some (.cells #[.int .i64 sp.f0,.int .i64 sp.f1,.int .i64 sp.f2] 41 (0,0))):=hid (by rw [hW1];exact heap_alloc_new _ _);have ZW1:Hid (W1.heap.size=w.heap.size + 1):=hid (by rw [hW1];simp);obtain ⟨W2,hclr,hS2,hg2⟩:=seen_clear (hR.map.kept (Go.Proofs.YtmfejjlmflgnbaaGreatDoor.Sc.below_grown (r:=none) BW1.out) (by simp));have HS2:=hid hS2;have HG2:=hid hg2;have HMUL:=hid hR.map.lt;obtain ⟨RES,hRES⟩:∃ r,listedR rs obj l ats sp=r:=⟨_,rfl⟩;rw [hRES];have HRES:=hid hRES;have hml:ats.length<=9223372036854775807:=by have:=HL.out;omega
 clear hm hm2 hR hCl hCa hG hll hS2 hg2 hDf hRES ih;generalize hn:ats.length=n at HCA HL hml ⊢;have HN:=hid hn;clear hn;generalize hnl:l.length=nl at HCL HLL ⊢;have HNL:=hid hnl;clear hnl;have hmm:=@run_makeMap Tryz.prog;have hmf:∀ (fn:Fn) (first cap:Array Value) (w:World),(Instr.makeFunc fn first cap).run Tryz.prog w=.ok (.func fn first cap) w:=fun _ _ _ _=>rfl;unfold spotV
 go_enter Tryz.func66,Tryz.ntmps66
 go_upto_region 1 with fail
 rw [<- hW1];have hw1b:W1.cell? ⟨rb,1,none⟩=some (.map (some sm)):=(BW1.out.cell (lC w _ hw1)).trans hw1;clear hW1 hw1 hw1a
 go_upto_region 2 with fail
 clear hclr hw1b
 go_upto_region 3 with fail
 obtain ⟨W3,hW3⟩:∃ W3:World,W3=W2.alloc (.map #[] 0):=⟨_,rfl⟩;rw [<- hW3];have BW23:Hid (Below W2.heap.size W2 W3):=hid (by rw [hW3];exact alloc_below _ _);have HSZ:Hid (w.heap.size + 1<=W2.heap.size):=hid (by have h1:=HG2.out.size;have h2:=ZW1.out;omega)
 have HST:Hid (L1 rs obj l ats sp w sm W2.heap.size 0 [] (fun _=>.slice none 0 0) W3):=hid (by
  have hb3:W3.heap[w.heap.size]?=some (.cells #[.int .i64 sp.f0,.int .i64 sp.f1,.int .i64 sp.f2] 41 (0,0)) :=
   (BW23.out.block _ (by have:=HSZ.out;omega)).trans ((HG2.out.block _ (by have:=ZW1.out;omega) (fun e=>by injection e with e;have:=HMUL.out;omega)).trans SP1.out)
  refine ⟨rfl,by simp,HS2.out.kept (Go.Proofs.YtmfejjlmflgnbaaGreatDoor.Sc.below_grown (r:=none) BW23.out) (by simp),by rw [hW3];exact got_made W2,rws_nil _ _,?_,hb3⟩
  exact ((Go.Proofs.YtmfejjlmflgnbaaGreatDoor.Sc.below_grown (r:=some sm) BW1.out).trans HG2.out).trans (Go.Proofs.YtmfejjlmflgnbaaGreatDoor.Sc.below_grown (r:=some sm) BW23.out))
 clear hW3
 go_wp2_with fail
 go_loopw [29] (fun v wr=>∃ (j:Nat) (G:List SE) (V:ByteArray->Value),v=.int .i64 (j:Int)/\j<=n/\Hid (L1 rs obj l ats sp w sm W2.heap.size j G V wr)) (fun v _=>n - (intOf v).toNat)
 case atStart=>exact ⟨0,_,_,by go_num,by omega,HST⟩
 case round =>
  obtain ⟨j,G,V,rfl,hj,HL1⟩:=hrel;have HK:Hid (Keeps w wr):=hid (keeps_grown_map HR.out.map HL1.out.old)
  by_cases hlt:j<n
  ·have hx:ats[j]?=some (ats[j]'(by rw [HN.out];exact hlt)):=List.getElem?_eq_getElem _
   obtain ⟨ad,A9,c9,eA,x0,x1,x2,x3,x4,x5,x6,x7,x8,x9,x10,x11,l9,C9⟩:=at_T50 (cl_C clAttr HK.out HCA.out) (j:Int) (by omega) (by omega);rw [att_at ats j _ hx] at x0 x1 x2 x3 x4 x5 x6 x7 x8 x9 x10 x11 l9 C9;generalize (ats[j]'(by rw [HN.out];exact hlt))=a at hx x0 x1 x2 x3 x4 x5 x6 x7 x8 x9 x10 x11 l9 C9;cases eA;have HX:=hid hx;have HC9:=hid C9;have HAS:Hid (szA a<=szL ats):=hid (sz_get ats j a hx);have HNM:Hid (a.f0.size<=1073741824):=hid (by have:=HAS.out;have:=sz_eq a;have:=HM.out;omega);clear hx C9 l9;simp only [Int.toNat_natCast] at x0 x1 x2 x3 x4 x5 x6 x7 x8 x9 x10 x11;have tk1:True:=trivial
   go_upto_region 6 with (first
    | (have _t:=tk1;refine run_event rfl (.alloc 50) rfl (.pointer (some ⟨wr.heap.size,0,none⟩)) (wr.alloc (.cells att0 50)) (by kernel_rfl) ?_;intro w4 hw4;have B4:Hid (Below wr.heap.size wr w4):=hid (by rw [hw4];exact alloc_below _ _);have E4:Hid (w4.heap[wr.heap.size]?=some (.cells att0 50 (0,0))):=hid (by rw [hw4];exact heap_alloc_new _ _);have Z4:Hid (w4.heap.size=wr.heap.size + 1):=hid (by rw [hw4];simp);clear hw4 tk1 _t)
    | ((with_reducible refine gate_store (t:=50) (p:=14) rfl ?_);refine put_event rfl 50 _ _ rfl wr.heap.size (attC a A9 c9) rfl rfl 50 att0 E4.out (by kernel_rfl) rfl (att_all _ _ _) wr.heap.size (Nat.le_refl _) ?_;intro w5 hb5 hB5 hs5 ho5;have E5:=hid hb5;have B5:Hid (Below wr.heap.size wr w5):=hid (B4.out.trans hB5);have Z5:Hid (w5.heap.size=wr.heap.size + 1):=hid (by rw [hs5,Z4.out]);clear hb5 hB5 hs5 ho5 x0 x1 x2 x3 x4 x5 x6 x7 x8 x9 x10 x11))
   clear B4 E4 Z4;have HK5:Hid (Keeps w w5):=hid (HK.out.trans (keeps_below B5.out))
   have HIX:Hid (Calls Tryz.prog 103 #[.slice Al nl cl,.func (.func 104) #[] #[.pointer (some ⟨wr.heap.size,0,none⟩)]] w5 fun e w'=>e=.returned (.int .i64 (idxF (fun x=>decide (x.name=a.f0)) l 0))/\Below w5.heap.size w5 w'):=hid (by
    have h:=findr_calls a.f0 l Al cl wr.heap.size w5 (by rw [HNL.out];exact cl_C clRow HK5.out HCL.out) ((cell_row E5.out 0).trans rfl);rw [HNL.out] at h
    exact h)
   obtain ⟨ix,hix⟩:∃ ix,idxF (fun x:SR=>decide (x.name=a.f0)) l 0=ix:=⟨_,rfl⟩;rw [hix] at HIX;have hfi:=find_idx l a.f0 0;rw [hix] at hfi;have HFI:=hid hfi;clear hix hfi
   go_upto_region 7 with (first
    | (go_at_call 103;refine HIX.out.mono ?_;rintro e w6 ⟨rfl,hB6⟩;have B56:=hid hB6;clear hB6))
   have L6:Hid (L1 rs obj l ats sp w sm W2.heap.size j G V w6):=hid (HL1.out.below (B5.out.trans (B56.out.mono B5.out.size)));have HK6:Hid (Keeps w w6):=hid (HK5.out.trans (keeps_below B56.out));have HC96:Hid (Kd.C k50 w6 A9 a.f4.length a.f4):=hid (Kd.C_below HC9.out (B5.out.trans (B56.out.mono B5.out.size)));have E6:=hid ((B56.out.block wr.heap.size (by have:=Z5.out;omega)).trans E5.out);have Z6:Hid (wr.heap.size<w6.heap.size):=hid (by have:=Z5.out;have:=B56.out.size;omega);have ZW:Hid (W2.heap.size<wr.heap.size):=hid HL1.out.got.lt;clear HK HL1 B5 E5 Z5 HK5 B56;have a0:w6.cell? ⟨wr.heap.size,0,none⟩=some (.string a.f0):=(cell_row E6.out 0).trans rfl;have a1:w6.cell? ⟨wr.heap.size,1,none⟩=some (.int .i64 a.f1.f0):=(cell_row E6.out 1).trans rfl;have a2:w6.cell? ⟨wr.heap.size,2,none⟩=some (.int .i64 a.f1.f1):=(cell_row E6.out 2).trans rfl;have a3:w6.cell? ⟨wr.heap.size,3,none⟩=some (.int .i64 a.f1.f2):=(cell_row E6.out 3).trans rfl;cases hf:findR l a.f0 with
   | none =>
    have hi:=HFI.out;rw [hf] at hi;dsimp only at hi
    have HBAD:Hid (RES=.error ⟨51,a.f1,a.f0⟩):=hid (by
     rw [<- HRES.out];unfold listedR
     rw [<- L6.out.rd,readL_hit HX.out (by rw [readA_eq,hf])])
    clear hf HFI;subst hi;have hgE:=(HG.out.keeps HK6.out).g51
    go_upto_if 37 with fail
    go_wp2_with fail
    go_region
    go_wp2_with fail
    go_ret2
    rw [HBAD.out];have hB7:=(alloc_below w6 (.cells #[errI eb 51,.int .i64 a.f1.f0,.int .i64 a.f1.f1,.int .i64 a.f1.f2,.string a.f0] 131))
    refine ⟨L6.out.old.trans (Go.Proofs.YtmfejjlmflgnbaaGreatDoor.Sc.below_grown (r:=some sm) hB7.drew),L6.out.seen.any.kept (Go.Proofs.YtmfejjlmflgnbaaGreatDoor.Sc.below_grown (r:=none) hB7.drew) (by simp),w6.heap.size,rfl,by have:=L6.out.old.size;omega,?_⟩
    exact heap_alloc_new w6 _
   | some x =>
    have hi:=HFI.out;rw [hf] at hi;dsimp only at hi;obtain ⟨i,hi1,hi2,hi3⟩:=hi;rw [Nat.zero_add] at hi1;have HXI:=hid hi2;have HXN:=hid hi3;have HIL:Hid (i<nl):=hid (by rw [<- HNL.out];exact (List.getElem?_eq_some_iff.1 hi2).1);have HRA:Hid (readA rs obj l G a=if !(named G a.f0).isEmpty&&decide (x.times≠3) then .error ⟨55,a.f1,a.f0⟩ else attrR rs obj x a):=hid (by rw [readA_eq,hf]);clear hi2 hi3 hf HFI;subst hi1;obtain ⟨nC,hnC⟩:∃ nC,(named G a.f0).length=nC:=⟨_,rfl⟩;have HNC:=hid hnC;have hnC':=hnC;have hnb:nC<=1073741824:=by have:=named_len G a.f0;have:=L6.out.len;have:=HL.out;omega
    have hkm:j<maxLen:=by unfold maxLen;have:=HL.out;omega
    have hsm:a.f0.size<=maxLen:=by unfold maxLen;have:=HNM.out;omega
    have m1:w6.cell? ⟨rb,1,none⟩=some (.map (some sm)):=HK6.out _ _ HR.out.seen;have hlk:=seen_look (w:=w6.drew) (k:=j) (c:=fun s=>(named G s).length) L6.out.seen hsm;obtain ⟨w7,hmu,hS7,hg7⟩:=seen_put (w:=w6.drew) (k:=j) (c:=fun s=>(named G s).length) L6.out.seen hkm hsm (by omega);rw [hnC] at hlk hmu;have hi0:¬ ((i:Int)<0):=by omega
    have HS7:=hid hS7;have HG7:=hid hg7;clear hS7 hg7 hnC hkm
    go_upto_if 37 with fail
    go_wp2_with fail
    go_region
    have G67:=hid (drew_grown HG7.out);have HK7:Hid (Keeps w w7):=hid (keeps_grown_map HR.out.map (L6.out.old.trans G67.out));have HK67:Hid (Keeps w6 w7):=hid (keeps_grown_map L6.out.seen.any G67.out);have E7:Hid (w7.heap[wr.heap.size]?=some (.cells (attC a A9 c9) 50 (0,0))):=hid ((G67.out.block _ Z6.out (fun e=>by injection e with e;have:=HMUL.out;have:=L6.out.old.size;have:=ZW.out;have:=HSZ.out;omega)).trans E6.out);have hlk7:=seen_look (w:=w7.drew) HS7.out hsm;rw [if_pos rfl] at hlk7;obtain ⟨q,hq⟩:∃ q:Int,q=((nC + 1:Nat):Int):=⟨_,rfl⟩;rw [hnC',<- hq] at hlk7;clear a0 a1 a2 a3 m1 hlk hmu hi0 HG7;have m7:w7.cell? ⟨rb,1,none⟩=some (.map (some sm)):=HK7.out _ _ HR.out.seen;obtain ⟨ad2,A5,c5,eA2,z0,z1,z2,z3,z4,z5,z6,z7,z8,z9,z10,l5,C5⟩:=at_Row (cl_C clRow HK7.out HCL.out) (i:Int) (by omega) (by have:=HIL.out;omega);rw [row_at l i x HXI.out] at z0 z1 z2 z3 z4 z5 z6 z7 z8 z9 z10 l5 C5;cases eA2;simp only [Int.toNat_natCast] at z0 z1 z2 z3 z4 z5 z6 z7 z8 z9 z10;have HC5:=hid C5;clear C5 l5;have hin:=HIL.out;have hil2:(i:Int)<(nl:Int):=by omega
    have a0:w7.cell? ⟨wr.heap.size,0,none⟩=some (.string a.f0):=(cell_row E7.out 0).trans rfl
    by_cases hbad:0<nC/\¬ x.times=3
    ·obtain ⟨hz,ht⟩:=hbad
     have hq1:decide (1<q)=true:=by rw [hq];simp;omega
     have HQ:=hid hq;have HZ:=hid hz;clear hq hz hnC'
     have HBAD:Hid (RES=.error ⟨55,a.f1,a.f0⟩):=hid (by
      rw [<- HRES.out];unfold listedR;rw [<- L6.out.rd,readL_hit HX.out];rw [HRA.out,if_pos];rw [named_some,show decide (x.times≠3)=true from by simp [ht],Bool.and_true,HNC.out]
      simp [HZ.out])
     have ht1:(x.times != 3)=true:=by simp [ht]
     have ht2:(x.times == 3)=false:=by simp [ht]
     go_wp2_with fail
     go_region
     go_upto_if 69 with fail
     go_wp2_with fail
     have hgE:=(HG.out.keeps HK7.out).g55;have a1:w7.cell? ⟨wr.heap.size,1,none⟩=some (.int .i64 a.f1.f0):=(cell_row E7.out 1).trans rfl;have a2:w7.cell? ⟨wr.heap.size,2,none⟩=some (.int .i64 a.f1.f1):=(cell_row E7.out 2).trans rfl;have a3:w7.cell? ⟨wr.heap.size,3,none⟩=some (.int .i64 a.f1.f2):=(cell_row E7.out 3).trans rfl
     go_region
     go_wp2_with fail
     go_ret2
     rw [HBAD.out];have hB7:=alloc_below w7 (.cells #[errI eb 55,.int .i64 a.f1.f0,.int .i64 a.f1.f1,.int .i64 a.f1.f2,.string a.f0] 131)
     refine ⟨(L6.out.old.trans G67.out).trans (Go.Proofs.YtmfejjlmflgnbaaGreatDoor.Sc.below_grown (r:=some sm) hB7.drew.drew),HS7.out.any.kept (Go.Proofs.YtmfejjlmflgnbaaGreatDoor.Sc.below_grown (r:=none) hB7.drew.drew) (by simp),w7.heap.size,rfl,by have:=L6.out.old.size;have:=G67.out.size;omega,?_⟩
     exact heap_alloc_new w7 _
    ·have HRB:Hid (readA rs obj l G a=attrR rs obj x a):=hid (by
      rw [HRA.out,if_neg];rw [named_some,HNC.out];intro h;simp only [Bool.and_eq_true,decide_eq_true_eq] at h
      exact hbad h)
     go_upto_region 10 with fail
     go_cut [69] from 54 to 69 (fun v69 wx=>v69=.bool false/\wx=w7.drew)
     case first =>
      rcases Nat.eq_zero_or_pos nC with hz | hz
      ·have hq1:q=1:=by rw [hq,hz];rfl
       subst hq1;clear hq hz hnC' hbad
       go_region
       go_wp2_with fail
       go_meet
       exact ⟨rfl,rfl⟩
      ·have hq1:decide (1<q)=true:=by rw [hq];simp;omega
       have ht:x.times=3:=by
        by_cases ht:x.times=3
        ·exact ht
        ·exact absurd ⟨hz,ht⟩ hbad
       rw [ht] at z9;clear hq hz hnC' hbad ht
       go_region
       go_wp2_with fail
       go_meet
       exact ⟨rfl,rfl⟩
     case rest =>
      obtain ⟨hv,hw⟩:=hcut;subst hv hw;clear hq hnC' hbad;obtain ⟨ra,hra⟩:∃ ra,attrR rs obj x a=ra:=⟨_,rfl⟩
      have HC8:Hid (∀ W,Below w7.heap.size w7 W->Calls Tryz.prog 105 #[.pointer (some ⟨rb,0,none⟩),.string obj,.agg #[.string x.obj,.string x.un,.string x.uw,.string x.name,.int .i64 x.want,.slice A5 x.words.length c5,.int .u32 x.lo,.int .u32 x.hi,.bool x.auto,.int .i64 x.times,.string x.dflt],.agg #[.string a.f0,.int .i64 a.f1.f0,.int .i64 a.f1.f1,.int .i64 a.f1.f2,.int .i64 a.f2.f0,.string a.f2.f1,.int .u32 a.f2.f2,.bool a.f2.f3,.bool a.f3,.slice A9 a.f4.length c9,.bool a.f5,.string a.f6]] W fun ev w'=>∃ (y:SE) (Ap:Option Addr) (np cp:Nat) (er:Value),ev=.returned (.tuple #[.agg #[.string y.name,.int .i64 y.spot.f0,.int .i64 y.spot.f1,.int .i64 y.spot.f2,.int .u32 y.num,.bool y.auto,.string y.word,.slice Ap np cp],er])/\Below W.heap.size W w'/\AttrU eb ra W.heap.size w' (fun _=>True) y Ap np cp er):=hid (fun W hB=>by
       rw [<- hra];have hk:=HK7.out.trans (keeps_below hB)
       exact (HAT.out a x A5 c5 A9 c9 W HAS.out ⟨hk _ _ HR.out.rows,hk _ _ HR.out.seen,cl_C clRow hk HR.out.row,HS7.out.any.kept (Go.Proofs.YtmfejjlmflgnbaaGreatDoor.Sc.below_grown (r:=none) hB) (by simp),HR.out.df,HR.out.len⟩ (Kd.C_below HC5.out hB) (cl_C clAttr (HK67.out.trans (keeps_below hB)) HC96.out) HXN.out (HG.out.keeps hk)).mono (fun ev w' h=>attr_u h))
      rw [hra] at HRB;have HEN:Hid (∀ e,ra=.ok e->e.name=a.f0):=hid (fun e h=>attrR_name (hra.trans h));clear hra;have HPK:=hid (And.intro a0 (And.intro z0 (And.intro z1 (And.intro z2 (And.intro z3 (And.intro z4 (And.intro z5 (And.intro z6 (And.intro z7 (And.intro z8 (And.intro z9 z10)))))))))));clear a0 z0 z1 z2 z3 z4 z5 z6 z7 z8 z9 z10
      go_upto_if 69 with fail
      go_wp2_with fail
      clear hlk7 m7
      apply once
      case h1 =>
       intro key;obtain ⟨a0,z0,z1,z2,z3,z4,z5,z6,z7,z8,z9,z10⟩:=HPK.out;have a1:w7.cell? ⟨wr.heap.size,1,none⟩=some (.int .i64 a.f1.f0):=(cell_row E7.out 1).trans rfl;have a2:w7.cell? ⟨wr.heap.size,2,none⟩=some (.int .i64 a.f1.f1):=(cell_row E7.out 2).trans rfl;have a3:w7.cell? ⟨wr.heap.size,3,none⟩=some (.int .i64 a.f1.f2):=(cell_row E7.out 3).trans rfl;have a4:w7.cell? ⟨wr.heap.size,4,none⟩=some (.int .i64 a.f2.f0):=(cell_row E7.out 4).trans rfl;have a5:w7.cell? ⟨wr.heap.size,5,none⟩=some (.string a.f2.f1):=(cell_row E7.out 5).trans rfl;have a6:w7.cell? ⟨wr.heap.size,6,none⟩=some (.int .u32 a.f2.f2):=(cell_row E7.out 6).trans rfl;have a7:w7.cell? ⟨wr.heap.size,7,none⟩=some (.bool a.f2.f3):=(cell_row E7.out 7).trans rfl;have a8:w7.cell? ⟨wr.heap.size,8,none⟩=some (.bool a.f3):=(cell_row E7.out 8).trans rfl;have a9:w7.cell? ⟨wr.heap.size,9,none⟩=some (.slice A9 a.f4.length c9):=(cell_row E7.out 9).trans rfl;have a10:w7.cell? ⟨wr.heap.size,10,none⟩=some (.bool a.f5):=(cell_row E7.out 10).trans rfl;have a11:w7.cell? ⟨wr.heap.size,11,none⟩=some (.string a.f6):=(cell_row E7.out 11).trans rfl;have hq1:wr.heap.size<w7.heap.size:=lC w7 _ a0;have hq2:(ad2.add (i*11)).block<w7.heap.size:=lC w7 _ z0
       go_region_with (first
        | (go_at_call 105;refine (HC8.out _ (by first | exact (alloc_below w7 _).drew.drew | exact (alloc_below w7.drew _).drew | exact alloc_below w7.drew.drew _)).mono ?_;rintro ev w8 ⟨y,Ap,np,cp,er,rfl,hB8,hU⟩;have h16:=(hB8.block w7.heap.size (by simp)).trans (heap_alloc_new w7 (.cells #[.string ⟨#[]⟩,.int .i64 0,.int .i64 0,.int .i64 0,.int .u32 0,.bool false,.string ⟨#[]⟩,.slice none 0 0] 80));obtain ⟨g0,g1,g2,g3,g4,g5,g6,g7⟩:=ent_cells h16;have gf:∀ k,w8.frozen? ⟨w7.heap.size,k,none⟩=false:=fun k=>frozen_row h16 k;have H16:=hid h16;have B8:=hid (alloc_first (w:=w7) hB8 (by simp) (by first | exact (alloc_below w7 _).drew.drew | exact (alloc_below w7.drew _).drew | exact alloc_below w7.drew.drew _));have U8:=hid hU;clear hB8 hU h16)
        | (go_at_call 105;refine (HC8.out _ (by first | exact (Below.refl _ _).drew.drew)).mono ?_;rintro ev w8 ⟨y,Ap,np,cp,er,rfl,hB8,hU⟩;have B8:=hid (below_undrew hB8);have U8:=hid hU;clear hB8 hU))
       all_goals
        clear a0 a1 a2 a3 a4 a5 a6 a7 a8 a9 a10 a11 z0 z1 z2 z3 z4 z5 z6 z7 z8 z9 z10 hq1 hq2
        try clear g0 g1 g2 g3 g4 g5 g6 g7 gf
        first
         | (obtain ⟨w9,hw9⟩:∃ w9:World,w9=w8.alloc (.cells #[.string y.name,.int .i64 y.spot.f0,.int .i64 y.spot.f1,.int .i64 y.spot.f2,.int .u32 y.num,.bool y.auto,.string y.word,.slice Ap np cp] 80):=⟨_,rfl⟩
            rw [<- hw9];obtain ⟨F1,F2,F3,F4⟩:=u_last hw9 (by rfl) U8.out B8.out;clear hw9 U8 B8;obtain ⟨g16,hg16⟩:∃ g16,g16=w8.heap.size:=⟨_,rfl⟩;rw [<- hg16] at F1 F3 F4 ⊢
            clear hg16)
         | (generalize hw9:World.setCell _ _ (.slice Ap np cp)=w9
            obtain ⟨F1,F2,F3,F4⟩:=u_first H16.out hw9 (by first | rfl | simp) U8.out B8.out;clear hw9 U8 B8 H16;obtain ⟨g16,hg16⟩:∃ g16,g16=w7.heap.size:=⟨_,rfl⟩;replace F1:Hid (w9.heap[g16]?=some (.cells #[.string y.name,.int .i64 y.spot.f0,.int .i64 y.spot.f1,.int .i64 y.spot.f2,.int .u32 y.num,.bool y.auto,.string y.word,.slice Ap np cp] 80 (0,0))):=hid (by rw [hg16];exact F1.out);replace F3:Hid (w7.heap.size<=g16/\g16<w9.heap.size):=hid (by rw [hg16];exact F3.out);replace F4:Hid (AttrU eb ra w7.heap.size w9 (fun k=>k≠g16) y Ap np cp er):=hid (by rw [hg16];exact F4.out);rw [<- hg16]
            clear hg16)
        revert F4;revert F3;revert F2;revert F1;revert er;revert cp;revert np;revert Ap;revert y;revert g16;revert w9;exact key.out
      case h2 =>
       intro w9 g16 y Ap np cp er F1 F2 F3 F4;cases ra with
       | error f =>
        obtain ⟨b,rfl,hF⟩:=F4.out
        have HBAD:Hid (RES=.error f):=hid (by
         rw [<- HRES.out];unfold listedR
         rw [<- L6.out.rd,readL_hit HX.out HRB.out])
        go_wp2_with fail
        go_ret2
        rw [HBAD.out]
        refine ⟨(L6.out.old.trans G67.out).trans (Go.Proofs.YtmfejjlmflgnbaaGreatDoor.Sc.below_grown (r:=some sm) F2.out),HS7.out.any.kept (Go.Proofs.YtmfejjlmflgnbaaGreatDoor.Sc.below_grown (r:=none) F2.out) (by simp),b,rfl,?_,hF.2⟩
        have h1:=hF.1;have h2:=L6.out.old.size;have h3:=G67.out.size;omega
       | ok e =>
        obtain ⟨rfl,rfl,rfl,hRe⟩:=F4.out;have HRE:=hid hRe;have HNE:Hid (y.name=a.f0):=hid (HEN.out y rfl);clear F4 hRe;have RW6:=hid (L6.out.rws)
        have RW9:Hid (Rws w9 w.heap.size V G):=hid (by
         obtain ⟨es,cl2,hb⟩:=L6.out.seen.any.block
         exact (L6.out.rws.map hb G67.out).below F2.out)
        have GT9:Hid (Got w9 W2.heap.size j V):=hid ((L6.out.got.kept G67.out (fun e=>by injection e with e;have:=HMUL.out;have:=HSZ.out;omega)).kept (Go.Proofs.YtmfejjlmflgnbaaGreatDoor.Sc.below_grown (r:=none) F2.out) (by simp));have hkm:j<maxLen:=by unfold maxLen;have:=HL.out;omega
        obtain ⟨Av,cv,hVn⟩:=RForm (RW9.out a.f0);have hlk9:=got_look (w:=w9.drew) GT9.out hsm;rw [hVn] at hlk9;have hlk8:=fun (X:Obj)=>got_look (w:=(w9.alloc X).drew) (Got.kept (w:=w9) (w':=w9.alloc X) GT9.out (Go.Proofs.YtmfejjlmflgnbaaGreatDoor.Sc.below_grown (r:=none) (alloc_below w9 X)) (by simp)) hsm;rw [hVn] at hlk8;have HVN:=hid hVn;have hnl2:(named G a.f0).length<=1073741824:=by have:=named_len G a.f0;have:=L6.out.len;have:=HL.out;omega
        have HNL2:=hid hnl2;have n9:w9.cell? ⟨wr.heap.size,0,none⟩=some (.string a.f0):=(F2.out.cell (lC w7 _ ((cell_row E7.out 0).trans rfl))).trans ((cell_row E7.out 0).trans rfl);obtain ⟨g0,g1,g2,g3,g4,g5,g6,g7⟩:=ent_cells F1.out;have hq1:wr.heap.size<w9.heap.size:=lC w9 _ n9;have hq2:g16<w9.heap.size:=F3.out.2;clear hVn hnl2
        go_wp2_with fail
        have HPM:Hid (kEnt.M w9.drew w.heap.size (fun k=>w7.heap.size<=k) y [.string y.name,.int .i64 y.spot.f0,.int .i64 y.spot.f1,.int .i64 y.spot.f2,.int .u32 y.num,.bool y.auto,.string y.word,.slice Ap y.params.length cp]):=hid (kEnt_mkM w9.drew w.heap.size _ y (Kd.R_lower (Kd.R_mono (Kd.R_bound (Kd.R_drew HRE.out)) (fun k hk=>hk.2.1)) (by have h1:=L6.out.old.size;have h2:=G67.out.size;omega)));have HOK1:Hid (∀ k,w7.heap.size<=k->okS V a.f0 k/\some k≠(Value.slice Av (named G a.f0).length cv).ownBlock):=hid (fun k hk=>⟨fun t _ he=>by have h1:=RW6.out.lt t he;have h2:=G67.out.size;omega,fun he=>by rw [<- HVN.out] at he;have h1:=RW6.out.lt a.f0 he.symm;have h2:=G67.out.size;omega⟩);have HOK2:Hid (∀ k,w9.drew.heap.size<=k->okS V a.f0 k):=hid (fun k hk=>(HOK1.out k (by have h1:=F2.out.size;have h2:w9.drew.heap.size=w9.heap.size:=rfl;omega)).1)
        have HRO:Hid (Kd.R kEnt 80 w9.drew w.heap.size (okS V a.f0) (.slice Av (named G a.f0).length cv) (named G a.f0)):=hid (by
         have h:=RW9.out a.f0;rw [HVN.out] at h
         exact Kd.R_drew h)
        have HLE:Hid (w.heap.size<=w9.drew.heap.size):=hid (by have h1:=L6.out.old.size;have h2:=G67.out.size;have h3:=F2.out.size;have h4:w9.drew.heap.size=w9.heap.size:=rfl;omega)
        have HN94:Hid (∀ w1:World,w9.drew.grownBy w1 (Value.slice Av (named G a.f0).length cv).ownBlock->w1.cell? ⟨wr.heap.size,0,none⟩=some (.string a.f0)):=hid (fun w1 hg=>by
         have he:=(F2.out.block wr.heap.size (gS.1 E7.out).1).trans E7.out;have h1:w1.heap[wr.heap.size]?=some (.cells (attC a A9 c9) 50 (0,0)):=(hg.block _ (gS.1 he).1 (Kd.R_ne HRO.out he (by decide))).trans he
         exact (cell_row h1 0).trans rfl)
        have HMP:Hid (∀ (w1:World) (v1:Value),w9.drew.grownBy w1 (Value.slice Av (named G a.f0).length cv).ownBlock->∃ w2,(Instr.mapUpdate 180 (.map (some W2.heap.size)) (.string a.f0) v1).run Tryz.prog w1=.ok () w2/\Got w2 W2.heap.size (j + 1) (fun t=>if t=a.f0 then v1 else V t)/\w1.grownBy w2 (some W2.heap.size)):=hid (fun w1 v1 hg=>by
         obtain ⟨es,cl2,hb⟩:=GT9.out.block
         exact got_put (Got.kept (w:=w9.drew) GT9.out hg (R_notmap HRO.out hb)) hkm hsm v1)
        clear hkm;have HPK9:=hid (And.intro g0 (And.intro g1 (And.intro g2 (And.intro g3 (And.intro g4 (And.intro g5 (And.intro g6 (And.intro g7 (And.intro n9 (And.intro hlk9 (And.intro hlk8 (And.intro hq1 hq2))))))))))));clear g0 g1 g2 g3 g4 g5 g6 g7 n9 hlk9 hlk8 hq1 hq2
        apply once
        case h1 =>
         intro key;obtain ⟨g0,g1,g2,g3,g4,g5,g6,g7,n9,hlk9,hlk8,hq1,hq2⟩:=HPK9.out
         go_region_law (refine Kd.R_append_step kEnt (w0:=w9) (W:=w9.drew) w.heap.size rfl (.tmp 98) (.tmp 100) 76 80 (.agg ent0) 88 rfl Tryz.underlying76 infoEnt rfl (show 0<8 by decide) (by omega) (.slice Av (named G a.f0).length cv) (named G a.f0) y [.string y.name,.int .i64 y.spot.f0,.int .i64 y.spot.f1,.int .i64 y.spot.f2,.int .u32 y.num,.bool y.auto,.string y.word,.slice Ap y.params.length cp] (okS V a.f0) (fun k=>w7.heap.size<=k) rfl rfl HPM.out HOK1.out HOK2.out HRO.out (Below.refl _ _).drew HLE.out (by have:=HNL2.out;omega) ?_;intro v1 w1 ho hb hg hat;obtain ⟨w2,hm2,hGot2,hg2⟩:=HMP.out w1 v1 hg;have n1:=HN94.out w1 hg;have RO:=hid ho;have RG:=hid hg;have RA:=hid hat;have RT:=hid hGot2;have RG2:=hid hg2;clear ho hb hg hat hGot2 hg2)
         all_goals
          clear n1 hm2;revert RG2;revert RT;revert RA;revert RG;revert RO;revert w2;revert w1;revert v1;exact key.out
        case h2 =>
         intro v1 w1 w2 RO RG RA RT RG2;have HN2:=hid (HSZ.out)
         go_wp2_with fail
         exact ⟨⟨j + 1,G++[y],updV V a.f0 v1,by go_num,by omega,hid (L1.next (eb:=eb) L6.out HX.out HRB.out HNE.out rfl HMUL.out (by have:=HSZ.out;omega) G67.out HS7.out F2.out RO.out (by rw [HVN.out];exact drew_grown RG.out) (by rw [HVN.out];exact RA.out) RT.out RG2.out)⟩,by simp [intOf];omega⟩
  ·obtain rfl:j=n:=by omega
   obtain ⟨wa,hwa⟩:∃ wa,wa=wr:=⟨_,rfl⟩;subst hwa
   have HOUT:Hid (outR G sp l=RES):=hid (by
    have h:=HL1.out.rd;rw [List.drop_eq_nil_of_le (by rw [HN.out];exact Nat.le_refl _),readL_nil] at h;rw [<- HRES.out];unfold listedR
    rw [<- h])
   have HGL:Hid (G.length<=1073741824):=hid (by have:=HL1.out.len;have:=HL.out;omega);have HK:Hid (Keeps w wa):=hid (keeps_grown_map HR.out.map HL1.out.old);have HWW:Hid (w.heap.size<wa.heap.size):=hid (by have:=HL1.out.box;exact (gS.1 this).1)
   go_wp2_with fail
   go_loopw [18,105] (fun ov v W=>∃ (k:Nat) (o:List SE),v=.int .i64 (k:Int)/\k<=nl/\Hid (L2 RES sp l G w wa k o ov W)) (fun _ v _=>nl - (intOf v).toNat)
   case atStart=>exact ⟨0,[],by go_num,by omega,hid ⟨by rw [List.drop_zero,outTo_start];exact HOUT.out,Kd.R_nil _ _ _ _ (fun _=>True),fun b hb=>by simp [Value.ownBlock] at hb,Below.refl _ _,by simp⟩⟩
   case round =>
    obtain ⟨k,o,rfl,hk,HL2⟩:=hrel;obtain ⟨Ao,co,hov⟩:=RForm HL2.out.row;subst hov;have hlb:nl<=1000:=HLL.out
    by_cases hlt:k<nl
    ·have hx:l[k]?=some (l[k]'(by rw [HNL.out];exact hlt)):=List.getElem?_eq_getElem _
     obtain ⟨ad,A5,c5,eA,x0,x1,x2,x3,x4,x5,x6,x7,x8,x9,x10,l5,C5⟩:=at_Row (cl_C clRow (HK.out.trans (keeps_below HL2.out.bel)) HCL.out) (k:Int) (by omega) (by omega);rw [row_at l k _ hx] at x0 x1 x2 x3 x4 x5 x6 x7 x8 x9 x10 l5 C5;generalize (l[k]'(by rw [HNL.out];exact hlt))=x at hx x0 x1 x2 x3 x4 x5 x6 x7 x8 x9 x10 l5 C5;cases eA;simp only [Int.toNat_natCast] at x0 x1 x2 x3 x4 x5 x6 x7 x8 x9 x10;have HX:=hid hx;have HDX:=hid (HDF.out x (List.mem_of_getElem? hx));have hsm:x.name.size<=maxLen:=by unfold maxLen;have:=HDX.out.2;omega
     clear hx C5 l5;have tk1:True:=trivial
     go_upto_region 21 with (first
      | (have _t:=tk1;refine run_event rfl (.alloc 60) rfl (.pointer (some ⟨wr.heap.size,0,none⟩)) (wr.alloc (.cells row0 60)) (by kernel_rfl) ?_;intro w4 hw4;have B4:Hid (Below wr.heap.size wr w4):=hid (by rw [hw4];exact alloc_below _ _);have E4:Hid (w4.heap[wr.heap.size]?=some (.cells row0 60 (0,0))):=hid (by rw [hw4];exact heap_alloc_new _ _);clear hw4 tk1 _t)
      | ((with_reducible refine gate_store (t:=60) (p:=20) rfl ?_);refine put_event rfl 60 _ _ rfl wr.heap.size (rowC x A5 c5) rfl rfl 60 row0 E4.out (by kernel_rfl) rfl (row_all _ _ _) wr.heap.size (Nat.le_refl _) ?_;intro w5 hb5 hB5 hs5 ho5;have E5:=hid hb5;have B5:Hid (Below wr.heap.size wr w5):=hid (B4.out.trans hB5);clear hb5 hB5 hs5 ho5 x0 x1 x2 x3 x4 x5 x6 x7 x8 x9 x10;refine unheld ?_))
     unfold Held;clear B4 E4;have BW5:Hid (Below wa.heap.size wa w5):=hid (HL2.out.bel.trans (B5.out.mono HL2.out.bel.size));have RO5:Hid (Kd.R kEnt 80 w5 w.heap.size (fun _=>True) (.slice Ao o.length co) o):=hid (Kd.R_below HL2.out.row B5.out);have GT5:Hid (Got w5 W2.heap.size j V):=hid (HL1.out.got.kept (Go.Proofs.YtmfejjlmflgnbaaGreatDoor.Sc.below_grown (r:=none) BW5.out) (by simp));obtain ⟨Av,cv,hVn,hRd⟩:=rws_reads HL1.out.rws BW5.out x.name;have HRD:=hid hRd;have hlk:=got_look GT5.out hsm;rw [hVn] at hlk;have HNL2:Hid ((named G x.name).length<=1073741824):=hid (by have:=named_len G x.name;have:=HGL.out;omega);have HOL:Hid (o.length<=1073741825000):=hid (by have h1:=HL2.out.len;have h2:=HLL.out;have h3:k*1073741825<=1000*1073741825:=Nat.mul_le_mul_right _ (by omega);omega);have y3:w5.cell? ⟨wr.heap.size,3,none⟩=some (.string x.name):=(cell_row E5.out 3).trans rfl;have y9:w5.cell? ⟨wr.heap.size,9,none⟩=some (.int .i64 x.times):=(cell_row E5.out 9).trans rfl;clear hVn hRd hsm;obtain ⟨ys,hys⟩:∃ ys,named G x.name=ys:=⟨_,rfl⟩;have HYS:=hid hys;rw [hys] at HRD hlk HNL2;clear hys;generalize hnv:ys.length=nv at *;have HNV:=hid hnv;clear hnv
     by_cases hz:nv=0
     ·subst hz
      have HYE:Hid (ys=[]):=hid (List.length_eq_zero_iff.1 HNV.out)
      by_cases ht1:x.times=1
      ·have HBAD:Hid (RES=.error ⟨54,sp,x.name⟩):=hid (by
        rw [<- HL2.out.out]
        exact outTo_bad HX.out (by rw [HYS.out,HYE.out];simp [ht1]))
       have ht2:(x.times == 1)=true:=by simp [ht1]
       have hgE:=(HG.out.keeps (HK.out.trans (keeps_below BW5.out))).g54;obtain ⟨s0,s1,s2⟩:=spot_read ((BW5.out.block _ HWW.out).trans HL1.out.box)
       go_wp2_with fail
       go_region
       go_wp2_with fail
       go_ret2
       rw [HBAD.out];have hB7:=alloc_below w5 (.cells #[errI eb 54,.int .i64 sp.f0,.int .i64 sp.f1,.int .i64 sp.f2,.string x.name] 131);have hBW:=BW5.out.trans (hB7.drew.mono BW5.out.size)
       refine ⟨HL1.out.old.trans (Go.Proofs.YtmfejjlmflgnbaaGreatDoor.Sc.below_grown (r:=some sm) hBW),HL1.out.seen.any.kept (Go.Proofs.YtmfejjlmflgnbaaGreatDoor.Sc.below_grown (r:=none) hBW) (by simp),w5.heap.size,rfl,by have:=HWW.out;have:=BW5.out.size;omega,?_⟩
       exact heap_alloc_new w5 _
      ·have ht2:(x.times == 1)=false:=by simp [ht1]
       by_cases ht3:x.times=2
       ·have ht4:(x.times == 2)=true:=by simp [ht3]
        have HGO:Hid (outTo G sp (o++[dfltR x]) (l.drop (k + 1))=RES):=hid (by
         rw [<- HL2.out.out,outTo_go HX.out (by rw [HYS.out,HYE.out];simp [ht1]),HYS.out,HYE.out]
         simp [ht3])
        have y0:w5.cell? ⟨wr.heap.size,0,none⟩=some (.string x.obj):=(cell_row E5.out 0).trans rfl;have y1:w5.cell? ⟨wr.heap.size,1,none⟩=some (.string x.un):=(cell_row E5.out 1).trans rfl;have y2:w5.cell? ⟨wr.heap.size,2,none⟩=some (.string x.uw):=(cell_row E5.out 2).trans rfl;have y4:w5.cell? ⟨wr.heap.size,4,none⟩=some (.int .i64 x.want):=(cell_row E5.out 4).trans rfl;have y5:w5.cell? ⟨wr.heap.size,5,none⟩=some (.slice A5 x.words.length c5):=(cell_row E5.out 5).trans rfl;have y6:w5.cell? ⟨wr.heap.size,6,none⟩=some (.int .u32 x.lo):=(cell_row E5.out 6).trans rfl;have y7:w5.cell? ⟨wr.heap.size,7,none⟩=some (.int .u32 x.hi):=(cell_row E5.out 7).trans rfl;have y8:w5.cell? ⟨wr.heap.size,8,none⟩=some (.bool x.auto):=(cell_row E5.out 8).trans rfl;have y10:w5.cell? ⟨wr.heap.size,10,none⟩=some (.string x.dflt):=(cell_row E5.out 10).trans rfl;have HDF2:Hid (Calls Tryz.prog 106 #[.agg #[.string x.obj,.string x.un,.string x.uw,.string x.name,.int .i64 x.want,.slice A5 x.words.length c5,.int .u32 x.lo,.int .u32 x.hi,.bool x.auto,.int .i64 x.times,.string x.dflt]] w5 fun e w'=>e=.returned (.agg #[.string (dfltR x).name,.int .i64 (dfltR x).spot.f0,.int .i64 (dfltR x).spot.f1,.int .i64 (dfltR x).spot.f2,.int .u32 (dfltR x).num,.bool (dfltR x).auto,.string (dfltR x).word,.slice none 0 0])/\Below w5.heap.size w5 w'):=hid (byDefault_calls x A5 c5 w5 (HDX.out.1 ht3));have HDP:Hid ((dfltR x).params=[]):=hid (by unfold dfltR;by_cases h1:x.dflt=sAuto <;> by_cases h2:x.want=1 <;> simp [h1,h2]);generalize dfltR x=dx at HGO HDF2 HDP;clear ht3 ht1
        go_wp2_with (first
         | (go_at_call 106;refine HDF2.out.mono ?_;rintro e w6 ⟨rfl,hB6⟩;have BW6:=hid (BW5.out.trans (hB6.mono BW5.out.size));have RO6:=hid (Kd.R_below RO5.out hB6);clear hB6 y0 y1 y2 y3 y4 y5 y6 y7 y8 y9 y10 hlk)
         | (at_builtin;refine Kd.R_append kEnt (w0:=w6) w.heap.size rfl (.tmp 141) (.tmp 142) 76 80 (.agg ent0) 88 rfl Tryz.underlying76 infoEnt rfl (show 0<8 by decide) (by omega) (.slice Ao o.length co) o dx [.string dx.name,.int .i64 dx.spot.f0,.int .i64 dx.spot.f1,.int .i64 dx.spot.f2,.int .u32 dx.num,.bool dx.auto,.string dx.word,.slice none 0 0] (fun _=>True) (fun _=>False) rfl rfl (kEnt_mkM w6 w.heap.size _ dx (by rw [HDP.out];exact Kd.R_nil _ _ _ _ _)) (fun _ h=>h.elim) (fun _ _=>trivial) RO6.out (Below.refl _ _) (by have:=HWW.out;have:=BW6.out.size;omega) (by have:=HOL.out;omega) ?_;intro v7 w7 ho hb hg hat;have R7:=hid ho;have G7:=hid hg;have A7:=hid hat;clear ho hb hg hat))
        exact ⟨⟨k + 1,o++[dx],by go_num,by omega,hid ⟨HGO.out,R7.out,own_at HL2.out.own A7.out BW6.out.size,below_own BW6.out G7.out HL2.out.own,by have:=HL2.out.len;simp;omega⟩⟩,by simp [intOf];omega⟩
       ·have ht4:(x.times == 2)=false:=by simp [ht3]
        have HGO:Hid (outTo G sp (o++ys) (l.drop (k + 1))=RES):=hid (by
         rw [<- HL2.out.out,outTo_go HX.out (by rw [HYS.out,HYE.out];simp [ht1]),HYS.out,HYE.out]
         simp [ht3])
        go_wp2_with (first
         | (at_builtin;refine Kd.R_append_rows kEnt (Rr:=kEnt.M w5 w.heap.size (fun k=>k<wa.heap.size)) (w0:=w5) w.heap.size rfl (.tmp 141) (.tmp 142) 76 80 (.agg ent0) 88 rfl Tryz.underlying76 infoEnt rfl (show 0<8 by decide) (by omega) (.slice Ao o.length co) o ys Av 0 cv (fun _=>True) (fun k=>k<wa.heap.size) rfl rfl RO5.out HRD.out (fun _ _ h=>h) (fun q hq=>⟨trivial,fun e=>by have:=HL2.out.own q e.symm;omega⟩) (fun _ _=>trivial) (Below.refl _ _) (by have:=HWW.out;have:=BW5.out.size;omega) (by have:=HOL.out;have:=HNL2.out;omega) ?_;intro v7 w7 ho hb hg hat;have R7:=hid ho;have G7:=hid hg;have A7:=hid hat;clear ho hb hg hat hlk y3 y9))
        exact ⟨⟨k + 1,o++ys,by go_num,by omega,hid ⟨HGO.out,R7.out,own_at HL2.out.own A7.out BW5.out.size,below_own BW5.out G7.out HL2.out.own,by have h1:=HL2.out.len;have h2:=HNL2.out;have h3:=HNV.out;rw [List.length_append];omega⟩⟩,by simp [intOf];omega⟩
     ·have hz1:(nv == 0)=false:=by simp [hz]
      have hz2:((nv:Int) == 0)=false:=by simp;omega
      have HYE:Hid (ys.isEmpty=false):=hid (by
       cases ys with
       | nil=>exact absurd HNV.out.symm hz
       | cons q r=>rfl)
      have HGO:Hid (outTo G sp (o++ys) (l.drop (k + 1))=RES):=hid (by
       rw [<- HL2.out.out,outTo_go HX.out (by rw [HYS.out,HYE.out];rfl),HYS.out,HYE.out]
       rfl)
      go_wp2_with (first
       | (at_builtin;refine Kd.R_append_rows kEnt (Rr:=kEnt.M w5 w.heap.size (fun k=>k<wa.heap.size)) (w0:=w5) w.heap.size rfl (.tmp 141) (.tmp 142) 76 80 (.agg ent0) 88 rfl Tryz.underlying76 infoEnt rfl (show 0<8 by decide) (by omega) (.slice Ao o.length co) o ys Av nv cv (fun _=>True) (fun k=>k<wa.heap.size) rfl rfl RO5.out HRD.out (fun _ _ h=>h) (fun q hq=>⟨trivial,fun e=>by have:=HL2.out.own q e.symm;omega⟩) (fun _ _=>trivial) (Below.refl _ _) (by have:=HWW.out;have:=BW5.out.size;omega) (by have:=HOL.out;have:=HNL2.out;omega) ?_;intro v7 w7 ho hb hg hat;have R7:=hid ho;have G7:=hid hg;have A7:=hid hat;clear ho hb hg hat hlk y3 y9))
      exact ⟨⟨k + 1,o++ys,by go_num,by omega,hid ⟨HGO.out,R7.out,own_at HL2.out.own A7.out BW5.out.size,below_own BW5.out G7.out HL2.out.own,by have h1:=HL2.out.len;have h2:=HNL2.out;have h3:=HNV.out;rw [List.length_append];omega⟩⟩,by simp [intOf];omega⟩
    ·obtain rfl:k=nl:=by omega
     have HEND:Hid (RES=.ok o):=hid (by
      have h:=HL2.out.out;rw [List.drop_eq_nil_of_le (by rw [HNL.out];exact Nat.le_refl _),outTo_end] at h
      exact h.symm)
     go_wp2_with fail
     go_ret2
     rw [HEND.out];exact ⟨HL1.out.old.trans (Go.Proofs.YtmfejjlmflgnbaaGreatDoor.Sc.below_grown (r:=some sm) HL2.out.bel),HL1.out.seen.any.kept (Go.Proofs.YtmfejjlmflgnbaaGreatDoor.Sc.below_grown (r:=none) HL2.out.bel) (by simp),_,rfl,HL2.out.row⟩
theorem attrs_all (eb:Int->Addr) (rs:List SR) (m:Nat):AttrsC eb rs m:=by
 induction m using Nat.strongRecOn with
 | _ m ih=>exact attrs_step eb rs m ih
theorem attrs_calls (eb:Int->Addr) (rs:List SR) (ats:List SA) (obj:ByteArray) (l:List SR) (sp:SP) (rb sm:Nat) (A:Option Addr) (c:Nat) (Al:Option Addr) (cl:Nat) (As:Option Addr) (cs:Nat) (w:World) (hs:szL ats<=1073741824) (hR:RdAt w rb sm rs A c) (hl:Kd.C kRow w Al l.length l) (hd:DfL l) (hn:l.length<=1000) (ha:Kd.C k50 w As ats.length ats) (hG:EGlob eb w) :
  Calls Tryz.prog 66 #[.pointer (some ⟨rb,0,none⟩),.string obj,.slice Al l.length cl,.slice As ats.length cs,spotV sp] w (AttrsPost eb (listedR rs obj l ats sp) sm w) :=
 attrs_all eb rs (szL ats) ats obj l sp rb sm A c Al cl As cs w (Nat.le_refl _) hs hR hl hd hn ha hG
theorem readO_code {rows:List SR} {o:SO} {f:SF} (h:readO rows o=.error f):CodeOk f:=by
 unfold readO at h
 split at h
 ·cases h;exact cOk _ _ _ (by decide)
 ·cases hl:listedR rows o.f0 (underR rows o.f0 ⟨#[]⟩ ⟨#[]⟩) o.f3 o.f2 with
  | error f' =>
   rw [hl] at h;cases h;exact listed_code rows _ _ _ _ _ _ (Nat.le_refl _) hl
  | ok l=>rw [hl] at h;cases h
theorem readOs_nil (rows:List SR) (acc:List SI):readOs rows acc []=.ok acc:=rfl
theorem readOs_hit {rows:List SR} {acc:List SI} {l:List SO} {j:Nat} {o:SO} {f:SF} (h:l[j]?=some o) (hr:readO rows o=.error f):readOs rows acc (l.drop j)=.error f:=by
 obtain ⟨hj,rfl⟩:=List.getElem?_eq_some_iff.1 h;rw [List.drop_eq_getElem_cons hj];unfold readOs;rw [hr]
theorem readOs_go {rows:List SR} {acc:List SI} {l:List SO} {j:Nat} {o:SO} {i:SI} (h:l[j]?=some o) (hr:readO rows o=.ok i):readOs rows acc (l.drop j)=readOs rows (acc++[i]) (l.drop (j + 1)):=by
 obtain ⟨hj,rfl⟩:=List.getElem?_eq_some_iff.1 h;rw [List.drop_eq_getElem_cons hj]
 conv=>lhs;unfold readOs
 rw [hr]
end Go.Proofs.YtmfejjlmflgnbaaGreatDoor.Sc

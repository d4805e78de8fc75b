/- CONTRACT: the document's laid: entries as attributes. -/
import Derived.Test.YtmfejjlmflgnbaaGreatDoorVScWs
import Derived.Test.YtmfejjlmflgnbaaGreatDoorVRef
import Derived.Test.YtmfejjlmflgnbaaGreatDoorVWAt
import Derived.Test.YtmfejjlmflgnbaaGreatDoorVAlk
import Derived.Deep.CutRange
set_option linter.unusedVariables false
set_option linter.unusedSimpArgs false
set_option maxRecDepth 100000
set_option maxHeartbeats 64000000
namespace Go.Proofs.YtmfejjlmflgnbaaGreatDoor.Sc
open RowKit PA YtmfejjlmflgnbaaGreatDoorW.PrintWords YtmfejjlmflgnbaaGreatDoorW.PrintLast YtmfejjlmflgnbaaGreatDoorW.PrintMore Sp Tr Tok
open Go.Lib (hid)
section
variable {P:Program} {ops:Array Oper} {rest:List Oper} {o:Oper} {a:Act} {w:World} {Q:Exit->Act->World->Prop}
theorem cellsS_event (hgd:o.guard=none) (ty:TypeId) (x y:Operand) (ho:o.op=.store ty x y)
  (b off:Nat) (cs:List Value) (hx:a.eval x=.pointer (some ⟨b,off,none⟩)) (hy:a.eval y=.agg cs.toArray) (h1:∀ u ∈ cs,u.oneCell'=true)
  (ht:w.there b off cs.length) (hi:(P.info? ty).map (·.size)=some cs.length)
  (h:∀ w1,w1=w.setCells b off cs->wpList P ops Q rest (a.put o.dst undef) w1):wpList P ops Q (o :: rest) a w:=by
 refine wpList_plain hgd fun K hK=>?_
 unfold Oper.wp execOp;have hc:(Value.agg cs.toArray).cells=cs.toArray:=rfl
 have hrun:(storeVar ty ⟨b,off,none⟩ (.agg cs.toArray)).run P w=.ok () (w.setCells b off cs):=by
  have:=run_storeCells_cells (P:=P) b off cs 0 w (fun j hj=>by simpa using (ht j hj).1) (fun j hj=>by simpa using (ht j hj).2) h1;cases hq:P.info? ty with
  | none=>simp [hq] at hi
  | some i =>
   have hs:i.size=cs.length:=by simpa [hq] using hi
   simp only [Nat.add_zero] at this;simp [storeVar,sizeOf,typeInfo,hq,hc,hs,this]
 simp only [ho,hx,hy,Instr.storeAt,Instr.sureAddr,Sem.run_bind,Sem.run_pure,Result.andThen_ok,hrun];exact hK _ _ (h _ rfl)
end
theorem four_row {w w1:World} {g:Nat} {t:TypeId} {b0 b1 b2 b3 b4 b5 b6 b7 b8 b9 b10 b11 x0 x1 x2 x3:Value} (h:w.heap[g]?=some (.cells #[b0,b1,b2,b3,b4,b5,b6,b7,b8,b9,b10,b11] t (0,0))) (hw:w1=w.setCells g 4 [x0,x1,x2,x3]) :
  w1.heap[g]?=some (.cells #[b0,b1,b2,b3,x0,x1,x2,x3,b8,b9,b10,b11] t (0,0))/\(∀ k,k≠g->w1.heap[k]?=w.heap[k]?)/\∀ B,B<=g->Below B w w1:=by
 have e:w1=((((w.setCell ⟨g,4,none⟩ x0).setCell ⟨g,5,none⟩ x1).setCell ⟨g,6,none⟩ x2).setCell ⟨g,7,none⟩ x3):=hw
 refine ⟨?_,fun k hk=>?_,fun B hB=>?_⟩
 ·rw [e]
  exact setCell_row (setCell_row (setCell_row (setCell_row h x0) x1) x2) x3
 ·rw [e,Below.heap_setCell _ _ _ _ hk,Below.heap_setCell _ _ _ _ hk,Below.heap_setCell _ _ _ _ hk,Below.heap_setCell _ _ _ _ hk]
 ·rw [e]
  exact ((((Below.refl B w).setCell (p:=⟨g,4,none⟩) hB x0).setCell (p:=⟨g,5,none⟩) hB x1).setCell (p:=⟨g,6,none⟩) hB x2).setCell (p:=⟨g,7,none⟩) hB x3
theorem att_cells12 {w:World} {g:Nat} {a0 a1 a2 a3 a4 a5 a6 a7 a8 a9 a10 a11:Value} {t:TypeId} (h:w.heap[g]?=some (.cells #[a0,a1,a2,a3,a4,a5,a6,a7,a8,a9,a10,a11] t (0,0))) :
  w.cell? ⟨g,0,none⟩=some a0/\w.cell? ⟨g,1,none⟩=some a1/\w.cell? ⟨g,2,none⟩=some a2/\w.cell? ⟨g,3,none⟩=some a3/\w.cell? ⟨g,4,none⟩=some a4/\w.cell? ⟨g,5,none⟩=some a5/\w.cell? ⟨g,6,none⟩=some a6/\w.cell? ⟨g,7,none⟩=some a7/\w.cell? ⟨g,8,none⟩=some a8/\w.cell? ⟨g,9,none⟩=some a9/\w.cell? ⟨g,10,none⟩=some a10/\w.cell? ⟨g,11,none⟩=some a11 :=
 ⟨(cell_row h 0).trans rfl,(cell_row h 1).trans rfl,(cell_row h 2).trans rfl,(cell_row h 3).trans rfl,(cell_row h 4).trans rfl,(cell_row h 5).trans rfl,(cell_row h 6).trans rfl,(cell_row h 7).trans rfl,(cell_row h 8).trans rfl,(cell_row h 9).trans rfl,(cell_row h 10).trans rfl,(cell_row h 11).trans rfl⟩
theorem ladE_eq (rs:List SR) (obj:ByteArray) (l:List SR) (e:SE):ladE rs obj l e=match findR l e.name with
  | none=>none
  | some x=>some ⟨e.name,z41,layV x e.num e.auto e.word,!(innerR rs obj x e.name e.word).isEmpty,if (innerR rs obj x e.name e.word).isEmpty then [] else ladL rs obj (innerR rs obj x e.name e.word) e.params,false,⟨#[]⟩⟩:=by
 cases e;simp only [ladE]
 rfl
theorem ladL_at {rs:List SR} {obj:ByteArray} {l:List SR} {es:List SE} {i:Nat} {e:SE} (h:es[i]?=some e):ladL rs obj l (es.drop i)=match ladE rs obj l e with
  | none=>[noA]
  | some a=>a :: ladL rs obj l (es.drop (i + 1)):=by
 obtain ⟨hj,rfl⟩:=List.getElem?_eq_some_iff.1 h;rw [List.drop_eq_getElem_cons hj];simp only [ladL]
 rfl
theorem runderz_calls (wz:World) (l:List SR) (A:Option Addr) (c:Nat) (obj nm wd:ByteArray) (w:World) (hz:Below wz.heap.size wz w) (hC:Kd.C kRow wz A l.length l) (hl:l.length<=1000) :
  Calls Tryz.prog 73 #[.slice A l.length c,.string obj,.string nm,.string wd] w fun e w'=>(∃ v,e=.returned v/\Kd.R (Kd.fixed kRow wz) 60 w' w.heap.size (fun _=>True) v (underR l obj nm wd))/\Below w.heap.size w w':=by
 have HC:=hid hC;have HL:=hid hl;have HZ:=hid hz;have hm:=hl;clear hC hl hz;generalize hn:l.length=n at *;have HN:=hid hn;clear hn
 go_enter Tryz.func73,Tryz.ntmps73
 go_wp2_with fail
 go_loopw [9,10] (fun ov v wr=>∃ j:Nat,v=.int .i64 (j:Int)/\j<=n/\Hid (Kd.R (Kd.fixed kRow wz) 60 wr w.heap.size (fun _=>True) ov (underR (l.take j) obj nm wd))/\Hid (Below w.heap.size w wr)) (fun _ v _=>n - (intOf v).toNat)
 case atStart=>exact ⟨0,by go_num,by omega,hid (by rw [List.take_zero];exact Kd.R_nil _ _ _ _ (fun _=>True)),hid (Below.refl _ _)⟩
 case round =>
  obtain ⟨j,rfl,hj,RO,BL⟩:=hrel;have BZ:Hid (Below wz.heap.size wz wr):=hid (HZ.out.trans (BL.out.mono HZ.out.size));obtain ⟨acc,hacc⟩:∃ acc,acc=underR (l.take j) obj nm wd:=⟨_,rfl⟩
  by_cases hlt:j<n
  ·have hx:l[j]?=some (l[j]'(by rw [HN.out];exact hlt)):=List.getElem?_eq_getElem _
   obtain ⟨ad,A5,c5,eA,z0,z1,z2,z3,z4,z5,z6,z7,z8,z9,z10,l50,C50⟩:=at_Row HC.out (j:Int) (by omega) (by omega);rw [row_at l j _ hx] at z0 z1 z2 z3 z4 z5 z6 z7 z8 z9 z10 l50 C50;have HTK:=hid (under_take l obj nm wd j _ hx);generalize (l[j]'(by rw [HN.out];exact hlt))=x at hx HTK z0 z1 z2 z3 z4 z5 z6 z7 z8 z9 z10 l50 C50;subst eA;simp only [Int.toNat_natCast] at z0 z1 z2 z3 z4 z5 z6 z7 z8 z9 z10;have x0:=(BZ.out.cell (lC wz _ z0)).trans z0;have x1:=(BZ.out.cell (lC wz _ z1)).trans z1;have x2:=(BZ.out.cell (lC wz _ z2)).trans z2;have x3:=(BZ.out.cell (lC wz _ z3)).trans z3;have x4:=(BZ.out.cell (lC wz _ z4)).trans z4;have x5:=(BZ.out.cell (lC wz _ z5)).trans z5;have x6:=(BZ.out.cell (lC wz _ z6)).trans z6;have x7:=(BZ.out.cell (lC wz _ z7)).trans z7;have x8:=(BZ.out.cell (lC wz _ z8)).trans z8;have x9:=(BZ.out.cell (lC wz _ z9)).trans z9;have x10:=(BZ.out.cell (lC wz _ z10)).trans z10;have HC5:=hid C50;have HL5:=hid l50;have hal:acc.length<=1000:=by rw [hacc];exact Nat.le_trans (under_len _ _ _ _) (by rw [List.length_take];omega)
   rw [<- hacc] at RO HTK;have HAL:=hid hal;obtain ⟨Ao,co,hov⟩:=RForm RO.out;subst hov;clear hx C50 l50 hacc hal z0 z1 z2 z3 z4 z5 z6 z7 z8 z9 z10;cases ho:decide (x.obj=obj) with
   | false =>
    have ho1:(x.obj.toList == obj.toList)=false:=by rw [beq_str];exact ho
    have R6:Hid (Kd.R (Kd.fixed kRow wz) 60 wr w.heap.size (fun _=>True) (.slice Ao acc.length co) (underR (l.take (j + 1)) obj nm wd)):=hid (by rw [HTK.out,ho,Bool.false_and,if_neg (by simp),List.append_nil];exact RO.out);clear ho HTK x3 x4 x5 x6 x7 x8 x9 x10
    go_wp2_with fail
    exact ⟨⟨j + 1,by go_num,by omega,R6,BL⟩,by simp [intOf];omega⟩
   | true =>
    have ho1:(x.obj.toList == obj.toList)=true:=by rw [beq_str];exact ho
    rw [ho,Bool.true_and] at HTK;cases hu:decide (x.un=nm) with
    | false =>
     have hu1:(x.un.toList == nm.toList)=false:=by rw [beq_str];exact hu
     have R6:Hid (Kd.R (Kd.fixed kRow wz) 60 wr w.heap.size (fun _=>True) (.slice Ao acc.length co) (underR (l.take (j + 1)) obj nm wd)):=hid (by rw [HTK.out,hu,Bool.false_and,if_neg (by simp),List.append_nil];exact RO.out);clear ho hu HTK x3 x4 x5 x6 x7 x8 x9 x10
     go_wp2_with fail
     exact ⟨⟨j + 1,by go_num,by omega,R6,BL⟩,by simp [intOf];omega⟩
    | true =>
     have hu1:(x.un.toList == nm.toList)=true:=by rw [beq_str];exact hu
     rw [hu,Bool.true_and] at HTK;cases hq:decide (x.uw=wd) with
     | false =>
      have hq1:(x.uw.toList == wd.toList)=false:=by rw [beq_str];exact hq
      have R6:Hid (Kd.R (Kd.fixed kRow wz) 60 wr w.heap.size (fun _=>True) (.slice Ao acc.length co) (underR (l.take (j + 1)) obj nm wd)):=hid (by rw [HTK.out,hq,if_neg (by simp),List.append_nil];exact RO.out);clear ho hu hq HTK x3 x4 x5 x6 x7 x8 x9 x10
      go_wp2_with fail
      exact ⟨⟨j + 1,by go_num,by omega,R6,BL⟩,by simp [intOf];omega⟩
     | true =>
      have hq1:(x.uw.toList == wd.toList)=true:=by rw [beq_str];exact hq
      rw [hq,if_pos rfl] at HTK;clear ho hu hq;have BLS:=hid BL.out.size
      go_wp2_with (first
       | (at_builtin;refine Kd.R_append (Kd.fixed kRow wz) (w0:=w) w.heap.size rfl (.tmp 44) (.tmp 49) 53 60 (.agg row0) 136 rfl Tryz.underlying53 infoRow rfl (show 0<11 by decide) (by omega) (.slice Ao acc.length co) acc x [.string x.obj,.string x.un,.string x.uw,.string x.name,.int .i64 x.want,.slice A5 x.words.length c5,.int .u32 x.lo,.int .u32 x.hi,.bool x.auto,.int .i64 x.times,.string x.dflt] (fun _=>True) (fun _=>False) rfl rfl (kRow_mk wz x HL5.out HC5.out) (fun _ h=>h.elim) (fun _ _=>trivial) RO.out BL.out BLS.out (by have:=HAL.out;omega) ?_;intro v6 w6 ho hb hg hat;have R6:Hid (Kd.R (Kd.fixed kRow wz) 60 w6 w.heap.size (fun _=>True) v6 (underR (l.take (j + 1)) obj nm wd)):=hid (by rw [HTK.out];exact ho);have B6:=hid hb;clear ho hb hg hat x0 x1 x2 x3 x4 x5 x6 x7 x8 x9 x10))
      exact ⟨⟨j + 1,by go_num,by omega,R6,B6⟩,by simp [intOf];omega⟩
  ·obtain rfl:j=n:=by omega
   have RF:Hid (Kd.R (Kd.fixed kRow wz) 60 wr w.heap.size (fun _=>True) u9 (underR l obj nm wd)):=hid (by
    have h:=RO.out;rw [List.take_of_length_le (by rw [HN.out];exact Nat.le_refl _)] at h
    exact h)
   go_wp2_with fail
   go_ret
   exact ⟨⟨_,rfl,RF.out⟩,BL.out⟩
def RDC (rs:List SR) (m:Nat):Prop :=
 ∀ (es:List SE) (obj:ByteArray) (l:List SR) (A:Option Addr) (c:Nat) (Al:Option Addr) (cl:Nat) (Ae:Option Addr) (ce:Nat) (w:World),szEs es<=m->szEs es<=1073741824->Kd.C kRow w A rs.length rs->rs.length<=1000->Kd.C kRow w Al l.length l->l.length<=1000->Kd.C kEnt w Ae es.length es ->
  Calls Tryz.prog 80 #[.slice A rs.length c,.string obj,.slice Al l.length cl,.slice Ae es.length ce] w fun ev w'=>Below w.heap.size w w'/\∃ v,ev=.returned v/\Kd.R k50 50 w' w.heap.size (fun _=>True) v (ladL rs obj l es)
theorem rlaid_step (rs:List SR) (m:Nat) (ih:∀ m',m'<m->RDC rs m'):RDC rs m:=by
 intro es obj l A c Al cl Ae ce w hm hm2 hA hA9 hL hL9 hS;have IH:=hid ih;have HA:=hid hA;have HA9:=hid hA9;have HL:=hid hL;have HL9:=hid hL9;have HS:=hid hS;have HSZ:=hid (And.intro hm hm2);have hn9:es.length<=1073741824:=Nat.le_trans (szEs_len es) hm2;clear ih hA hA9 hL hL9 hS hm hm2;obtain ⟨RES,hRES⟩:∃ RES,RES=ladL rs obj l es:=⟨_,rfl⟩;rw [<- hRES];have HRES:=hid hRES;clear hRES;obtain ⟨nr,hnr⟩:∃ nr,rs.length=nr:=⟨_,rfl⟩;obtain ⟨nl,hnl⟩:∃ nl,l.length=nl:=⟨_,rfl⟩;obtain ⟨n,hn⟩:∃ n,es.length=n:=⟨_,rfl⟩;rw [hnr] at HA HA9 ⊢;rw [hnl] at HL HL9 ⊢;rw [hn] at HS hn9 ⊢;have HNR:=hid hnr;have HNL:=hid hnl;have HN:=hid hn;clear hnr hnl hn
 go_enter Tryz.func80,Tryz.ntmps80
 go_wp2_with fail
 go_loopw [9,10] (fun vo v wq=>∃ (i:Nat) (O:List SA),v=.int .i64 (i:Int)/\i<=n/\Hid (O++ladL rs obj l (es.drop i)=RES)/\Hid (Kd.R k50 50 wq w.heap.size (fun _=>True) vo O)/\Hid (O.length<=i)/\Hid (Below w.heap.size w wq)) (fun _ v _=>n - (intOf v).toNat)
 case atStart=>exact ⟨0,[],by go_num,by omega,hid (by rw [List.drop_zero,List.nil_append];exact HRES.out.symm),hid (Kd.R_nil _ _ _ _ (fun _=>True)),hid (Nat.le_refl _),hid (Below.refl _ _)⟩
 case round =>
  obtain ⟨i,O,rfl,hi,HRD,RO,HOL,BL⟩:=hrel;obtain ⟨Ao,co,hvo⟩:=RForm RO.out;subst hvo;obtain ⟨no,hno⟩:∃ no,O.length=no:=⟨_,rfl⟩;rw [hno] at RO HOL ⊢;have HNO:=hid hno;clear hno;have hb1:=hn9;have hb2:=HL9.out
  by_cases hin:i<n
  ·have hit:i<es.length:=by rw [HN.out];exact hin
   have hx:es[i]?=some es[i]:=List.getElem?_eq_getElem hit;obtain ⟨ad,A7,c7,eA,x0,x1,x2,x3,x4,x5,x6,x7,l7,C7⟩:=at_Ent (Kd.C_below HS.out BL.out) (i:Int) (by omega) (by omega);rw [ent_at' es i _ hx] at x0 x1 x2 x3 x4 x5 x6 x7 l7 C7;have hsz:=szEs_getE es i _ hx;generalize es[i]=e at hx x0 x1 x2 x3 x4 x5 x6 x7 l7 C7 hsz;have HSA:Hid (szEs e.params<m/\szEs e.params<=1073741824):=hid (by have:=HSZ.out;omega);subst eA;simp only [Int.toNat_natCast] at x0 x1 x2 x3 x4 x5 x6 x7;have HX:=hid hx;have HC7:=hid C7;obtain ⟨n7,hn7⟩:∃ n7,e.params.length=n7:=⟨_,rfl⟩;rw [hn7] at x7 HC7;have HN7:=hid hn7;clear hx C7 hsz l7 hit hn7;obtain ⟨wi,hwi⟩:∃ wi,wi=wr:=⟨_,rfl⟩;subst hwi;have tk1:True:=trivial;have tk2:True:=trivial
   go_upto_region 6 with (first
    | (have _t:=tk1;refine run_event rfl (.alloc 80) rfl (.pointer (some ⟨wi.heap.size,0,none⟩)) (wi.alloc (.cells ent0 80)) (by kernel_rfl) ?_;intro w3 hw3;have Bw3:Hid (Below wi.heap.size wi w3):=hid (by rw [hw3];exact alloc_below _ _);have Ew3:Hid (w3.heap[wi.heap.size]?=some (.cells ent0 80 (0,0))):=hid (by rw [hw3];exact heap_alloc_new _ _);clear hw3 tk1 _t)
    | ((with_reducible refine gate_store (t:=80) (p:=11) rfl ?_);refine put_event rfl 80 _ _ rfl wi.heap.size #[.string e.name,.int .i64 e.spot.f0,.int .i64 e.spot.f1,.int .i64 e.spot.f2,.int .u32 e.num,.bool e.auto,.string e.word,.slice A7 n7 c7] rfl rfl 80 ent0 Ew3.out (by kernel_rfl) rfl (by simp [Value.oneCell']) wi.heap.size (Nat.le_refl _) ?_;intro w4 hbw4 hBw4 hsw4 how4;have Gw4:Hid (w4.heap[wi.heap.size]?=some (.cells #[.string e.name,.int .i64 e.spot.f0,.int .i64 e.spot.f1,.int .i64 e.spot.f2,.int .u32 e.num,.bool e.auto,.string e.word,.slice A7 n7 c7] 80 (0,0))):=hid hbw4;have Dw4:Hid (Below wi.heap.size wi w4):=hid (Bw3.out.trans hBw4);clear hbw4 hBw4 hsw4 how4;clear x0 x1 x2 x3 x4 x5 x6 x7 Bw3 Ew3))
   have x0:w4.cell? ⟨wi.heap.size,0,none⟩=some (.string e.name):=(cell_row Gw4.out 0).trans rfl
   go_upto_region 7 with (first
    | (have _t:=tk2;refine run_event rfl (.alloc 50) rfl (.pointer (some ⟨w4.heap.size,0,none⟩)) (w4.alloc (.cells #[.string ⟨#[]⟩,.int .i64 0,.int .i64 0,.int .i64 0,.int .i64 0,.string ⟨#[]⟩,.int .u32 0,.bool false,.bool false,.slice none 0 0,.bool false,.string ⟨#[]⟩] 50)) (by kernel_rfl) ?_;intro w5 hw5;have Bw5:Hid (Below w4.heap.size w4 w5):=hid (by rw [hw5];exact alloc_below _ _);have Ew5:Hid (w5.heap[w4.heap.size]?=some (.cells #[.string ⟨#[]⟩,.int .i64 0,.int .i64 0,.int .i64 0,.int .i64 0,.string ⟨#[]⟩,.int .u32 0,.bool false,.bool false,.slice none 0 0,.bool false,.string ⟨#[]⟩] 50 (0,0))):=hid (by rw [hw5];exact heap_alloc_new _ _);replace x0:=(Bw5.out.cell (lC w4 _ x0)).trans x0;clear hw5 tk2 _t)
    | ((with_reducible refine gate_store (t:=50) (p:=12) rfl ?_);refine put_event rfl 50 _ _ rfl w4.heap.size #[.string e.name,.int .i64 0,.int .i64 0,.int .i64 0,.int .i64 0,.string ⟨#[]⟩,.int .u32 0,.bool false,.bool false,.slice none 0 0,.bool false,.string ⟨#[]⟩] rfl rfl 50 #[.string ⟨#[]⟩,.int .i64 0,.int .i64 0,.int .i64 0,.int .i64 0,.string ⟨#[]⟩,.int .u32 0,.bool false,.bool false,.slice none 0 0,.bool false,.string ⟨#[]⟩] Ew5.out (by kernel_rfl) rfl (by simp [Value.oneCell']) w4.heap.size (Nat.le_refl _) ?_;intro w6 hbw6 hBw6 hsw6 how6;have Gw6:Hid (w6.heap[w4.heap.size]?=some (.cells #[.string e.name,.int .i64 0,.int .i64 0,.int .i64 0,.int .i64 0,.string ⟨#[]⟩,.int .u32 0,.bool false,.bool false,.slice none 0 0,.bool false,.string ⟨#[]⟩] 50 (0,0))):=hid hbw6;have Dw6:Hid (Below w4.heap.size w4 w6):=hid (Bw5.out.trans hBw6);clear hbw6 hBw6 hsw6 how6;clear x0 Bw5 Ew5))
   have GE6:=hid (blk_b Gw4.out Dw6.out);have GA6:=Gw6;have BX6:Hid (Below wi.heap.size wi w6):=hid (Dw4.out.trans (Dw6.out.mono Dw4.out.size));have HG12:Hid (wi.heap.size<=w4.heap.size/\wi.heap.size≠w4.heap.size):=hid ⟨Dw4.out.size,by have:=(gS.1 Gw4.out).1;omega⟩;obtain ⟨g11,hg11⟩:∃ g11,g11=wi.heap.size:=⟨_,rfl⟩;obtain ⟨g12,hg12⟩:∃ g12,g12=w4.heap.size:=⟨_,rfl⟩;replace GE6:Hid (w6.heap[g11]?=some (.cells #[.string e.name,.int .i64 e.spot.f0,.int .i64 e.spot.f1,.int .i64 e.spot.f2,.int .u32 e.num,.bool e.auto,.string e.word,.slice A7 n7 c7] 80 (0,0))):=hid (by rw [hg11];exact GE6.out);replace GA6:Hid (w6.heap[g12]?=some (.cells #[.string e.name,.int .i64 0,.int .i64 0,.int .i64 0,.int .i64 0,.string ⟨#[]⟩,.int .u32 0,.bool false,.bool false,.slice none 0 0,.bool false,.string ⟨#[]⟩] 50 (0,0))):=hid (by rw [hg12];exact GA6.out);replace HG12:Hid (wi.heap.size<=g12/\g11≠g12):=hid (by rw [hg11,hg12];exact HG12.out);rw [<- hg11,<- hg12];clear hg11 hg12 Gw4 Dw4 Gw6 Dw6;have BWi:Hid (Below w.heap.size w w6):=hid (BL.out.trans (BX6.out.mono BL.out.size))
   have HFC:Hid (Calls Tryz.prog 111 #[.slice Al nl cl,.string e.name] w6 fun ev w'=>ev=.returned (.int .i64 (idxF (fun x=>decide (x.name=e.name)) l 0))/\w6=w'):=hid (by
    have hC:=Kd.C_below HL.out BWi.out;have h:=rfind_calls l e.name Al cl w6 (by rw [HNL.out];exact hC) (by rw [HNL.out];exact HL9.out);rw [HNL.out] at h
    exact h.mono (fun ev w' hp=>⟨hp.1,hp.2.symm⟩))
   have hfi:=find_idx l e.name 0;have hle:=ladE_eq rs obj l e;obtain ⟨e0,e1,e2,e3,e4,e5,e6,e7⟩:=ent_cells GE6.out;clear e1 e2 e3 e4 e5 e6 e7;cases hf:findR l e.name with
   | none =>
    rw [hf] at hfi hle;dsimp only at hfi hle;rw [hfi] at HFC;have HEND:Hid (O++[noA]=RES):=hid (by rw [<- HRD.out,ladL_at HX.out,hle]);clear hfi hf hle
    go_upto_region 9 with (first
     | (go_at_call 111;refine HFC.out.mono ?_;rintro ev wq ⟨rfl,rfl⟩))
    clear e0;have RO6:Hid (Kd.R k50 50 w6 w.heap.size (fun _=>True) (.slice Ao no co) O):=hid (Kd.R_below RO.out BX6.out);have HPM:Hid (k50.M w6 w.heap.size (fun _=>False) noA [.string sNone,.int .i64 0,.int .i64 0,.int .i64 0,.int .i64 0,.string ⟨#[]⟩,.int .u32 0,.bool false,.bool false,.slice none 0 0,.bool false,.string ⟨#[]⟩]):=hid (k50_mkM w6 w.heap.size _ noA (Kd.R_nil _ _ _ _ _))
    go_wp2_with (first
     | (at_builtin;refine Kd.R_append k50 (w0:=w6) w.heap.size rfl (.tmp 34) (.tmp 36) 42 50 (.agg att0) 128 rfl Tryz.underlying42 infoAtt rfl (show 0<12 by decide) (by omega) (.slice Ao no co) O noA [.string sNone,.int .i64 0,.int .i64 0,.int .i64 0,.int .i64 0,.string ⟨#[]⟩,.int .u32 0,.bool false,.bool false,.slice none 0 0,.bool false,.string ⟨#[]⟩] (fun _=>True) (fun _=>False) rfl rfl HPM.out (fun _ h=>h.elim) (fun _ _=>trivial) RO6.out (Below.refl _ _) BWi.out.size (by have:=HOL.out;have:=HNO.out;omega) ?_;intro v1 z1 ho hb hg hat;have R1:=hid ho;have G1:=hid hg;clear ho hb hg hat))
    go_ret
    refine ⟨below_own (wr:=w) BWi.out G1.out (fun k hk=>Kd.R_base RO6.out k hk),_,rfl,?_⟩
    rw [<- HEND.out];exact R1.out
   | some x =>
    rw [hf] at hfi hle;dsimp only at hfi hle;obtain ⟨q,hq,hlq,hxn⟩:=hfi;rw [hq] at HFC;rw [Nat.zero_add] at HFC;have HLQ:=hid hlq;have HLE:=hid hle;have hql:q<nl:=by have:=(List.getElem?_eq_some_iff.1 hlq).1;rw [HNL.out] at this;exact this
    clear hf hq hlq hxn hle
    go_upto_region 10 with (first
     | (go_at_call 111;refine HFC.out.mono ?_;rintro ev wq ⟨rfl,rfl⟩))
    clear e0 HFC;obtain ⟨ad2,A5,c5,eL,y0,y1,y2,y3,y4,y5,y6,y7,y8,y9,y10,l5,C5⟩:=at_Row HL.out (q:Int) (by omega) (by omega);rw [row_at l q _ HLQ.out] at y0 y1 y2 y3 y4 y5 y6 y7 y8 y9 y10 l5 C5;subst eL;simp only [Int.toNat_natCast] at y0 y1 y2 y3 y4 y5 y6 y7 y8 y9 y10;have HY1:=hid y1;have HY4:=hid y4;clear y0 y1 y2 y3 y4 y5 y6 y7 y8 y9 y10 l5 C5;have e6:w6.cell? ⟨g11,6,none⟩=some (.string e.word):=(cell_row GE6.out 6).trans rfl
    go_upto_region 11 with (first
     | ((with_reducible refine gate_store (t:=48) (p:=41) rfl ?_);refine cellsS_event rfl 48 _ _ rfl g12 4 [.int .i64 1,.string e.word,.int .u32 0,.bool false] rfl rfl (by simp [Value.oneCell']) (thereR GA6.out (by simp)) (by kernel_rfl) ?_;intro w7 hw;obtain ⟨hr,hk,hB⟩:=four_row GA6.out hw;have GA7:=hid hr;have BX7:Hid (Below wi.heap.size wi w7):=hid (BX6.out.trans (hB _ HG12.out.1));have GE7:=hid ((hk g11 HG12.out.2).trans GE6.out);clear hw hr hk hB e6))
    have BW7:Hid (Below w.heap.size w w7):=hid (BL.out.trans (BX7.out.mono BL.out.size));have y4:=(BW7.out.cell (lC w _ HY4.out)).trans HY4.out;obtain ⟨V1,hV1⟩:∃ V1:SV,V1=(if x.want=4 then ⟨3,e.word,0,false⟩ else ⟨1,e.word,0,false⟩):=⟨_,rfl⟩;have HV1:=hid hV1;clear hV1;obtain ⟨f4,hf4⟩:∃ f4:Bool,f4=(x.want == 4):=⟨_,rfl⟩;have HF4:=hid hf4
    go_upto_if 47 with fail
    rw [<- hf4];clear hf4 y4
    go_cut [] from 48 to 49 (fun wx=>Hid (wx.heap[g12]?=some (.cells #[.string e.name,.int .i64 0,.int .i64 0,.int .i64 0,.int .i64 V1.f0,.string V1.f1,.int .u32 V1.f2,.bool V1.f3,.bool false,.slice none 0 0,.bool false,.string ⟨#[]⟩] 50 (0,0)))/\Hid (wx.heap[g11]?=some (.cells #[.string e.name,.int .i64 e.spot.f0,.int .i64 e.spot.f1,.int .i64 e.spot.f2,.int .u32 e.num,.bool e.auto,.string e.word,.slice A7 n7 c7] 80 (0,0)))/\Hid (Below wi.heap.size wi wx))
    case first =>
     cases f4 with
     | true =>
      have hv:V1=⟨3,e.word,0,false⟩:=by rw [HV1.out,if_pos (by have:=HF4.out;simpa using this.symm)]
      subst hv
      go_wp2_with (first
       | ((with_reducible refine gate_store (t:=45) (p:=49) rfl ?_);refine cell_event rfl 45 _ _ rfl g12 4 (.int .i64 3) rfl rfl rfl (thereR GA7.out (by simp)) (by kernel_rfl) wi.heap.size HG12.out.1 ?_;intro w8 hw8 hB8 hs8;obtain ⟨hr8,hk8,hz8⟩:=row1 GA7.out hw8;have GA8:=hid hr8;have GE8:=hid ((hk8 g11 HG12.out.2).trans GE7.out);have BX8:Hid (Below wi.heap.size wi w8):=hid (BX7.out.trans hB8);clear hw8 hB8 hs8 hr8 hk8 hz8))
      go_meet
      exact ⟨GA8,GE8,BX8⟩
     | false =>
      have hv:V1=⟨1,e.word,0,false⟩:=by rw [HV1.out,if_neg (by have:=HF4.out;simpa using this.symm)]
      subst hv
      go_wp2_with fail
      go_meet
      exact ⟨GA7,GE7,BX7⟩
    case rest =>
    obtain ⟨GAw8,GEw8,BXw8⟩:=hcut;clear GA7 GE7 BX7 BW7 GA6 GE6 BX6 BWi
    rename World=>w8
    have BW8:Hid (Below w.heap.size w w8):=hid (BL.out.trans (BXw8.out.mono BL.out.size));have y4:=(BW8.out.cell (lC w _ HY4.out)).trans HY4.out;obtain ⟨f1,hf1⟩:∃ f1:Bool,f1=(x.want == 1):=⟨_,rfl⟩;have HF1:=hid hf1
    go_upto_if 55 with fail
    rw [<- hf1];clear hf1 y4;obtain ⟨V,hV⟩:∃ V:SV,V=layV x e.num e.auto e.word:=⟨_,rfl⟩;have HV:=hid hV;clear hV
    go_cut [] from 56 to 63 (fun wx=>Hid (wx.heap[g12]?=some (.cells #[.string e.name,.int .i64 0,.int .i64 0,.int .i64 0,.int .i64 V.f0,.string V.f1,.int .u32 V.f2,.bool V.f3,.bool false,.slice none 0 0,.bool false,.string ⟨#[]⟩] 50 (0,0)))/\Hid (wx.heap[g11]?=some (.cells #[.string e.name,.int .i64 e.spot.f0,.int .i64 e.spot.f1,.int .i64 e.spot.f2,.int .u32 e.num,.bool e.auto,.string e.word,.slice A7 n7 c7] 80 (0,0)))/\Hid (Below wi.heap.size wi wx))
    case first =>
     cases f1 with
     | true =>
      have hw1:x.want=1:=by have:=HF1.out;simpa using this.symm
      have HVT:Hid (V=(if e.auto then ⟨1,sAuto,0,false⟩ else ⟨2,⟨#[]⟩,e.num,false⟩)):=hid (by rw [HV.out];unfold layV;rw [if_pos hw1]);clear hw1;have e4:w8.cell? ⟨g11,4,none⟩=some (.int .u32 e.num):=(cell_row GEw8.out 4).trans rfl
      go_upto_region 15 with (first
       | ((with_reducible refine gate_store (t:=48) (p:=59) rfl ?_);refine cellsS_event rfl 48 _ _ rfl g12 4 [.int .i64 2,.string ⟨#[]⟩,.int .u32 e.num,.bool false] rfl rfl (by simp [Value.oneCell']) (thereR GAw8.out (by simp)) (by kernel_rfl) ?_;intro w9 hw;obtain ⟨hr,hk,hB⟩:=four_row GAw8.out hw;have GAw9:=hid hr;have BXw9:Hid (Below wi.heap.size wi w9):=hid (BXw8.out.trans (hB _ HG12.out.1));have GEw9:=hid ((hk g11 HG12.out.2).trans GEw8.out);clear hw hr hk hB e4))
      obtain ⟨au,hau⟩:∃ au:Bool,e.auto=au:=⟨_,rfl⟩;have HAU:=hid hau;have e5:w9.cell? ⟨g11,5,none⟩=some (.bool au):=by rw [<- hau];exact (cell_row GEw9.out 5).trans rfl
      clear hau;cases au with
      | true =>
       have hv:V=⟨1,sAuto,0,false⟩:=by rw [HVT.out,HAU.out];rfl
       subst hv
       go_wp2_with (first
        | ((with_reducible refine gate_store (t:=48) (p:=63) rfl ?_);refine cellsS_event rfl 48 _ _ rfl g12 4 [.int .i64 1,.string sAuto,.int .u32 0,.bool false] rfl rfl (by simp [Value.oneCell']) (thereR GAw9.out (by simp)) (by kernel_rfl) ?_;intro w10 hw;obtain ⟨hr,hk,hB⟩:=four_row GAw9.out hw;have GAw10:=hid hr;have BXw10:Hid (Below wi.heap.size wi w10):=hid (BXw9.out.trans (hB _ HG12.out.1));have GEw10:=hid ((hk g11 HG12.out.2).trans GEw9.out);clear hw hr hk hB e5))
       go_meet
       exact ⟨GAw10,GEw10,BXw10⟩
      | false =>
       have hv:V=⟨2,⟨#[]⟩,e.num,false⟩:=by rw [HVT.out,HAU.out];rfl
       subst hv
       go_wp2_with fail
       go_meet
       exact ⟨GAw9,GEw9,BXw9⟩
     | false =>
      have hw1:¬ x.want=1:=by have:=HF1.out;simpa using this.symm
      have hv:V=V1:=by rw [HV.out,HV1.out];unfold layV;rw [if_neg hw1]
      subst hv;clear hw1
      go_wp2_with fail
      go_meet
      exact ⟨GAw8,GEw8,BXw8⟩
    case rest =>
    obtain ⟨GAw9,GEw9,BXw9⟩:=hcut;clear GAw8 GEw8 BXw8 BW8 HV1 HF1 HF4
    rename World=>w9
    have BW9:Hid (Below w.heap.size w w9):=hid (BL.out.trans (BXw9.out.mono BL.out.size));have y4:=(BW9.out.cell (lC w _ HY4.out)).trans HY4.out;have y1:=(BW9.out.cell (lC w _ HY1.out)).trans HY1.out
    go_upto_region 17 with fail
    obtain ⟨cnd,hcnd⟩:∃ cnd:Bool,cnd=(decide (x.want=2)&&decide (x.un=⟨#[]⟩)):=⟨_,rfl⟩;have HCN:=hid hcnd;clear hcnd;obtain ⟨u1,hu1⟩:∃ u1,x.un=u1:=⟨_,rfl⟩;obtain ⟨wn,hwn⟩:∃ wn,x.want=wn:=⟨_,rfl⟩;rw [hu1] at y1;rw [hwn] at y4;have HUN:=hid hu1;have HWN:=hid hwn;clear hu1 hwn
    go_cut [78] from 64 to 78 (fun v78 wx=>v78=.bool cnd/\wx=w9)
    case first =>
     by_cases hw:wn=2
     ·have hw1:(wn == 2)=true:=by simp [hw]
      by_cases hu:u1=⟨#[]⟩
      ·have HB:Hid (cnd=true):=hid (by rw [HCN.out,HWN.out,HUN.out,hw,hu];rfl)
       subst hu;clear hw
       go_wp2_with fail
       go_meet
       exact ⟨by rw [HB.out],rfl⟩
      ·have hu1:=(str_some hu).1
       have hu2:=(str_some hu).2;have HB:Hid (cnd=false):=hid (by rw [HCN.out,HUN.out,decide_eq_false hu,Bool.and_false]);clear hw hu
       go_wp2_with fail
       go_meet
       exact ⟨by rw [HB.out],rfl⟩
     ·have hw1:(wn == 2)=false:=by simp [hw]
      have HB:Hid (cnd=false):=hid (by rw [HCN.out,HWN.out,decide_eq_false hw,Bool.false_and]);clear hw y1
      go_wp2_with fail
      go_meet
      exact ⟨by rw [HB.out],rfl⟩
    case rest =>
    obtain ⟨hc1,hc2⟩:=hcut;replace hc2:=hc2.symm;subst hc1 hc2;clear y1 y4;obtain ⟨I,hI⟩:∃ I,innerR rs obj x e.name e.word=I:=⟨_,rfl⟩;have HLE2:Hid (ladE rs obj l e=some ⟨e.name,z41,V,!I.isEmpty,if I.isEmpty then [] else ladL rs obj I e.params,false,⟨#[]⟩⟩):=hid (by rw [HLE.out,<- HV.out,hI])
    have HIT:Hid (cnd=true->I=underR rs obj e.name e.word):=hid (fun h=>by
     rw [<- hI];unfold innerR
     rw [if_pos (by have h2:=HCN.out;rw [h] at h2;simpa using h2.symm)])
    have HIF:Hid (cnd=false->I=[]):=hid (fun h=>by
     rw [<- hI];unfold innerR
     rw [if_neg (fun h3=>by have h2:=HCN.out;rw [h,decide_eq_true h3.1,decide_eq_true h3.2] at h2;cases h2)])
    have HIL:Hid (I.length<=1000):=hid (by rw [<- hI];exact inner_len (by rw [HNR.out];exact HA9.out) _ _ _ _);obtain ⟨be,hbe⟩:∃ be:Bool,I.isEmpty=be:=⟨_,rfl⟩;have HBE:=hid hbe;obtain ⟨ps,hps⟩:∃ ps:List SA,(if I.isEmpty then [] else ladL rs obj I e.params)=ps:=⟨_,rfl⟩;have HPS:=hid hps;rw [hps,hbe] at HLE2;clear hI hbe hps
    go_upto_if 78 with fail
    go_cut [14] from 79 to 96 (fun v14 wx=>∃ (Ap:Option Addr) (np cp:Nat),Hid (wx.heap[g12]?=some (.cells #[.string e.name,.int .i64 0,.int .i64 0,.int .i64 0,.int .i64 V.f0,.string V.f1,.int .u32 V.f2,.bool V.f3,.bool (!be),.slice Ap np cp,.bool false,.string ⟨#[]⟩] 50 (0,0)))/\Hid (Kd.R k50 50 wx wi.heap.size (fun _=>True) (.slice Ap np cp) ps)/\Hid (Below wi.heap.size wi wx))
    case first =>
     cases cnd with
     | false =>
      have hI0:I=[]:=HIF.out rfl;have hb0:be=true:=by rw [<- HBE.out,hI0];rfl
      have hp0:ps=[]:=by rw [<- HPS.out,hI0];rfl
      subst hb0 hp0;clear hI0
      go_wp2_with fail
      go_meet
      exact ⟨none,0,0,GAw9,hid (Kd.R_nil _ _ _ _ _),BXw9⟩
     | true =>
      have HUC:Hid (Calls Tryz.prog 73 #[.slice A nr c,.string obj,.string e.name,.string e.word] w9 fun ev w'=>(∃ v,ev=.returned v/\Kd.R (Kd.fixed kRow w) 60 w' w9.heap.size (fun _=>True) v I)/\Below w9.heap.size w9 w'):=hid (by
       have h:=runderz_calls w rs A c obj e.name e.word w9 BW9.out (by rw [HNR.out];exact HA.out) (by rw [HNR.out];exact HA9.out);rw [HNR.out,<- HIT.out rfl] at h
       exact h)
      obtain ⟨e0,e1,e2,e3,e4,e5,e6,e7⟩:=ent_cells GEw9.out;clear e1 e2 e3 e4 e5 e7
      go_upto_region 19 with (first
       | (go_at_call 73;refine HUC.out.mono ?_;rintro ev w10 ⟨⟨vi,rfl,hRi⟩,hBi⟩;obtain ⟨Ai,ci,hvi⟩:=RForm hRi;subst hvi;have RI:=hid hRi;have BI:=hid hBi;clear hRi hBi e0 e6))
      obtain ⟨nI,hnI⟩:∃ nI,I.length=nI:=⟨_,rfl⟩;rw [hnI] at RI HIL ⊢;have HNI:=hid hnI;clear hnI;have HG9:Hid (g12<w9.heap.size):=hid (gS.1 GAw9.out).1;have GA10:=hid (blk_b GAw9.out BI.out);have GE10:=hid (blk_b GEw9.out BI.out);have BX10:Hid (Below wi.heap.size wi w10):=hid (BXw9.out.trans (BI.out.mono BXw9.out.size));have hIL9:=HIL.out;rcases Nat.eq_zero_or_pos nI with hz | hz
      ·have hI0:I=[]:=List.length_eq_zero_iff.1 (by rw [HNI.out];exact hz)
       have hb0:be=true:=by rw [<- HBE.out,hI0];rfl
       have hp0:ps=[]:=by rw [<- HPS.out,hI0];rfl
       have hz3:¬ (0:Int)<(nI:Int):=by omega
       have hz4:decide ((0:Int)<(nI:Int))=false:=decide_eq_false hz3;subst hb0 hp0;clear hI0 hz
       go_wp2_with fail
       go_meet
       exact ⟨none,0,0,GA10,hid (Kd.R_nil _ _ _ _ _),BX10⟩
      ·have hb0:be=false:=by
        rw [<- HBE.out];cases hI2:I with
        | nil=>have:=HNI.out;rw [hI2] at this;simp at this;omega
        | cons _ _=>rfl
       have hp0:ps=ladL rs obj I e.params:=by rw [<- HPS.out,if_neg (by rw [HBE.out,hb0];decide)]
       have hz3:(0:Int)<(nI:Int):=by omega
       have hz4:decide ((0:Int)<(nI:Int))=true:=decide_eq_true hz3;have HP0:=hid hp0;clear hp0;subst hb0
       go_upto_region 21 with (first
        | ((with_reducible refine gate_store (t:=4) (p:=89) rfl ?_);refine cell_event rfl 4 _ _ rfl g12 8 (.bool true) rfl rfl rfl (thereR GA10.out (by simp)) (by kernel_rfl) wi.heap.size HG12.out.1 ?_;intro w11 hw8 hB8 hs8;obtain ⟨hr8,hk8,hz8⟩:=row1 GA10.out hw8;have GA11:=hid hr8;have GE11:=hid ((hk8 g11 HG12.out.2).trans GE10.out);have BX11:Hid (Below wi.heap.size wi w11):=hid (BX10.out.trans hB8);have K11:=hid hk8;have Z11:=hid hz8;clear hw8 hB8 hs8 hr8 hk8 hz8))
       have BW11:Hid (Below w.heap.size w w11):=hid (BL.out.trans (BX11.out.mono BL.out.size));have RI11:Hid (Kd.R (Kd.fixed kRow w) 60 w11 w9.heap.size (fun _=>True) (.slice Ai nI ci) I):=hid (Kd.R_mono (Kd.R_move (Kd.R_bound RI.out) (fun k hk=>K11.out k (by have:=hk.2.1;have:=HG9.out;omega))) (fun _ _=>trivial))
       have HIC:Hid (Calls Tryz.prog 80 #[.slice A nr c,.string obj,.slice Ai nI ci,.slice A7 n7 c7] w11 fun ev w'=>Below w11.heap.size w11 w'/\∃ (Ap:Option Addr) (np cp:Nat),ev=.returned (.slice Ap np cp)/\Kd.R k50 50 w' w11.heap.size (fun _=>True) (.slice Ap np cp) ps):=hid (by
        have hCI:=fixed_C (keeps_below BW11.out) (Kd.R_reads' RI11.out).2.2;have h:=IH.out (szEs e.params) HSA.out.1 e.params obj I A c Ai ci A7 c7 w11 (Nat.le_refl _) HSA.out.2 (by rw [HNR.out];exact Kd.C_below HA.out BW11.out) (by rw [HNR.out];exact HA9.out) hCI (by rw [HNI.out];exact HIL.out) (by rw [HN7.out];exact Kd.C_below HC7.out BX11.out);rw [HNR.out,HNI.out,HN7.out] at h
        refine h.mono ?_
        rintro ev w' ⟨hB,v,rfl,hR⟩;rw [<- HP0.out] at hR;obtain ⟨Ap,cp,rfl⟩:=RForm hR
        exact ⟨hB,Ap,_,cp,rfl,hR⟩)
       obtain ⟨e0,e1,e2,e3,e4,e5,e6,e7⟩:=ent_cells GE11.out;clear e0 e1 e2 e3 e4 e5 e6
       go_wp2_with (first
        | (go_at_call 80;refine HIC.out.mono ?_;rintro ev w12 ⟨hB,Ap,np,cp,rfl,hR⟩;have GA12:=hid (blk_b GA11.out hB);have BX12:Hid (Below wi.heap.size wi w12):=hid (BX11.out.trans (hB.mono BX11.out.size));have RP12:=hid hR;clear hB hR e7)
        | ((with_reducible refine gate_store (t:=42) (p:=96) rfl ?_);refine cell_event rfl 42 _ _ rfl g12 9 (.slice Ap np cp) rfl rfl rfl (thereR GA12.out (by simp)) (by kernel_rfl) wi.heap.size HG12.out.1 ?_;intro w13 hw8 hB8 hs8;obtain ⟨hr8,hk8,hz8⟩:=row1 GA12.out hw8;have GA13:=hid hr8;have BX13:Hid (Below wi.heap.size wi w13):=hid (BX12.out.trans hB8);have K13:=hid hk8;clear hw8 hB8 hs8 hr8 hk8 hz8))
       have RP13:Hid (Kd.R k50 50 w13 w11.heap.size (fun _=>True) (.slice Ap np cp) ps):=hid (Kd.R_mono (Kd.R_move (Kd.R_bound RP12.out) (fun k hk=>K13.out k (by have:=hk.2.1;have:=(gS.1 GA11.out).1;omega))) (fun _ _=>trivial))
       go_meet
       exact ⟨Ap,np,cp,GA13,hid (Kd.R_lower RP13.out BX11.out.size),BX13⟩
    case rest =>
    obtain ⟨Ap,np,cp,GAp,RP,BXp⟩:=hcut;clear GAw9 GEw9 BXw9 BW9
    rename World=>wf
    have HEM:Hid (k50.M wf w.heap.size (fun k=>wi.heap.size<=k) (⟨e.name,z41,V,!be,ps,false,⟨#[]⟩⟩:SA) [.string e.name,.int .i64 0,.int .i64 0,.int .i64 0,.int .i64 V.f0,.string V.f1,.int .u32 V.f2,.bool V.f3,.bool (!be),.slice Ap np cp,.bool false,.string ⟨#[]⟩]):=hid (k50_mkM wf w.heap.size _ (⟨e.name,z41,V,!be,ps,false,⟨#[]⟩⟩:SA) (Kd.R_lower (Kd.R_mono (Kd.R_bound RP.out) (fun k hk=>hk.2.1)) BL.out.size));have ROf:Hid (Kd.R k50 50 wf w.heap.size (fun _=>True) (.slice Ao no co) O):=hid (Kd.R_below RO.out BXp.out);have BWf:Hid (Below w.heap.size w wf):=hid (BL.out.trans (BXp.out.mono BL.out.size));have HOW:Hid (∀ k,(Value.slice Ao no co).ownBlock=some k->k<wi.heap.size):=hid (Kd.R_lt RO.out);obtain ⟨a0,a1,a2,a3,a4,a5,a6,a7,a8,a9,a10,a11⟩:=att_cells12 GAp.out
    go_wp2_with (first
     | (at_builtin;refine Kd.R_append k50 (w0:=wf) w.heap.size rfl (.tmp 97) (.tmp 99) 42 50 (.agg att0) 128 rfl Tryz.underlying42 infoAtt rfl (show 0<12 by decide) (by omega) (.slice Ao no co) O (⟨e.name,z41,V,!be,ps,false,⟨#[]⟩⟩:SA) [.string e.name,.int .i64 0,.int .i64 0,.int .i64 0,.int .i64 V.f0,.string V.f1,.int .u32 V.f2,.bool V.f3,.bool (!be),.slice Ap np cp,.bool false,.string ⟨#[]⟩] (fun _=>True) (fun k=>wi.heap.size<=k) rfl rfl HEM.out (fun k hk=>⟨trivial,fun h=>by have:=HOW.out k h.symm;omega⟩) (fun _ _=>trivial) ROf.out (Below.refl _ _) BWf.out.size (by have:=HOL.out;have:=HNO.out;omega) ?_;intro v7 w12 ho hb hg hat;have R7:=hid ho;have G7:=hid hg;clear ho hb hg hat a0 a1 a2 a3 a4 a5 a6 a7 a8 a9 a10 a11))
    have HNX:Hid ((O++[(⟨e.name,z41,V,!be,ps,false,⟨#[]⟩⟩:SA)])++ladL rs obj l (es.drop (i + 1))=RES):=hid (by rw [<- HRD.out,ladL_at HX.out,HLE2.out];simp)
    go_roundw
    case measure=>simp [intOf];omega
    case rel =>
     exact ⟨i + 1,_,by go_num,by omega,HNX,R7,hid (by rw [List.length_append];have:=HNO.out;have:=HOL.out;simp;omega),hid (below_own (wr:=w) BWf.out G7.out (fun k hk=>Kd.R_base ROf.out k hk))⟩
  ·obtain rfl:n=i:=by omega
   have HEND:Hid (O=RES):=hid (by
    have h:=HRD.out;rw [List.drop_eq_nil_of_le (by rw [HN.out];exact Nat.le_refl _)] at h
    simpa [ladL] using h)
   go_wp2_with fail
   go_ret
   refine ⟨BL.out,_,rfl,?_⟩
   rw [<- HEND.out];exact RO.out
theorem rlaid (rs:List SR):∀ m,RDC rs m:=by
 intro m
 induction m using Nat.strongRecOn with
 | _ m ih=>exact rlaid_step rs m ih
end Go.Proofs.YtmfejjlmflgnbaaGreatDoor.Sc

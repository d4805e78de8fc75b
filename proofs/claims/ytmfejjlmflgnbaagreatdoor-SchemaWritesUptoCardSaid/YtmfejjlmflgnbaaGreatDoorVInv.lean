/- A REGION THAT DRAWS ITS ORDER, BY WHAT EACH OPERATION LEAVES IN ITS SLOT and what holds of the world. -/
import Derived.Test.YtmfejjlmflgnbaaGreatDoorVRows0
import Derived.Test.YtmfejjlmflgnbaaGreatDoorVErr
set_option linter.unusedVariables false
set_option linter.unusedSimpArgs false
set_option maxRecDepth 100000
namespace Go.Proofs.YtmfejjlmflgnbaaGreatDoor.Sc
open RowKit PA YtmfejjlmflgnbaaGreatDoorW.PrintWords YtmfejjlmflgnbaaGreatDoorW.PrintLast YtmfejjlmflgnbaaGreatDoorW.PrintMore Sp Tr Tok
structure RS (ops:Array Oper) (nt:Nat) (D:List (Option Nat)) (fx:List (Nat × Value)) (V:Nat->Value->World->Prop) (J:Array Bool->World->Prop) (l:Array Bool) (a:Act) (w:World):Prop where
 df:a.defers=[]
 sz:a.tmps.size=nt
 lz:l.size=ops.size
 fix:∀ p ∈ fx,a.tmps.getD p.1 undef=p.2
 jj:J l w
 gd:∀ i d,i<ops.size->l.getD i true=true->D[i]?=some (some d)->V i (a.tmps.getD d undef) w
def okD (ops:Array Oper) (nt:Nat) (D:List (Option Nat)) (fs:List Nat):Bool :=
 (List.range ops.size).all fun i=>(match D[i]? with
  | some (some d)=>decide (d<nt)&&fs.all (fun s=>s != d)&&(List.range ops.size).all (fun j=>i == j||D[j]? != some (some d))
  | _=>true)&&match ops[i]? with
  | some o=>o.after.all (fun e=>!Region.binds .any e||decide (e.on<i))
  | none=>false
section
variable {P:Program} {ops:Array Oper} {Q:Exit->Act->World->Prop} {K:Act->World->Prop} {nt:Nat} {D:List (Option Nat)} {fx:List (Nat × Value)} {fs:List Nat} {V:Nat->Value->World->Prop} {J:Array Bool->World->Prop} {l:Array Bool} {a:Act} {w w':World} {i d:Nat}
theorem act_getD (a:Act) (d e:Nat) (v:Value) (hd:d<a.tmps.size):(a.put (some d) v).tmps.getD e undef=if d=e then v else a.tmps.getD e undef:=by
 show (a.tmps.setIfInBounds d v).getD e undef=_;simp only [Array.getD_eq_getD_getElem?,Array.getElem?_setIfInBounds]
 by_cases h:d=e
 ·subst h;simp [hd]
 ·simp [h]
theorem RS.put (h:RS ops nt D fx V J l a w) (hok:okD ops nt D fs=true) (hfs:fx.map Prod.fst=fs) (hrd:i ∈ Region.ready .any ops l) (hd:D[i]?=some (some d)) {v:Value} (hV:V i v w') (hm:∀ j u,V j u w->V j u w') (hJ:J (l.setIfInBounds i true) w') :
  RS ops nt D fx V J (l.setIfInBounds i true) (a.put (some d) v) w':=by
 have hi:=(ready_open hrd).1;have h1:=List.all_eq_true.1 hok i (List.mem_range.2 hi);rw [hd] at h1;simp only [Bool.and_eq_true,decide_eq_true_eq] at h1;obtain ⟨⟨⟨h2,h3⟩,h4⟩,_⟩:=h1
 refine ⟨h.df,?_,by simp [h.lz],fun p hp=>?_,hJ,fun j e hj hl he=>?_⟩
 ·show (a.tmps.setIfInBounds d v).size=nt
  simp [h.sz]
 ·rw [act_getD a d _ v (by rw [h.sz];exact h2),if_neg]
  ·exact h.fix p hp
  ·have h5:=List.all_eq_true.1 h3 p.1 (by rw [<- hfs];exact List.mem_map.2 ⟨p,hp,rfl⟩)
   simp only [bne_iff_ne,ne_eq] at h5;exact fun e=>h5 e.symm
 ·rw [act_getD a d _ v (by rw [h.sz];exact h2)]
  by_cases hij:i=j
  ·subst hij
   rw [hd] at he;injection he with he
   injection he with he
   rw [if_pos he];exact hV
  ·have h6:=List.all_eq_true.1 h4 j (List.mem_range.2 hj)
   simp only [Bool.or_eq_true,beq_iff_eq,bne_iff_ne,ne_eq] at h6;rw [if_neg]
   ·rw [getD_set l i j (by rw [h.lz];exact hi),if_neg hij] at hl
    exact hm j _ (h.gd j e hj hl he)
   ·rintro rfl
    rcases h6 with h6 | h6
    ·exact hij h6
    ·exact h6 he
theorem RS.put0 (h:RS ops nt D fx V J l a w) (hrd:i ∈ Region.ready .any ops l) (hd:D[i]?=some none) (hm:∀ j u,V j u w->V j u w') (hJ:J (l.setIfInBounds i true) w') :
  RS ops nt D fx V J (l.setIfInBounds i true) (a.put none undef) w':=by
 have hi:=(ready_open hrd).1
 refine ⟨h.df,h.sz,by simp [h.lz],h.fix,hJ,fun j e hj hl he=>?_⟩
 by_cases hij:i=j
 ·subst hij
  rw [hd] at he;cases he
 ·rw [getD_set l i j (by rw [h.lz];exact hi),if_neg hij] at hl
  exact hm j _ (h.gd j e hj hl he)
theorem RS.get (h:RS ops nt D fx V J l a w) (hrd:i ∈ Region.ready .any ops l) {j:Nat} (hdep:depB ops i j=true) (hj:j<ops.size) (hd:D[j]?=some (some d)):V j (a.tmps.getD d undef) w :=
 h.gd j d hj (ready_dep hrd hdep) hd
theorem rs_op {op:Op} {dd:Option Tmp} (ho:(ops[i]?).map (fun o=>(o.op,o.dst,o.guard))=some (op,dd,none))
  (h:∀ o:Oper,o.op=op->o.dst=dd->Region.wanted o (yielded ops a.tmps)=true->∀ K':Act->World->Prop,(∀ a w,K a w->K' a w)->if Region.wanted o (yielded ops a.tmps)=true then Oper.wp P o a w K' Q else K' (a.put o.dst undef) w):wpOp P ops Q i K a w:=by
 cases hO:ops[i]? with
 | none=>rw [hO] at ho;cases ho
 | some o =>
  rw [hO] at ho;simp only [Option.map_some,Option.some.injEq,Prod.mk.injEq] at ho;exact wpOp_step hO (h o ho.1 ho.2.1 (by unfold Region.wanted;rw [ho.2.2]))
theorem rs_value {op:Op} {v:Value} {w1:World} (ho:(ops[i]?).map (fun o=>(o.op,o.dst,o.guard))=some (op,some d,none))
  (hrun:∀ o:Oper,o.op=op->(execOp a.eval o).run P w=.ok (.value v) w1) (h:K (a.put (some d) v) w1):wpOp P ops Q i K a w :=
 rs_op ho (fun o h1 h2 h3 K' hK=>by
  rw [h2]
  exact value_ h3 h2 (hrun o h1) (hK _ _ h))
theorem rs_store {op:Op} {w1:World} (ho:(ops[i]?).map (fun o=>(o.op,o.dst,o.guard))=some (op,none,none))
  (hrun:∀ o:Oper,o.op=op->(execOp a.eval o).run P w=.ok .skip w1) (h:K (a.put none undef) w1):wpOp P ops Q i K a w :=
 rs_op ho (fun o h1 h2 h3 K' hK=>by
  rw [h2];have hs:=skip_ (ops:=ops) (Q:=Q) (K:=K') h3 h2 (hrun o h1) (hK _ _ h)
  exact hs)
theorem rs_call {f:Nat} {fn:Func} {aa:Array Operand} {ts:Array TypeId} {args:Array Value} (ho:(ops[i]?).map (fun o=>(o.op,o.dst,o.guard))=some (.call { callee:=.value (.func f),args:=aa,argTypes:=ts },some d,none))
  (hf : P.funcs[f]? = some fn) (hname : (fn.name == "runtime.NumGoroutine") = false) (hb : fn.body.isSome = true) (hargs : aa.map a.eval = args)
  (h:Calls P f args w fun e w'=>∃ v,e=.returned v/\K (a.put (some d) v) w'):wpOp P ops Q i K a w :=
 rs_op ho (fun o h1 h2 h3 K' hK=>by
  rw [h2]
  exact goes_ hf hname hb args h3 h2 h1 hargs (h.mono (fun e w' hh=>by
   obtain ⟨v,he,hk⟩:=hh
   exact ⟨v,he,hK _ _ hk⟩)))
theorem rs_listed (hok:okD ops nt D fs=true) (lz:l.size=ops.size) (h:Region.ready .any ops l=[]):∀ i,i<ops.size->l.getD i true=true:=by
 intro i
 induction i using Nat.strongRecOn with
 | ind i ih =>
  intro hi;cases hl:l.getD i true with
  | true=>rfl
  | false =>
   exfalso
   have hm:i ∈ Region.ready .any ops l:=by
    unfold Region.ready
    refine List.mem_filter.2 ⟨List.mem_range.2 hi,?_⟩
    have h1:=List.all_eq_true.1 hok i (List.mem_range.2 hi);simp only [Bool.and_eq_true] at h1;have ho:=h1.2;rw [Array.getElem?_eq_getElem hi] at ho ⊢;simp only [Option.map_some,Option.getD_some,hl,Bool.not_false,Bool.true_and]
    refine Array.all_eq_true.2 (fun k hk=>?_)
    have hk2:=Array.all_eq_true.1 ho k hk;cases hb:Region.binds .any (ops[i].after[k]) with
    | false=>rfl
    | true =>
     rw [hb] at hk2;simp only [Bool.not_true,Bool.false_or,decide_eq_true_eq] at hk2 ⊢;have hk3:=ih _ hk2 (by omega);simp only [Array.getD_eq_getD_getElem?,Array.getElem?_eq_getElem (show ops[i].after[k].on<l.size by omega),Option.getD_some] at hk3 ⊢;exact hk3
   rw [h] at hm;cases hm
theorem rs_region {id:Nat} (hm:P.follows .mixedOrders=true) (hok:okD ops nt D fs=true) (hstep:∀ l a w i,RS ops nt D fx V J l a w->i<ops.size->i ∈ Region.ready .any ops l->wpOp P ops Q i (fun a' w'=>RS ops nt D fx V J (l.setIfInBounds i true) a' w') a w)
  (hfin:∀ l a w,RS ops nt D fx V J l a w->(∀ i,i<ops.size->l.getD i true=true)->Q .normal a w) (hd:a.defers=[]) (hz:a.tmps.size=nt) (hfx:∀ p ∈ fx,a.tmps.getD p.1 undef=p.2) (hJ:J (Array.replicate ops.size false) w.drew):(Code.region id ops true).wp P Q a w:=by
 refine region_inv hm (fun l a' w'=>RS ops nt D fx V J l a' w') (fun l a' w' i hI hi=>hstep l a' w' i hI (ready_open hi).1 hi) (fun l a' w' hI hr=>hfin l a' w' hI (rs_listed hok hI.lz hr)) ⟨hd,hz,by simp,hfx,hJ,fun i d hi hl _=>?_⟩
 exfalso
 rw [Array.getD_eq_getD_getElem?,Array.getElem?_replicate,if_pos hi] at hl;simp at hl
end
structure RL (ops:Array Oper) (nt:Nat) (D:List (Option Nat)) (fx:List (Nat × Value)) (V:Array Bool->Nat->Value->World->Prop) (J:Array Bool->World->Prop) (l:Array Bool) (a:Act) (w:World):Prop where
 df:a.defers=[]
 sz:a.tmps.size=nt
 lz:l.size=ops.size
 fix:∀ p ∈ fx,a.tmps.getD p.1 undef=p.2
 lc:ListedClosed .any ops l
 jj:J l w
 gd:∀ i d,i<ops.size->l.getD i true=true->D[i]?=some (some d)->V l i (a.tmps.getD d undef) w
section
variable {P:Program} {ops:Array Oper} {Q:Exit->Act->World->Prop} {K:Act->World->Prop} {nt:Nat} {D:List (Option Nat)} {fx:List (Nat × Value)} {fs:List Nat} {V:Array Bool->Nat->Value->World->Prop} {J:Array Bool->World->Prop} {l:Array Bool} {a:Act} {w w':World} {i d:Nat}
theorem RL.put (h:RL ops nt D fx V J l a w) (hok:okD ops nt D fs=true) (hfs:fx.map Prod.fst=fs) (hrd:i ∈ Region.ready .any ops l) (hd:D[i]?=some (some d)) {v:Value} (hV:V (l.setIfInBounds i true) i v w') (hm:∀ j u,j<ops.size->j≠i->l.getD j true=true->V l j u w->V (l.setIfInBounds i true) j u w') (hJ:J (l.setIfInBounds i true) w') :
  RL ops nt D fx V J (l.setIfInBounds i true) (a.put (some d) v) w':=by
 have hi:=(ready_open hrd).1;have h1:=List.all_eq_true.1 hok i (List.mem_range.2 hi);rw [hd] at h1;simp only [Bool.and_eq_true,decide_eq_true_eq] at h1;obtain ⟨⟨⟨h2,h3⟩,h4⟩,_⟩:=h1
 refine ⟨h.df,?_,by simp [h.lz],fun p hp=>?_,h.lc.set hrd,hJ,fun j e hj hl he=>?_⟩
 ·show (a.tmps.setIfInBounds d v).size=nt
  simp [h.sz]
 ·rw [act_getD a d _ v (by rw [h.sz];exact h2),if_neg]
  ·exact h.fix p hp
  ·have h5:=List.all_eq_true.1 h3 p.1 (by rw [<- hfs];exact List.mem_map.2 ⟨p,hp,rfl⟩)
   simp only [bne_iff_ne,ne_eq] at h5;exact fun e=>h5 e.symm
 ·rw [act_getD a d _ v (by rw [h.sz];exact h2)]
  by_cases hij:i=j
  ·subst hij
   rw [hd] at he;injection he with he
   injection he with he
   rw [if_pos he];exact hV
  ·have h6:=List.all_eq_true.1 h4 j (List.mem_range.2 hj)
   simp only [Bool.or_eq_true,beq_iff_eq,bne_iff_ne,ne_eq] at h6;rw [if_neg]
   ·rw [getD_set l i j (by rw [h.lz];exact hi),if_neg hij] at hl
    exact hm j _ hj (fun x=>hij x.symm) hl (h.gd j e hj hl he)
   ·rintro rfl
    rcases h6 with h6 | h6
    ·exact hij h6
    ·exact h6 he
theorem RL.put0 (h:RL ops nt D fx V J l a w) (hrd:i ∈ Region.ready .any ops l) (hd:D[i]?=some none) (hm:∀ j u,j<ops.size->j≠i->l.getD j true=true->V l j u w->V (l.setIfInBounds i true) j u w') (hJ:J (l.setIfInBounds i true) w') :
  RL ops nt D fx V J (l.setIfInBounds i true) (a.put none undef) w':=by
 have hi:=(ready_open hrd).1
 refine ⟨h.df,h.sz,by simp [h.lz],h.fix,h.lc.set hrd,hJ,fun j e hj hl he=>?_⟩
 by_cases hij:i=j
 ·subst hij
  rw [hd] at he;cases he
 ·rw [getD_set l i j (by rw [h.lz];exact hi),if_neg hij] at hl
  exact hm j _ hj (fun x=>hij x.symm) hl (h.gd j e hj hl he)
theorem RL.get (h:RL ops nt D fx V J l a w) (hrd:i ∈ Region.ready .any ops l) {j:Nat} (hdep:depB ops i j=true) (hj:j<ops.size) (hd:D[j]?=some (some d)):V l j (a.tmps.getD d undef) w :=
 h.gd j d hj (ready_dep hrd hdep) hd
theorem RL.late (h:RL ops nt D fx V J l a w) (hrd:i ∈ Region.ready .any ops l) {j n:Nat} (hj:j<ops.size) (hr:Region.reachB .any ops i n j=true):l.getD j true=false:=by
 have hi:=ready_open hrd;cases hl:l.getD j true with
 | false=>rfl
 | true =>
  exfalso
  have e:∀ k,k<ops.size->l.getD k true=l.getD k false:=fun k hk=>by
   simp only [Array.getD_eq_getD_getElem?,Array.getElem?_eq_getElem (show k<l.size by rw [h.lz];exact hk),Option.getD_some]
  rw [e j hj] at hl;have:=Region.reach_listed h.lc n j hr hl;rw [<- e i hi.1,hi.2] at this;cases this
theorem rl_region {id:Nat} (hm:P.follows .mixedOrders=true) (hok:okD ops nt D fs=true) (hstep:∀ l a w i,RL ops nt D fx V J l a w->i<ops.size->i ∈ Region.ready .any ops l->wpOp P ops Q i (fun a' w'=>RL ops nt D fx V J (l.setIfInBounds i true) a' w') a w)
  (hfin:∀ l a w,RL ops nt D fx V J l a w->(∀ i,i<ops.size->l.getD i true=true)->Q .normal a w) (hd:a.defers=[]) (hz:a.tmps.size=nt) (hfx:∀ p ∈ fx,a.tmps.getD p.1 undef=p.2) (hJ:J (Array.replicate ops.size false) w.drew):(Code.region id ops true).wp P Q a w:=by
 refine region_inv hm (fun l a' w'=>RL ops nt D fx V J l a' w') (fun l a' w' i hI hi=>hstep l a' w' i hI (ready_open hi).1 hi) (fun l a' w' hI hr=>hfin l a' w' hI (rs_listed hok hI.lz hr)) ⟨hd,hz,by simp,hfx,fun j oj hj hl=>?_,hJ,fun i d hi hl _=>?_⟩
 ·exfalso
  rw [Array.getD_eq_getD_getElem?,Array.getElem?_replicate] at hl
  split at hl <;> simp at hl
 exfalso
 rw [Array.getD_eq_getD_getElem?,Array.getElem?_replicate,if_pos hi] at hl;simp at hl
end
abbrev shC (cpu:ByteArray) (v:Value):Array Value:=#[.string cpu,v]
abbrev faC (code:Int) (sp:SP) (n:ByteArray):Array Value:=#[.int .i64 code,.int .i64 sp.f0,.int .i64 sp.f1,.int .i64 sp.f2,.string n]
abbrev sh0:Array Value:=#[.string ⟨#[]⟩,.slice none 0 0]
abbrev fa0:Array Value:=#[.int .i64 0,.int .i64 0,.int .i64 0,.int .i64 0,.string ⟨#[]⟩]
noncomputable def OPT:Array Oper:=opsOf Tryz.f29 12
theorem opt_size:OPT.size=14:=by kernel_rfl
def DT:List (Option Nat):=[some 55,some 56,some 57,some 58,some 59,some 60,some 61,some 62,some 63,some 64,some 65,some 66,none,none]
theorem dt_ok:okD OPT 83 DT [2,3,8,10]=true:=by kernel_rfl
section
variable {Q:Exit->Act->World->Prop} {eb:Int->Addr} {w0:World} {b fb b2 b3:Nat} {F:SF} {l:Array Bool} {a:Act} {w:World}
abbrev ptrV (b o:Nat):Value:=.pointer (some ⟨b,o,none⟩)
def VT (b:Nat) (F:SF):Nat->Value->World->Prop
 | 0,v,_=>v=.agg sh0
 | 1,v,_=>v=flawP b
 | 2,v,_=>v=.int .i64 F.code
 | 3,v,_=>v=ptrV b 0
 | 4,v,_=>v=ptrV b 0
 | 5,v,_=>v=ptrV b 1
 | 6,v,_=>v=spotV F.spot
 | 7,v,_=>v=ptrV b 0
 | 8,v,_=>v=ptrV b 0
 | 9,v,_=>v=ptrV b 4
 | 10,v,_=>v=.string F.name
 | 11,v,_=>v=.agg (faC F.code F.spot F.name)
 | _,_,_=>True
theorem vt_move {w w':World}:∀ j u,VT b F j u w->VT b F j u w':=fun j u h=>by
 unfold VT at h ⊢
 split at h <;> exact h
structure JT (eb:Int->Addr) (w0:World) (b fb b2 b3:Nat) (F:SF) (l:Array Bool) (w:World):Prop where
 bel:Below w0.heap.size w0 w
 e1:w.heap[fb]?=some (.cells #[ptrV b 0] 129 (0,0))
 e2:w.heap[b]?=some (.cells (flawC eb F) 131 (0,0))
 e3:w.heap[b2]?=some (.cells sh0 64 (0,0))
 e4:∃ c:Array Value,c.size=5/\w.heap[b3]?=some (.cells c 66 (0,0))/\(l.getD 13 true=true->c=faC F.code F.spot F.name)
abbrev RT (eb:Int->Addr) (w0:World) (b fb b2 b3:Nat) (F:SF):Array Bool->Act->World->Prop:=RS OPT 83 DT [(2,ptrV b2 0),(3,ptrV b3 0),(8,flawP b),(10,ptrV fb 0)] (VT b F) (JT eb w0 b fb b2 b3 F)
theorem blk_ne {w:World} {g h:Nat} {c d:Array Value} {S T:TypeId} (h1:w.heap[g]?=some (.cells c S (0,0))) (h2:w.heap[h]?=some (.cells d T (0,0))) (hne:S≠T):g≠h:=by
 rintro rfl;rw [h1] at h2;injection h2 with h2
 injection h2 with _ h2
 exact hne h2
theorem rt_read {i d:Nat} (hi13:i≠13) (h:RT eb w0 b fb b2 b3 F l a w) (hrd:i ∈ Region.ready .any OPT l) (hd:DT[i]?=some (some d)) {op:Op} {v:Value} (ho:(OPT[i]?).map (fun o=>(o.op,o.dst,o.guard))=some (op,some d,none))
  (hrun:∀ o:Oper,o.op=op->(execOp a.eval o).run Tryz.prog w=.ok (.value v) w) (hV:VT b F i v w):wpOp Tryz.prog OPT Q i (RT eb w0 b fb b2 b3 F (l.setIfInBounds i true)) a w:=by
 refine rs_value ho hrun (h.put dt_ok rfl hrd hd hV vt_move ?_)
 obtain ⟨j1,j2,j3,j4,c,j5,j6,j7⟩:=h.jj
 refine ⟨j1,j2,j3,j4,c,j5,j6,fun hl=>j7 ?_⟩
 rw [getD_set l i 13 (by have:=(ready_open hrd).1;rw [h.lz];exact this),if_neg hi13] at hl;exact hl
theorem rt_0 (h:RT eb w0 b fb b2 b3 F l a w) (hrd:0 ∈ Region.ready .any OPT l):wpOp Tryz.prog OPT Q 0 (RT eb w0 b fb b2 b3 F (l.setIfInBounds 0 true)) a w :=
 rt_read (d:=55) (op:=.build 64 #[]) (v:=.agg sh0) (by decide) h hrd rfl (by kernel_rfl) (by intro o ho;cases o;cases ho;kernel_rfl) rfl
theorem rt_1 (h:RT eb w0 b fb b2 b3 F l a w) (hrd:1 ∈ Region.ready .any OPT l):wpOp Tryz.prog OPT Q 1 (RT eb w0 b fb b2 b3 F (l.setIfInBounds 1 true)) a w :=
 rt_read (d:=56) (op:=.move (.tmp 8)) (v:=a.tmps.getD 8 undef) (by decide) h hrd rfl (by kernel_rfl) (by intro o ho;unfold execOp;rw [ho];rfl) (h.fix (8,flawP b) (by simp))
theorem rt_2 (hG:EGlob eb w0) (hc:50<=F.code/\F.code<=56) (h:RT eb w0 b fb b2 b3 F l a w) (hrd:2 ∈ Region.ready .any OPT l):wpOp Tryz.prog OPT Q 2 (RT eb w0 b fb b2 b3 F (l.setIfInBounds 2 true)) a w:=by
 have hv:a.tmps.getD 56 undef=flawP b:=h.get hrd (j:=1) (by kernel_rfl) (by rw [opt_size];decide) rfl
 refine rs_call (d:=57) (aa:=#[.tmp 56]) (ts:=#[84]) (args:=#[flawP b]) (by kernel_rfl) Tryz.func69 rfl rfl (by simp only [List.map_toArray,List.map_cons,List.map_nil,Act.eval,hv]) ((code_calls eb b 0 F w ⟨Nat.zero_le _,h.jj.e2⟩ hc (hG.below h.jj.bel)).mono ?_)
 rintro e w' ⟨rfl,rfl⟩
 refine ⟨_,rfl,h.put dt_ok rfl hrd rfl rfl vt_move ?_⟩
 obtain ⟨j1,j2,j3,j4,c,j5,j6,j7⟩:=h.jj
 refine ⟨j1,j2,j3,j4,c,j5,j6,fun hl=>j7 ?_⟩
 rw [getD_set l 2 13 (by have:=(ready_open hrd).1;rw [h.lz];exact this),if_neg (by decide)] at hl;exact hl
theorem rt_3 (h:RT eb w0 b fb b2 b3 F l a w) (hrd:3 ∈ Region.ready .any OPT l):wpOp Tryz.prog OPT Q 3 (RT eb w0 b fb b2 b3 F (l.setIfInBounds 3 true)) a w:=by
 have hv:a.tmps.getD 10 undef=ptrV fb 0:=h.fix (10,ptrV fb 0) (by simp);have k0:=(cell_row h.jj.e1 0).trans rfl;exact rt_read (d:=58) (op:=.load 129 (.tmp 10)) (v:=ptrV b 0) (by decide) h hrd rfl (by kernel_rfl) (by intro o ho;unfold execOp;rw [ho];rw [Array.getD_eq_getD_getElem?] at hv;simp [Act.eval,hv,go_sem,k0]) rfl
theorem rt_7 (h:RT eb w0 b fb b2 b3 F l a w) (hrd:7 ∈ Region.ready .any OPT l):wpOp Tryz.prog OPT Q 7 (RT eb w0 b fb b2 b3 F (l.setIfInBounds 7 true)) a w:=by
 have hv:a.tmps.getD 10 undef=ptrV fb 0:=h.fix (10,ptrV fb 0) (by simp);have k0:=(cell_row h.jj.e1 0).trans rfl;exact rt_read (d:=62) (op:=.load 129 (.tmp 10)) (v:=ptrV b 0) (by decide) h hrd rfl (by kernel_rfl) (by intro o ho;unfold execOp;rw [ho];rw [Array.getD_eq_getD_getElem?] at hv;simp [Act.eval,hv,go_sem,k0]) rfl
theorem rt_4 (h:RT eb w0 b fb b2 b3 F l a w) (hrd:4 ∈ Region.ready .any OPT l):wpOp Tryz.prog OPT Q 4 (RT eb w0 b fb b2 b3 F (l.setIfInBounds 4 true)) a w:=by
 have hv:a.tmps.getD 58 undef=ptrV b 0:=h.get hrd (j:=3) (by kernel_rfl) (by rw [opt_size];decide) rfl;exact rt_read (d:=59) (op:=.nilCheck (.tmp 58)) (v:=ptrV b 0) (by decide) h hrd rfl (by kernel_rfl) (by intro o ho;unfold execOp;rw [ho];rw [Array.getD_eq_getD_getElem?] at hv;simp [Act.eval,hv]) rfl
theorem rt_8 (h:RT eb w0 b fb b2 b3 F l a w) (hrd:8 ∈ Region.ready .any OPT l):wpOp Tryz.prog OPT Q 8 (RT eb w0 b fb b2 b3 F (l.setIfInBounds 8 true)) a w:=by
 have hv:a.tmps.getD 62 undef=ptrV b 0:=h.get hrd (j:=7) (by kernel_rfl) (by rw [opt_size];decide) rfl;exact rt_read (d:=63) (op:=.nilCheck (.tmp 62)) (v:=ptrV b 0) (by decide) h hrd rfl (by kernel_rfl) (by intro o ho;unfold execOp;rw [ho];rw [Array.getD_eq_getD_getElem?] at hv;simp [Act.eval,hv]) rfl
theorem rt_5 (h:RT eb w0 b fb b2 b3 F l a w) (hrd:5 ∈ Region.ready .any OPT l):wpOp Tryz.prog OPT Q 5 (RT eb w0 b fb b2 b3 F (l.setIfInBounds 5 true)) a w:=by
 have hv:a.eval (.tmp 59)=ptrV b 0:=h.get hrd (j:=4) (by kernel_rfl) (by rw [opt_size];decide) rfl;exact rt_read (d:=60) (op:=.fieldAddr 131 (.tmp 59) 1) (v:=ptrV b 1) (by decide) h hrd rfl (by kernel_rfl) (by intro o ho;unfold execOp;rw [ho];simp only [hv];kernel_rfl) rfl
theorem rt_9 (h:RT eb w0 b fb b2 b3 F l a w) (hrd:9 ∈ Region.ready .any OPT l):wpOp Tryz.prog OPT Q 9 (RT eb w0 b fb b2 b3 F (l.setIfInBounds 9 true)) a w:=by
 have hv:a.eval (.tmp 63)=ptrV b 0:=h.get hrd (j:=8) (by kernel_rfl) (by rw [opt_size];decide) rfl;exact rt_read (d:=64) (op:=.fieldAddr 131 (.tmp 63) 2) (v:=ptrV b 4) (by decide) h hrd rfl (by kernel_rfl) (by intro o ho;unfold execOp;rw [ho];simp only [hv];kernel_rfl) rfl
theorem rt_6 (h:RT eb w0 b fb b2 b3 F l a w) (hrd:6 ∈ Region.ready .any OPT l):wpOp Tryz.prog OPT Q 6 (RT eb w0 b fb b2 b3 F (l.setIfInBounds 6 true)) a w:=by
 have hv:a.tmps.getD 60 undef=ptrV b 1:=h.get hrd (j:=5) (by kernel_rfl) (by rw [opt_size];decide) rfl;have k1:w.cell? ⟨b,1,none⟩=some (.int .i64 F.spot.f0):=(cell_row h.jj.e2 1).trans rfl;have k2:w.cell? ⟨b,2,none⟩=some (.int .i64 F.spot.f1):=(cell_row h.jj.e2 2).trans rfl;have k3:w.cell? ⟨b,3,none⟩=some (.int .i64 F.spot.f2):=(cell_row h.jj.e2 3).trans rfl;exact rt_read (d:=61) (op:=.load 41 (.tmp 60)) (v:=spotV F.spot) (by decide) h hrd rfl (by kernel_rfl) (by intro o ho;unfold execOp;rw [ho];rw [Array.getD_eq_getD_getElem?] at hv;simp [Act.eval,hv,go_sem,k1,k2,k3]) rfl
theorem rt_10 (h:RT eb w0 b fb b2 b3 F l a w) (hrd:10 ∈ Region.ready .any OPT l):wpOp Tryz.prog OPT Q 10 (RT eb w0 b fb b2 b3 F (l.setIfInBounds 10 true)) a w:=by
 have hv:a.tmps.getD 64 undef=ptrV b 4:=h.get hrd (j:=9) (by kernel_rfl) (by rw [opt_size];decide) rfl;have k1:w.cell? ⟨b,4,none⟩=some (.string F.name):=(cell_row h.jj.e2 4).trans rfl;exact rt_read (d:=65) (op:=.load 9 (.tmp 64)) (v:=.string F.name) (by decide) h hrd rfl (by kernel_rfl) (by intro o ho;unfold execOp;rw [ho];rw [Array.getD_eq_getD_getElem?] at hv;simp [Act.eval,hv,go_sem,k1]) rfl
theorem rt_11 (h:RT eb w0 b fb b2 b3 F l a w) (hrd:11 ∈ Region.ready .any OPT l):wpOp Tryz.prog OPT Q 11 (RT eb w0 b fb b2 b3 F (l.setIfInBounds 11 true)) a w:=by
 have v1:a.eval (.tmp 57)=.int .i64 F.code:=h.get hrd (j:=2) (by kernel_rfl) (by rw [opt_size];decide) rfl;have v2:a.eval (.tmp 61)=spotV F.spot:=h.get hrd (j:=6) (by kernel_rfl) (by rw [opt_size];decide) rfl;have v3:a.eval (.tmp 65)=.string F.name:=h.get hrd (j:=10) (by kernel_rfl) (by rw [opt_size];decide) rfl;exact rt_read (d:=66) (op:=.build 66 #[(0,.tmp 57),(1,.tmp 61),(2,.tmp 65)]) (v:=.agg (faC F.code F.spot F.name)) (by decide) h hrd rfl (by kernel_rfl) (by intro o ho;unfold execOp;rw [ho];simp only [List.map_toArray,List.map_cons,List.map_nil,v1,v2,v3];kernel_rfl) rfl
theorem rt_12 (hb2:w0.heap.size<=b2) (h:RT eb w0 b fb b2 b3 F l a w) (hrd:12 ∈ Region.ready .any OPT l):wpOp Tryz.prog OPT Q 12 (RT eb w0 b fb b2 b3 F (l.setIfInBounds 12 true)) a w:=by
 have v1:a.eval (.tmp 2)=ptrV b2 0:=h.fix (2,ptrV b2 0) (by simp);have v2:a.eval (.tmp 55)=.agg sh0:=h.get hrd (j:=0) (by kernel_rfl) (by rw [opt_size];decide) rfl;obtain ⟨j1,j2,j3,j4,c,j5,j6,j7⟩:=h.jj;have hr:=run_storeVar_row (P:=Tryz.prog) w b2 64 64 sh0 sh0 j4 (by kernel_rfl) rfl (by simp [Value.oneCell'])
 refine rs_store (op:=.store 64 (.tmp 2) (.tmp 55)) (w1:=w.setRow b2 sh0) (by kernel_rfl) (fun o ho=>by
  unfold execOp
  simp only [ho,v1,v2,Instr.storeAt,Instr.sureAddr,Sem.run_bind,Sem.run_pure,Result.andThen_ok,hr]) (h.put0 hrd rfl vt_move ?_)
 have ho:∀ k,k≠b2->(w.setRow b2 sh0).heap[k]?=w.heap[k]?:=fun k hk=>setRow_other w b2 k sh0 hk
 refine ⟨j1.trans (setRow_below w b2 _ _ hb2),(ho _ (blk_ne j2 j4 (by decide))).trans j2,(ho _ (blk_ne j3 j4 (by decide))).trans j3,setRow_heap w b2 sh0 sh0 64 (0,0) j4,c,j5,(ho _ (blk_ne j6 j4 (by decide))).trans j6,fun hl=>j7 ?_⟩
 rw [getD_set l 12 13 (by have:=(ready_open hrd).1;rw [h.lz];exact this),if_neg (by decide)] at hl;exact hl
theorem rt_13 (hb3:w0.heap.size<=b3) (h:RT eb w0 b fb b2 b3 F l a w) (hrd:13 ∈ Region.ready .any OPT l):wpOp Tryz.prog OPT Q 13 (RT eb w0 b fb b2 b3 F (l.setIfInBounds 13 true)) a w:=by
 have v1:a.eval (.tmp 3)=ptrV b3 0:=h.fix (3,ptrV b3 0) (by simp);have v2:a.eval (.tmp 66)=.agg (faC F.code F.spot F.name):=h.get hrd (j:=11) (by kernel_rfl) (by rw [opt_size];decide) rfl;obtain ⟨j1,j2,j3,j4,c,j5,j6,j7⟩:=h.jj;have hr:=run_storeVar_row (P:=Tryz.prog) w b3 66 66 c (faC F.code F.spot F.name) j6 (by kernel_rfl) j5 (by simp [Value.oneCell'])
 refine rs_store (op:=.store 66 (.tmp 3) (.tmp 66)) (w1:=w.setRow b3 (faC F.code F.spot F.name)) (by kernel_rfl) (fun o ho=>by
  unfold execOp
  simp only [ho,v1,v2,Instr.storeAt,Instr.sureAddr,Sem.run_bind,Sem.run_pure,Result.andThen_ok,hr]) (h.put0 hrd rfl vt_move ?_)
 have ho:∀ k,k≠b3->(w.setRow b3 (faC F.code F.spot F.name)).heap[k]?=w.heap[k]?:=fun k hk=>setRow_other w b3 k _ hk;exact ⟨j1.trans (setRow_below w b3 _ _ hb3),(ho _ (blk_ne j2 j6 (by decide))).trans j2,(ho _ (blk_ne j3 j6 (by decide))).trans j3,(ho _ (blk_ne j4 j6 (by decide))).trans j4,_,rfl,setRow_heap w b3 c _ 66 (0,0) j6,fun _=>rfl⟩
theorem region12 {P:Program} {ops:Array Oper} (hop:ops=OPT) (hP:P=Tryz.prog) {id:Nat} (hm:P.follows .mixedOrders=true) (hd:a.defers=[]) (hz:a.tmps.size=83) (h2:a.tmps.getD 2 undef=ptrV b2 0) (h3:a.tmps.getD 3 undef=ptrV b3 0) (h8:a.tmps.getD 8 undef=flawP b) (h10:a.tmps.getD 10 undef=ptrV fb 0)
  (hB:Below w0.heap.size w0 w) (hG:EGlob eb w0) (hc:50<=F.code/\F.code<=56) (e1:w.heap[fb]?=some (.cells #[ptrV b 0] 129 (0,0))) (e2:w.heap[b]?=some (.cells (flawC eb F) 131 (0,0))) (e3:w.heap[b2]?=some (.cells sh0 64 (0,0))) (e4:w.heap[b3]?=some (.cells fa0 66 (0,0)))
  (hb2:w0.heap.size<=b2) (hb3:w0.heap.size<=b3)
  (hfin:∀ a' w',a'.defers=[]->a'.tmps.getD 2 undef=ptrV b2 0->a'.tmps.getD 3 undef=ptrV b3 0->Below w0.heap.size w0 w'->w'.heap[b2]?=some (.cells sh0 64 (0,0))->w'.heap[b3]?=some (.cells (faC F.code F.spot F.name) 66 (0,0))->Q .normal a' w'):(Code.region id ops true).wp P Q a w:=by
 subst hop;subst hP
 refine rs_region (V:=VT b F) (J:=JT eb w0 b fb b2 b3 F) (fx:=[(2,ptrV b2 0),(3,ptrV b3 0),(8,flawP b),(10,ptrV fb 0)]) hm dt_ok ?_ ?_ hd hz ?_ ⟨hB.drew,e1,e2,e3,fa0,rfl,e4,fun hl=>?_⟩
 ·intro l a w i h hi hrd
  rw [opt_size] at hi
  match i,hi,hrd with
  | 0,_,hrd=>exact rt_0 h hrd
  | 1,_,hrd=>exact rt_1 h hrd
  | 2,_,hrd=>exact rt_2 hG hc h hrd
  | 3,_,hrd=>exact rt_3 h hrd
  | 4,_,hrd=>exact rt_4 h hrd
  | 5,_,hrd=>exact rt_5 h hrd
  | 6,_,hrd=>exact rt_6 h hrd
  | 7,_,hrd=>exact rt_7 h hrd
  | 8,_,hrd=>exact rt_8 h hrd
  | 9,_,hrd=>exact rt_9 h hrd
  | 10,_,hrd=>exact rt_10 h hrd
  | 11,_,hrd=>exact rt_11 h hrd
  | 12,_,hrd=>exact rt_12 hb2 h hrd
  | 13,_,hrd=>exact rt_13 hb3 h hrd
  | n + 14,hn,_=>exact absurd hn (by omega)
 ·intro l a' w' h hall
  obtain ⟨c,j5,j6,j7⟩:=h.jj.e4;have hl:=hall 13 (by rw [opt_size];decide);obtain rfl:=j7 hl;exact hfin a' w' h.df (h.fix (2,ptrV b2 0) (by simp)) (h.fix (3,ptrV b3 0) (by simp)) h.jj.bel h.jj.e3 j6
 ·intro p hp
  simp only [List.mem_cons,List.not_mem_nil,or_false] at hp;rcases hp with rfl | rfl | rfl | rfl
  ·exact h2
  ·exact h3
  ·exact h8
  ·exact h10
 ·exfalso
  rw [Array.getD_eq_getD_getElem?,Array.getElem?_replicate,if_pos (by rw [opt_size];decide)] at hl;simp at hl
end
end Go.Proofs.YtmfejjlmflgnbaaGreatDoor.Sc

/- THE APPENDING REGION of package schema's Write: 't.Objects = append(t.Objects, api.Object{.. w.attrs(x.Kind, w.behind(x.Kind, "", ""), x.Entries)})', in any order. -/
import Derived.Test.YtmfejjlmflgnbaaGreatDoorVInv
import Derived.Test.YtmfejjlmflgnbaaGreatDoorVWAt
import Derived.Test.YtmfejjlmflgnbaaGreatDoorVAlk
import Derived.Test.YtmfejjlmflgnbaaGreatDoorVVal
set_option linter.unusedVariables false
set_option linter.unusedSimpArgs false
set_option maxRecDepth 100000
namespace Go.Proofs.YtmfejjlmflgnbaaGreatDoor.Sc
open RowKit PA YtmfejjlmflgnbaaGreatDoorW.PrintWords YtmfejjlmflgnbaaGreatDoorW.PrintLast YtmfejjlmflgnbaaGreatDoorW.PrintMore Sp Tr Tok
abbrev ver:ByteArray:=⟨#[50,46,53]⟩
abbrev trV (cpu:ByteArray) (v:Value):Array Value:=#[.string ver,.string cpu,v,.bool false,.string ⟨#[]⟩]
abbrev ptW (b o:Nat):Value:=.pointer (some ⟨b,o,none⟩)
def obz:Array Value:=#[.string ⟨#[]⟩,.string ⟨#[]⟩,.int .i64 0,.int .i64 0,.int .i64 0,.slice none 0 0,.bool false,.string ⟨#[]⟩]
theorem infoObj:(Tryz.prog.info? 44).map (fun i=>(i.zero,i.size,i.bytes))=some (some (.agg obz),8,104):=by kernel_rfl
abbrev obL (x:SI) (v:Value):List Value:=[.string x.kind,.string x.name,.int .i64 0,.int .i64 0,.int .i64 0,v,.bool false,.string ⟨#[]⟩]
abbrev obO (x:SI) (ps:List SA):SO:=⟨x.kind,x.name,z41,ps,false,⟨#[]⟩⟩
noncomputable def OPG:Array Oper:=opsOf Tryz.f32 8
theorem opg_size:OPG.size=23:=by kernel_rfl
def DG:List (Option Nat):=[some 45,some 46,some 47,some 48,some 49,some 50,some 51,some 52,some 53,some 54,some 55,some 56,some 57,some 58,some 59,some 60,some 61,some 62,some 63,some 64,some 65,some 66,none]
def FSG:List Nat:=[0,1,2,3,4,5,6,7,8,9,10,11,12,13,14,15,16,17,18,19,20,21,22,23,24,25,26,27,28,29,30,31,32,33,34,35,36,37,38,39,40,41,42,43,44,67,68,69,70,71,72,73,74,75,76,77,78,79,80,81,82,83,84,85,86,87,88,89,90,91,92]
theorem dg_ok:okD OPG 93 DG FSG=true:=by kernel_rfl
structure GW where
 fx:List (Nat × Value)
 W:World
 wz:World
 wb:Nat
 tb:Nat
 it:Nat
 B0:Nat
 cpu:ByteArray
 x:SI
 I:List SR
 rL:List SA × Bool
 Ar:Option Addr
 cr:Nat
 q:Bool
 Ao:Option Addr
 co:Nat
 acc:List SO
 Ae:Option Addr
 ce:Nat
section
variable (g:GW)
abbrev GW.ps (g:GW) (w:World) (v:Value):Prop:=Kd.R k50 50 w g.B0 (fun k=>g.W.heap.size<=k) v g.rL.1
abbrev GW.ob (g:GW) (w:World):Prop:=Kd.R k44 44 w g.B0 (fun k=>g.tb<k/\k<g.W.heap.size) (.slice g.Ao g.acc.length g.co) g.acc
abbrev GW.on (g:GW) (w:World) (v:Value):Prop:=Kd.R k44 44 w g.B0 (fun k=>g.tb<k) v (g.acc++[obO g.x g.rL.1])
def VG (l:Array Bool):Nat->Value->World->Prop
 | 0,v,_=>v=ptW g.tb 2
 | 1,v,_=>v=.slice g.Ao g.acc.length g.co
 | 2,v,_=>v=ptW g.it 0
 | 3,v,_=>v=.string g.x.kind
 | 4,v,_=>v=ptW g.it 1
 | 5,v,_=>v=.string g.x.name
 | 6,v,_=>v=ptW g.wb 0
 | 7,v,_=>v=ptW g.it 0
 | 8,v,_=>v=.string g.x.kind
 | 9,v,_=>v=ptW g.wb 0
 | 10,v,_=>v=ptW g.wb 0
 | 11,v,_=>v=ptW g.wb 0
 | 12,v,_=>v=ptW g.it 0
 | 13,v,_=>v=.string g.x.kind
 | 14,v,w=>l.getD 17 true=false->∃ Ai ci,v=.slice Ai g.I.length ci/\Kd.R (Kd.fixed kRow g.wz) 60 w g.W.heap.size (fun _=>True) v g.I
 | 15,v,_=>v=ptW g.it 5
 | 16,v,_=>v=.slice g.Ae g.x.ents.length g.ce
 | 17,v,w=>l.getD 19 true=false->∃ Ap cp,v=.slice Ap g.rL.1.length cp/\g.ps w v
 | 18,v,w=>l.getD 19 true=false->∃ Ap cp,v=.agg (obL g.x (.slice Ap g.rL.1.length cp)).toArray/\g.ps w (.slice Ap g.rL.1.length cp)
 | 19,v,w=>l.getD 20 true=false->∃ Ap cp W',v=.slice (some ⟨W'.heap.size,0,none⟩) 1 1/\w=W'.alloc (.cells (obL g.x (.slice Ap g.rL.1.length cp)).toArray 44)/\g.ps W' (.slice Ap g.rL.1.length cp)/\g.ob W'/\g.W.heap.size<=W'.heap.size
 | 20,v,w=>l.getD 22 true=false->∃ Av cv,v=.slice Av (g.acc.length + 1) cv/\g.on w v
 | 21,v,_=>v=ptW g.tb 2
 | _,_,_=>True
structure JG (l:Array Bool) (w:World):Prop where
 bz:Below g.wz.heap.size g.wz w
 sz:g.W.heap.size<=w.heap.size
 fr:∀ k,k<g.tb->k≠g.wb->w.heap[k]?=g.W.heap[k]?
 bw:l.getD 17 true=false->Below g.W.heap.size g.W w
 wri:∃ qq,w.heap[g.wb]?=some (.cells (wrC tab g.Ar g.cr qq) 146 (0,0))/\(l.getD 17 true=false->qq=g.q)/\(l.getD 17 true=true->qq=(g.q||g.rL.2))
 tre:l.getD 22 true=false->w.heap[g.tb]?=some (.cells (trV g.cpu (.slice g.Ao g.acc.length g.co)) 24 (0,0))
 itm:l.getD 20 true=false->w.heap[g.it]?=some (.cells (itemC g.x (.slice g.Ae g.x.ents.length g.ce)) 78 (0,0))
 obs:l.getD 20 true=false->g.ob w
 fin:l.getD 22 true=true->∃ Av cv,w.heap[g.tb]?=some (.cells (trV g.cpu (.slice Av (g.acc.length + 1) cv)) 24 (0,0))/\g.on w (.slice Av (g.acc.length + 1) cv)
structure GOk:Prop where
 hfs:g.fx.map Prod.fst=FSG
 f4:(4,ptW g.wb 0) ∈ g.fx
 f5:(5,ptW g.tb 0) ∈ g.fx
 f7:(7,ptW g.it 0) ∈ g.fx
 wbtb:g.wb<g.tb
 tbit:g.tb<g.it
 itW:g.it<g.W.heap.size
 wzb:g.wz.heap.size<=g.wb
 b0:g.B0<=g.wb
 acl:g.acc.length<=1073741824
 beh:∀ V,Below g.W.heap.size g.W V->Calls Tryz.prog 67 #[ptW g.wb 0,.string g.x.kind,.string ⟨#[]⟩,.string ⟨#[]⟩] V fun ev w'=>(∃ v,ev=.returned v/\Kd.R (Kd.fixed kRow g.wz) 60 w' V.heap.size (fun _=>True) v g.I)/\Below V.heap.size V w'
 att:∀ V Ai ci,Below g.W.heap.size g.W V->Kd.R (Kd.fixed kRow g.wz) 60 V g.W.heap.size (fun _=>True) (.slice Ai g.I.length ci) g.I->Calls Tryz.prog 76 #[ptW g.wb 0,.string g.x.kind,.slice Ai g.I.length ci,.slice g.Ae g.x.ents.length g.ce] V (WPost tab g.rL g.wb g.Ar g.cr g.q V)
abbrev RG:Array Bool->Act->World->Prop:=RL OPG 93 DG g.fx (VG g) (JG g)
end
section
variable {g:GW} {Q:Exit->Act->World->Prop} {l:Array Bool} {a:Act} {w:World}
theorem vg_keep {l':Array Bool} {w w':World} (j:Nat) (u:Value) (h:VG g l j u w) (h14:j=14->VG g l' 14 u w') (h17:j=17->VG g l' 17 u w') (h18:j=18->VG g l' 18 u w') (h19:j=19->VG g l' 19 u w') (h20:j=20->VG g l' 20 u w'):VG g l' j u w':=by
 match j,h with
 | 0,h=>exact h
 | 1,h=>exact h
 | 2,h=>exact h
 | 3,h=>exact h
 | 4,h=>exact h
 | 5,h=>exact h
 | 6,h=>exact h
 | 7,h=>exact h
 | 8,h=>exact h
 | 9,h=>exact h
 | 10,h=>exact h
 | 11,h=>exact h
 | 12,h=>exact h
 | 13,h=>exact h
 | 14,_=>exact h14 rfl
 | 15,h=>exact h
 | 16,h=>exact h
 | 17,_=>exact h17 rfl
 | 18,_=>exact h18 rfl
 | 19,_=>exact h19 rfl
 | 20,_=>exact h20 rfl
 | 21,h=>exact h
 | n + 22,h=>exact trivial
theorem rg_set (h:RG g l a w) {i:Nat} (hi:i<23) (k:Nat) (hne:i≠k):(l.setIfInBounds i true).getD k true=l.getD k true:=by
 rw [getD_set l i k (by rw [h.lz,opg_size];exact hi),if_neg hne]
theorem rg_on (h:RG g l a w) {i:Nat} (hi:i<23):(l.setIfInBounds i true).getD i true=true:=by
 rw [getD_set l i i (by rw [h.lz,opg_size];exact hi),if_pos rfl]
theorem rg_read {i d:Nat} {op:Op} {v:Value} (hi:i<23) (h17:i≠17) (h19:i≠19) (h20:i≠20) (h22:i≠22) (O:GOk g) (h:RG g l a w) (hrd:i ∈ Region.ready .any OPG l) (hd:DG[i]?=some (some d)) (ho:(OPG[i]?).map (fun o=>(o.op,o.dst,o.guard))=some (op,some d,none))
  (hrun:∀ o:Oper,o.op=op->(execOp a.eval o).run Tryz.prog w=.ok (.value v) w) (hV:VG g (l.setIfInBounds i true) i v w):wpOp Tryz.prog OPG Q i (RG g (l.setIfInBounds i true)) a w:=by
 have s17:=rg_set h hi 17 h17;have s19:=rg_set h hi 19 h19;have s20:=rg_set h hi 20 h20;have s22:=rg_set h hi 22 h22
 refine rs_value ho hrun (h.put dg_ok O.hfs hrd hd hV (fun j u _ _ _ hv=>?_) ?_)
 ·refine vg_keep j u hv ?_ ?_ ?_ ?_ ?_ <;> rintro rfl
  ·exact fun e=>hv (by rw [<- s17];exact e)
  ·exact fun e=>hv (by rw [<- s19];exact e)
  ·exact fun e=>hv (by rw [<- s19];exact e)
  ·exact fun e=>hv (by rw [<- s20];exact e)
  ·exact fun e=>hv (by rw [<- s22];exact e)
 ·have j:=h.jj
  exact ⟨j.bz,j.sz,j.fr,by rw [s17];exact j.bw,by rw [s17];exact j.wri,by rw [s22];exact j.tre,by rw [s20];exact j.itm,by rw [s20];exact j.obs,by rw [s22];exact j.fin⟩
theorem rg_0 (O:GOk g) (h:RG g l a w) (hrd:0 ∈ Region.ready .any OPG l):wpOp Tryz.prog OPG Q 0 (RG g (l.setIfInBounds 0 true)) a w:=by
 have hv:a.eval (.tmp 5)=ptW g.tb 0:=h.fix (5,ptW g.tb 0) O.f5;exact rg_read (d:=45) (op:=.fieldAddr 24 (.tmp 5) 2) (v:=ptW g.tb 2) (by decide) (by decide) (by decide) (by decide) (by decide) O h hrd rfl (by kernel_rfl) (by intro o ho;unfold execOp;rw [ho];simp only [hv];kernel_rfl) rfl
theorem rg_21 (O:GOk g) (h:RG g l a w) (hrd:21 ∈ Region.ready .any OPG l):wpOp Tryz.prog OPG Q 21 (RG g (l.setIfInBounds 21 true)) a w:=by
 have hv:a.eval (.tmp 5)=ptW g.tb 0:=h.fix (5,ptW g.tb 0) O.f5;exact rg_read (d:=66) (op:=.fieldAddr 24 (.tmp 5) 2) (v:=ptW g.tb 2) (by decide) (by decide) (by decide) (by decide) (by decide) O h hrd rfl (by kernel_rfl) (by intro o ho;unfold execOp;rw [ho];simp only [hv];kernel_rfl) rfl
theorem rg_1 (O:GOk g) (h:RG g l a w) (hrd:1 ∈ Region.ready .any OPG l):wpOp Tryz.prog OPG Q 1 (RG g (l.setIfInBounds 1 true)) a w:=by
 have hv:a.tmps.getD 45 undef=ptW g.tb 2:=h.get hrd (j:=0) (by kernel_rfl) (by rw [opg_size];decide) rfl;have k0:=(cell_row (h.jj.tre (h.late hrd (j:=22) (n:=23) (by rw [opg_size];decide) (by kernel_rfl))) 2).trans rfl;exact rg_read (d:=46) (op:=.load 22 (.tmp 45)) (v:=.slice g.Ao g.acc.length g.co) (by decide) (by decide) (by decide) (by decide) (by decide) O h hrd rfl (by kernel_rfl) (by intro o ho;unfold execOp;rw [ho];rw [Array.getD_eq_getD_getElem?] at hv;simp [Act.eval,hv,go_sem,k0]) rfl
theorem rg_2 (O:GOk g) (h:RG g l a w) (hrd:2 ∈ Region.ready .any OPG l):wpOp Tryz.prog OPG Q 2 (RG g (l.setIfInBounds 2 true)) a w:=by
 have hv:a.eval (.tmp 7)=ptW g.it 0:=h.fix (7,ptW g.it 0) O.f7;exact rg_read (d:=47) (op:=.fieldAddr 78 (.tmp 7) 0) (v:=ptW g.it 0) (by decide) (by decide) (by decide) (by decide) (by decide) O h hrd rfl (by kernel_rfl) (by intro o ho;unfold execOp;rw [ho];simp only [hv];kernel_rfl) rfl
theorem rg_3 (O:GOk g) (h:RG g l a w) (hrd:3 ∈ Region.ready .any OPG l):wpOp Tryz.prog OPG Q 3 (RG g (l.setIfInBounds 3 true)) a w:=by
 have hv:a.tmps.getD 47 undef=ptW g.it 0:=h.get hrd (j:=2) (by kernel_rfl) (by rw [opg_size];decide) rfl;have k0:w.cell? ⟨g.it,0,none⟩=some (.string g.x.kind):=(cell_row (h.jj.itm (h.late hrd (j:=20) (n:=23) (by rw [opg_size];decide) (by kernel_rfl))) 0).trans rfl;exact rg_read (d:=48) (op:=.load 9 (.tmp 47)) (v:=.string g.x.kind) (by decide) (by decide) (by decide) (by decide) (by decide) O h hrd rfl (by kernel_rfl) (by intro o ho;unfold execOp;rw [ho];rw [Array.getD_eq_getD_getElem?] at hv;simp [Act.eval,hv,go_sem,k0]) rfl
theorem rg_4 (O:GOk g) (h:RG g l a w) (hrd:4 ∈ Region.ready .any OPG l):wpOp Tryz.prog OPG Q 4 (RG g (l.setIfInBounds 4 true)) a w:=by
 have hv:a.eval (.tmp 7)=ptW g.it 0:=h.fix (7,ptW g.it 0) O.f7;exact rg_read (d:=49) (op:=.fieldAddr 78 (.tmp 7) 1) (v:=ptW g.it 1) (by decide) (by decide) (by decide) (by decide) (by decide) O h hrd rfl (by kernel_rfl) (by intro o ho;unfold execOp;rw [ho];simp only [hv];kernel_rfl) rfl
theorem rg_5 (O:GOk g) (h:RG g l a w) (hrd:5 ∈ Region.ready .any OPG l):wpOp Tryz.prog OPG Q 5 (RG g (l.setIfInBounds 5 true)) a w:=by
 have hv:a.tmps.getD 49 undef=ptW g.it 1:=h.get hrd (j:=4) (by kernel_rfl) (by rw [opg_size];decide) rfl;have k0:w.cell? ⟨g.it,1,none⟩=some (.string g.x.name):=(cell_row (h.jj.itm (h.late hrd (j:=20) (n:=23) (by rw [opg_size];decide) (by kernel_rfl))) 1).trans rfl;exact rg_read (d:=50) (op:=.load 9 (.tmp 49)) (v:=.string g.x.name) (by decide) (by decide) (by decide) (by decide) (by decide) O h hrd rfl (by kernel_rfl) (by intro o ho;unfold execOp;rw [ho];rw [Array.getD_eq_getD_getElem?] at hv;simp [Act.eval,hv,go_sem,k0]) rfl
theorem rg_7 (O:GOk g) (h:RG g l a w) (hrd:7 ∈ Region.ready .any OPG l):wpOp Tryz.prog OPG Q 7 (RG g (l.setIfInBounds 7 true)) a w:=by
 have hv:a.eval (.tmp 7)=ptW g.it 0:=h.fix (7,ptW g.it 0) O.f7;exact rg_read (d:=52) (op:=.fieldAddr 78 (.tmp 7) 0) (v:=ptW g.it 0) (by decide) (by decide) (by decide) (by decide) (by decide) O h hrd rfl (by kernel_rfl) (by intro o ho;unfold execOp;rw [ho];simp only [hv];kernel_rfl) rfl
theorem rg_8 (O:GOk g) (h:RG g l a w) (hrd:8 ∈ Region.ready .any OPG l):wpOp Tryz.prog OPG Q 8 (RG g (l.setIfInBounds 8 true)) a w:=by
 have hv:a.tmps.getD 52 undef=ptW g.it 0:=h.get hrd (j:=7) (by kernel_rfl) (by rw [opg_size];decide) rfl;have k0:w.cell? ⟨g.it,0,none⟩=some (.string g.x.kind):=(cell_row (h.jj.itm (h.late hrd (j:=20) (n:=23) (by rw [opg_size];decide) (by kernel_rfl))) 0).trans rfl;exact rg_read (d:=53) (op:=.load 9 (.tmp 52)) (v:=.string g.x.kind) (by decide) (by decide) (by decide) (by decide) (by decide) O h hrd rfl (by kernel_rfl) (by intro o ho;unfold execOp;rw [ho];rw [Array.getD_eq_getD_getElem?] at hv;simp [Act.eval,hv,go_sem,k0]) rfl
theorem rg_12 (O:GOk g) (h:RG g l a w) (hrd:12 ∈ Region.ready .any OPG l):wpOp Tryz.prog OPG Q 12 (RG g (l.setIfInBounds 12 true)) a w:=by
 have hv:a.eval (.tmp 7)=ptW g.it 0:=h.fix (7,ptW g.it 0) O.f7;exact rg_read (d:=57) (op:=.fieldAddr 78 (.tmp 7) 0) (v:=ptW g.it 0) (by decide) (by decide) (by decide) (by decide) (by decide) O h hrd rfl (by kernel_rfl) (by intro o ho;unfold execOp;rw [ho];simp only [hv];kernel_rfl) rfl
theorem rg_13 (O:GOk g) (h:RG g l a w) (hrd:13 ∈ Region.ready .any OPG l):wpOp Tryz.prog OPG Q 13 (RG g (l.setIfInBounds 13 true)) a w:=by
 have hv:a.tmps.getD 57 undef=ptW g.it 0:=h.get hrd (j:=12) (by kernel_rfl) (by rw [opg_size];decide) rfl;have k0:w.cell? ⟨g.it,0,none⟩=some (.string g.x.kind):=(cell_row (h.jj.itm (h.late hrd (j:=20) (n:=23) (by rw [opg_size];decide) (by kernel_rfl))) 0).trans rfl;exact rg_read (d:=58) (op:=.load 9 (.tmp 57)) (v:=.string g.x.kind) (by decide) (by decide) (by decide) (by decide) (by decide) O h hrd rfl (by kernel_rfl) (by intro o ho;unfold execOp;rw [ho];rw [Array.getD_eq_getD_getElem?] at hv;simp [Act.eval,hv,go_sem,k0]) rfl
theorem rg_15 (O:GOk g) (h:RG g l a w) (hrd:15 ∈ Region.ready .any OPG l):wpOp Tryz.prog OPG Q 15 (RG g (l.setIfInBounds 15 true)) a w:=by
 have hv:a.eval (.tmp 7)=ptW g.it 0:=h.fix (7,ptW g.it 0) O.f7;exact rg_read (d:=60) (op:=.fieldAddr 78 (.tmp 7) 3) (v:=ptW g.it 5) (by decide) (by decide) (by decide) (by decide) (by decide) O h hrd rfl (by kernel_rfl) (by intro o ho;unfold execOp;rw [ho];simp only [hv];kernel_rfl) rfl
theorem rg_16 (O:GOk g) (h:RG g l a w) (hrd:16 ∈ Region.ready .any OPG l):wpOp Tryz.prog OPG Q 16 (RG g (l.setIfInBounds 16 true)) a w:=by
 have hv:a.tmps.getD 60 undef=ptW g.it 5:=h.get hrd (j:=15) (by kernel_rfl) (by rw [opg_size];decide) rfl;have k0:w.cell? ⟨g.it,5,none⟩=some (.slice g.Ae g.x.ents.length g.ce):=(cell_row (h.jj.itm (h.late hrd (j:=20) (n:=23) (by rw [opg_size];decide) (by kernel_rfl))) 5).trans rfl;exact rg_read (d:=61) (op:=.load 76 (.tmp 60)) (v:=.slice g.Ae g.x.ents.length g.ce) (by decide) (by decide) (by decide) (by decide) (by decide) O h hrd rfl (by kernel_rfl) (by intro o ho;unfold execOp;rw [ho];rw [Array.getD_eq_getD_getElem?] at hv;simp [Act.eval,hv,go_sem,k0]) rfl
theorem rg_6 (O:GOk g) (h:RG g l a w) (hrd:6 ∈ Region.ready .any OPG l):wpOp Tryz.prog OPG Q 6 (RG g (l.setIfInBounds 6 true)) a w :=
 rg_read (d:=51) (op:=.move (.tmp 4)) (v:=a.tmps.getD 4 undef) (by decide) (by decide) (by decide) (by decide) (by decide) O h hrd rfl (by kernel_rfl) (by intro o ho;unfold execOp;rw [ho];rfl) (h.fix (4,ptW g.wb 0) O.f4)
theorem rg_9 (O:GOk g) (h:RG g l a w) (hrd:9 ∈ Region.ready .any OPG l):wpOp Tryz.prog OPG Q 9 (RG g (l.setIfInBounds 9 true)) a w :=
 rg_read (d:=54) (op:=.move (.tmp 4)) (v:=a.tmps.getD 4 undef) (by decide) (by decide) (by decide) (by decide) (by decide) O h hrd rfl (by kernel_rfl) (by intro o ho;unfold execOp;rw [ho];rfl) (h.fix (4,ptW g.wb 0) O.f4)
theorem rg_10 (O:GOk g) (h:RG g l a w) (hrd:10 ∈ Region.ready .any OPG l):wpOp Tryz.prog OPG Q 10 (RG g (l.setIfInBounds 10 true)) a w:=by
 have hv:a.tmps.getD 54 undef=ptW g.wb 0:=h.get hrd (j:=9) (by kernel_rfl) (by rw [opg_size];decide) rfl;exact rg_read (d:=55) (op:=.nilCheck (.tmp 54)) (v:=ptW g.wb 0) (by decide) (by decide) (by decide) (by decide) (by decide) O h hrd rfl (by kernel_rfl) (by intro o ho;unfold execOp;rw [ho];rw [Array.getD_eq_getD_getElem?] at hv;simp [Act.eval,hv]) rfl
theorem rg_11 (O:GOk g) (h:RG g l a w) (hrd:11 ∈ Region.ready .any OPG l):wpOp Tryz.prog OPG Q 11 (RG g (l.setIfInBounds 11 true)) a w:=by
 have hv:a.eval (.tmp 55)=ptW g.wb 0:=h.get hrd (j:=10) (by kernel_rfl) (by rw [opg_size];decide) rfl;exact rg_read (d:=56) (op:=.fieldAddr 146 (.tmp 55) 0) (v:=ptW g.wb 0) (by decide) (by decide) (by decide) (by decide) (by decide) O h hrd rfl (by kernel_rfl) (by intro o ho;unfold execOp;rw [ho];simp only [hv];kernel_rfl) rfl
theorem rg_before (h:RG g l a w) {j k n:Nat} (hk:k<23) (hj:j<23) (hl:l.getD k true=true) (hr:Region.reachB .any OPG j n k=true):l.getD j true=true:=by
 have e:∀ k,k<23->l.getD k true=l.getD k false:=fun k hk=>by
  simp only [Array.getD_eq_getD_getElem?,Array.getElem?_eq_getElem (show k<l.size by rw [h.lz,opg_size];exact hk),Option.getD_some]
 rw [e k hk] at hl;rw [e j hj];exact Region.reach_listed h.lc n k hr hl
theorem ft {b:Bool} (h:b=true):¬ b=false:=by rw [h];simp
theorem rg_14 (O:GOk g) (h:RG g l a w) (hrd:14 ∈ Region.ready .any OPG l):wpOp Tryz.prog OPG Q 14 (RG g (l.setIfInBounds 14 true)) a w:=by
 have v1:a.tmps.getD 56 undef=ptW g.wb 0:=h.get hrd (j:=11) (by kernel_rfl) (by rw [opg_size];decide) rfl;have v2:a.tmps.getD 58 undef=.string g.x.kind:=h.get hrd (j:=13) (by kernel_rfl) (by rw [opg_size];decide) rfl;have n17:=h.late hrd (j:=17) (n:=23) (by rw [opg_size];decide) (by kernel_rfl);have n18:=h.late hrd (j:=18) (n:=23) (by rw [opg_size];decide) (by kernel_rfl);have n19:=h.late hrd (j:=19) (n:=23) (by rw [opg_size];decide) (by kernel_rfl);have n20:=h.late hrd (j:=20) (n:=23) (by rw [opg_size];decide) (by kernel_rfl);have n22:=h.late hrd (j:=22) (n:=23) (by rw [opg_size];decide) (by kernel_rfl);have s17:=rg_set h (i:=14) (by decide) 17 (by decide);have s20:=rg_set h (i:=14) (by decide) 20 (by decide);have s22:=rg_set h (i:=14) (by decide) 22 (by decide);have J:=h.jj;have hW:=J.bw n17
 refine rs_call (d:=59) (aa:=#[.tmp 56,.tmp 58,.const (.string ⟨#[]⟩),.const (.string ⟨#[]⟩)]) (ts:=#[128,9,9,9]) (args:=#[ptW g.wb 0,.string g.x.kind,.string ⟨#[]⟩,.string ⟨#[]⟩]) (by kernel_rfl) Tryz.func67 rfl rfl (by simp only [List.map_toArray,List.map_cons,List.map_nil,Act.eval,v1,v2]) ((O.beh w hW).mono ?_)
 rintro e w' ⟨⟨v,rfl,hR⟩,hB⟩;have hWb:g.wb<g.W.heap.size:=by have:=O.wbtb;have:=O.tbit;have:=O.itW;omega
 refine ⟨_,rfl,h.put dg_ok O.hfs hrd rfl (fun _=>?_) (fun j u _ hne hl hv=>?_) ?_⟩
 ·obtain ⟨Ai,ci,rfl⟩:=RForm hR
  exact ⟨Ai,ci,rfl,Kd.R_lower hR J.sz⟩
 ·refine vg_keep j u hv ?_ ?_ ?_ ?_ ?_ <;> rintro rfl
  ·exact absurd rfl hne
  ·exact absurd hl (by rw [n17];simp)
  ·exact absurd hl (by rw [n18];simp)
  ·exact absurd hl (by rw [n19];simp)
  ·exact absurd hl (by rw [n20];simp)
 ·have hz:=J.sz
  refine ⟨J.bz.trans (hB.mono J.bz.size),Nat.le_trans J.sz hB.size,fun k h1 h2=>(hB.block k (by have:=O.tbit;have:=O.itW;omega)).trans (J.fr k h1 h2),fun _=>hW.trans (hB.mono J.sz),?_,fun h2=>(hB.block _ (by have:=O.tbit;have:=O.itW;omega)).trans (J.tre (by rw [<- s22];exact h2)),fun h2=>(hB.block _ (by have:=O.itW;omega)).trans (J.itm (by rw [<- s20];exact h2)),fun h2=>Kd.R_below (J.obs (by rw [<- s20];exact h2)) hB,fun h2=>absurd (s22 ▸ h2) (by rw [n22];simp)⟩
  obtain ⟨qq,h1,h2,h3⟩:=J.wri;exact ⟨qq,(hB.block _ (by omega)).trans h1,by rw [s17];exact h2,by rw [s17];exact h3⟩
theorem rg_17 (O:GOk g) (h:RG g l a w) (hrd:17 ∈ Region.ready .any OPG l):wpOp Tryz.prog OPG Q 17 (RG g (l.setIfInBounds 17 true)) a w:=by
 have n17:=(ready_open hrd).2;have v1:a.tmps.getD 51 undef=ptW g.wb 0:=h.get hrd (j:=6) (by kernel_rfl) (by rw [opg_size];decide) rfl;have v2:a.tmps.getD 53 undef=.string g.x.kind:=h.get hrd (j:=8) (by kernel_rfl) (by rw [opg_size];decide) rfl;have v4:a.tmps.getD 61 undef=.slice g.Ae g.x.ents.length g.ce:=h.get hrd (j:=16) (by kernel_rfl) (by rw [opg_size];decide) rfl;obtain ⟨Ai,ci,v3,hR3⟩:=(show VG g l 14 (a.tmps.getD 59 undef) w from h.get hrd (j:=14) (by kernel_rfl) (by rw [opg_size];decide) rfl) n17;have n18:=h.late hrd (j:=18) (n:=23) (by rw [opg_size];decide) (by kernel_rfl);have n19:=h.late hrd (j:=19) (n:=23) (by rw [opg_size];decide) (by kernel_rfl);have n20:=h.late hrd (j:=20) (n:=23) (by rw [opg_size];decide) (by kernel_rfl);have n22:=h.late hrd (j:=22) (n:=23) (by rw [opg_size];decide) (by kernel_rfl);have s17:=rg_on h (i:=17) (by decide);have s20:=rg_set h (i:=17) (by decide) 20 (by decide);have s22:=rg_set h (i:=17) (by decide) 22 (by decide);have J:=h.jj;have hW:=J.bw n17;rw [v3] at hR3
 refine rs_call (d:=62) (aa:=#[.tmp 51,.tmp 53,.tmp 59,.tmp 61]) (ts:=#[144,9,53,76]) (args:=#[ptW g.wb 0,.string g.x.kind,.slice Ai g.I.length ci,.slice g.Ae g.x.ents.length g.ce]) (by kernel_rfl) Tryz.func76 rfl rfl (by simp only [List.map_toArray,List.map_cons,List.map_nil,Act.eval,v1,v2,v3,v4]) ((O.att w Ai ci hW hR3).mono ?_)
 rintro e w' ⟨hg,hb,v,rfl,hR⟩;have hlt:g.tb<g.W.heap.size/\g.it<g.W.heap.size:=by have:=O.tbit;have:=O.itW;omega
 have hz:=J.sz;have ho:∀ k,k<w.heap.size->k≠g.wb->w'.heap[k]?=w.heap[k]?:=fun k hk hne=>hg.block k hk (fun e=>hne (by injection e))
 refine ⟨_,rfl,h.put dg_ok O.hfs hrd rfl (fun _=>?_) (fun j u _ hne hl hv=>?_) ?_⟩
 ·obtain ⟨Ap,cp,rfl⟩:=RForm hR
  exact ⟨Ap,cp,rfl,Kd.R_lower (Kd.R_mono (Kd.R_bound hR) (fun k hk=>Nat.le_trans J.sz hk.2.1)) (by have:=O.b0;have:=O.wbtb;omega)⟩
 ·refine vg_keep j u hv ?_ ?_ ?_ ?_ ?_ <;> rintro rfl
  ·exact fun e=>absurd e (ft s17)
  ·exact absurd rfl hne
  ·exact absurd hl (by rw [n18];simp)
  ·exact absurd hl (by rw [n19];simp)
  ·exact absurd hl (by rw [n20];simp)
 ·obtain ⟨qq,h1,h2,h3⟩:=J.wri
  have hq:=h2 n17
  refine ⟨J.bz.trans (belowG hg O.wzb J.bz.size),Nat.le_trans J.sz hg.size,fun k h1 h2=>(ho k (by omega) h2).trans (J.fr k h1 h2),fun e=>absurd e (ft s17),⟨_,hb,fun e=>absurd e (ft s17),fun _=>rfl⟩,fun h2=>(ho _ (by omega) (by have:=O.wbtb;omega)).trans (J.tre (by rw [<- s22];exact h2)),fun h2=>(ho _ (by omega) (by have:=O.wbtb;have:=O.tbit;omega)).trans (J.itm (by rw [<- s20];exact h2)),fun h2=>Kd.R_grown (J.obs (by rw [<- s20];exact h2)) hg (fun k hk e=>by injection e with e;have:=O.wbtb;have:=hk.1;omega),fun h2=>absurd (s22 ▸ h2) (by rw [n22];simp)⟩
theorem rg_18 (O:GOk g) (h:RG g l a w) (hrd:18 ∈ Region.ready .any OPG l):wpOp Tryz.prog OPG Q 18 (RG g (l.setIfInBounds 18 true)) a w:=by
 have n19:=h.late hrd (j:=19) (n:=23) (by rw [opg_size];decide) (by kernel_rfl);have v1:a.eval (.tmp 48)=.string g.x.kind:=h.get hrd (j:=3) (by kernel_rfl) (by rw [opg_size];decide) rfl;have v2:a.eval (.tmp 50)=.string g.x.name:=h.get hrd (j:=5) (by kernel_rfl) (by rw [opg_size];decide) rfl;obtain ⟨Ap,cp,v3,hp⟩:=(show VG g l 17 (a.eval (.tmp 62)) w from h.get hrd (j:=17) (by kernel_rfl) (by rw [opg_size];decide) rfl) n19;rw [v3] at hp;exact rg_read (d:=63) (op:=.build 44 #[(0,.tmp 48),(1,.tmp 50),(3,.tmp 62)]) (v:=.agg (obL g.x (.slice Ap g.rL.1.length cp)).toArray) (by decide) (by decide) (by decide) (by decide) (by decide) O h hrd rfl (by kernel_rfl) (by intro o ho;unfold execOp;rw [ho];simp only [List.map_toArray,List.map_cons,List.map_nil,v1,v2,v3];kernel_rfl) (fun _=>⟨Ap,cp,rfl,hp⟩)
theorem rg_19 (O:GOk g) (h:RG g l a w) (hrd:19 ∈ Region.ready .any OPG l):wpOp Tryz.prog OPG Q 19 (RG g (l.setIfInBounds 19 true)) a w:=by
 have n19:=(ready_open hrd).2;obtain ⟨Ap,cp,v1,hp⟩:=(show VG g l 18 (a.eval (.tmp 63)) w from h.get hrd (j:=18) (by kernel_rfl) (by rw [opg_size];decide) rfl) n19;have n20:=h.late hrd (j:=20) (n:=23) (by rw [opg_size];decide) (by kernel_rfl);have n22:=h.late hrd (j:=22) (n:=23) (by rw [opg_size];decide) (by kernel_rfl);have p17:l.getD 17 true=true:=rg_before h (k:=18) (n:=23) (by decide) (by decide) (ready_dep hrd (by kernel_rfl)) (by kernel_rfl);have s17:=rg_set h (i:=19) (by decide) 17 (by decide);have s19:=rg_on h (i:=19) (by decide);have s20:=rg_set h (i:=19) (by decide) 20 (by decide);have s22:=rg_set h (i:=19) (by decide) 22 (by decide);have J:=h.jj;have hz:=J.sz
 refine rs_value (d:=64) (op:=.buildSlice 22 1 #[(0,.tmp 63)]) (v:=.slice (some ⟨w.heap.size,0,none⟩) 1 1) (w1:=w.alloc (.cells (obL g.x (.slice Ap g.rL.1.length cp)).toArray 44)) (by kernel_rfl) (by intro o ho;unfold execOp;rw [ho];simp only [List.map_toArray,List.map_cons,List.map_nil,v1];kernel_rfl) (h.put dg_ok O.hfs hrd rfl (fun _=>⟨Ap,cp,w,rfl,rfl,hp,J.obs n20,J.sz⟩) (fun j u _ hne hl hv=>?_) ?_)
 ·refine vg_keep j u hv ?_ ?_ ?_ ?_ ?_ <;> rintro rfl
  ·exact fun e=>absurd (s17 ▸ e) (ft p17)
  ·exact fun e=>absurd e (ft s19)
  ·exact fun e=>absurd e (ft s19)
  ·exact absurd rfl hne
  ·exact absurd hl (by rw [n20];simp)
 ·have hB:=alloc_below w (.cells (obL g.x (.slice Ap g.rL.1.length cp)).toArray 44)
  generalize w.alloc (.cells (obL g.x (.slice Ap g.rL.1.length cp)).toArray 44)=w' at hB ⊢;have hlt:g.wb<w.heap.size/\g.tb<w.heap.size/\g.it<w.heap.size:=by have:=O.wbtb;have:=O.tbit;have:=O.itW;omega
  refine ⟨J.bz.trans (hB.mono J.bz.size),Nat.le_trans J.sz hB.size,fun k h1 h2=>(hB.block k (by omega)).trans (J.fr k h1 h2),fun e=>absurd (s17 ▸ e) (ft p17),?_,fun h2=>(hB.block _ hlt.2.1).trans (J.tre (by rw [<- s22];exact h2)),fun h2=>(hB.block _ hlt.2.2).trans (J.itm (by rw [<- s20];exact h2)),fun h2=>Kd.R_below (J.obs (by rw [<- s20];exact h2)) hB,fun h2=>absurd (s22 ▸ h2) (by rw [n22];simp)⟩
  obtain ⟨qq,h1,h2,h3⟩:=J.wri;exact ⟨qq,(hB.block _ hlt.1).trans h1,by rw [s17];exact h2,by rw [s17];exact h3⟩
theorem rg_20 (O:GOk g) (h:RG g l a w) (hrd:20 ∈ Region.ready .any OPG l):wpOp Tryz.prog OPG Q 20 (RG g (l.setIfInBounds 20 true)) a w:=by
 have n20:=(ready_open hrd).2;have v1:a.eval (.tmp 46)=.slice g.Ao g.acc.length g.co:=h.get hrd (j:=1) (by kernel_rfl) (by rw [opg_size];decide) rfl;obtain ⟨Ap,cp,W',v2,hw,hp,hob,hsz⟩:=(show VG g l 19 (a.eval (.tmp 64)) w from h.get hrd (j:=19) (by kernel_rfl) (by rw [opg_size];decide) rfl) n20;have n22:=h.late hrd (j:=22) (n:=23) (by rw [opg_size];decide) (by kernel_rfl);have p19:l.getD 19 true=true:=ready_dep hrd (by kernel_rfl);have p17:l.getD 17 true=true:=rg_before h (k:=19) (n:=23) (by decide) (by decide) p19 (by kernel_rfl);have s17:=rg_set h (i:=20) (by decide) 17 (by decide);have s19:=rg_set h (i:=20) (by decide) 19 (by decide);have s20:=rg_on h (i:=20) (by decide);have s22:=rg_set h (i:=20) (by decide) 22 (by decide);have J:=h.jj;have hown:∀ k,(Value.slice g.Ao g.acc.length g.co).ownBlock=some k->g.tb<k/\k<g.W.heap.size:=fun k hk=>hob.1 k hk;have hal:=alloc_below W' (.cells (obL g.x (.slice Ap g.rL.1.length cp)).toArray 44);have hb0:g.B0<=W'.heap.size:=by have:=O.b0;have:=O.wbtb;have:=O.tbit;have:=O.itW;omega
 refine rs_op (op:=.call { callee:=.builtin .append,args:=#[.tmp 46,.tmp 64],argTypes:=#[22,22] }) (dd:=some 65) (by kernel_rfl) (fun o h1 h2 h3 K' hK=>?_)
 subst hw
 refine Kd.R_append_step k44 (w0:=W') (W:=W') g.B0 h3 (.tmp 46) (.tmp 64) 22 44 (.agg obz) 104 h1 Tryz.underlying22 infoObj rfl (show 0<8 by decide) (by omega) (.slice g.Ao g.acc.length g.co) g.acc (obO g.x g.rL.1) (obL g.x (.slice Ap g.rL.1.length cp)) (fun k=>g.tb<k) (fun k=>g.W.heap.size<=k) v1 v2 (k44_mkM W' g.B0 _ (obO g.x g.rL.1) hp) (fun k hk=>⟨by have:=O.tbit;have:=O.itW;omega,fun e=>by have:=hown k e.symm;omega⟩) (fun k hk=>by have:=O.tbit;have:=O.itW;omega) (Kd.R_mono hob (fun k hk=>hk.1)) (Below.refl _ _) hb0 (by have:=O.acl;omega) ?_
 intro v' w1 ho hb hg hat;rw [h2];obtain ⟨Av,cv,rfl⟩:=RForm ho;have hlen:(g.acc++[obO g.x g.rL.1]).length=g.acc.length + 1:=by simp
 rw [hlen] at ho ⊢;have hk:∀ k,k<W'.heap.size->k<=g.tb->w1.heap[k]?=(W'.alloc (.cells (obL g.x (.slice Ap g.rL.1.length cp)).toArray 44)).heap[k]?:=fun k h4 h5=>(hg.block k h4 (fun e=>by have:=hown k e.symm;omega)).trans (hal.block k h4).symm
 refine hK _ _ (h.put dg_ok O.hfs hrd rfl (fun _=>⟨Av,cv,rfl,ho⟩) (fun j u _ hne hl hv=>?_) ?_)
 ·refine vg_keep j u hv ?_ ?_ ?_ ?_ ?_ <;> rintro rfl
  ·exact fun e=>absurd (s17 ▸ e) (ft p17)
  ·exact fun e=>absurd (s19 ▸ e) (ft p19)
  ·exact fun e=>absurd (s19 ▸ e) (ft p19)
  ·exact fun e=>absurd e (ft s20)
  ·exact absurd rfl hne
 ·have hlt:g.wb<W'.heap.size/\g.tb<W'.heap.size:=by have:=O.wbtb;have:=O.tbit;have:=O.itW;omega
  have hzz:g.wz.heap.size<=g.tb:=by have:=O.wzb;have:=O.wbtb;omega
  refine ⟨⟨hg.os.trans (hal.os.symm.trans J.bz.os),hg.tape.trans (hal.tape.symm.trans J.bz.tape),hg.output.trans (hal.output.symm.trans J.bz.output),by have:=hg.size;omega,fun k h4=>(hk k (by omega) (by omega)).trans (J.bz.block k h4)⟩,by have:=hg.size;omega,fun k h4 h5=>(hk k (by omega) (by omega)).trans (J.fr k h4 h5),fun e=>absurd (s17 ▸ e) (ft p17),?_,fun h4=>(hk _ hlt.2 (Nat.le_refl _)).trans (J.tre (by rw [<- s22];exact h4)),fun e=>absurd e (ft s20),fun e=>absurd e (ft s20),fun h4=>absurd (s22 ▸ h4) (by rw [n22];simp)⟩
  obtain ⟨qq,h4,h5,h6⟩:=J.wri;exact ⟨qq,(hk _ hlt.1 (Nat.le_of_lt O.wbtb)).trans h4,by rw [s17];exact h5,by rw [s17];exact h6⟩
theorem run_cell {P:Program} {w:World} {b off:Nat} {v old:Value} {ty:TypeId} (h1:v.oneCell'=true) (h2:w.cell? ⟨b,off,none⟩=some old) (h3:w.frozen? ⟨b,off,none⟩=false) (hi:(P.info? ty).map (·.size)=some 1):(storeVar ty ⟨b,off,none⟩ v).run P w=.ok () (w.setCell ⟨b,off,none⟩ v):=by
 have hc:v.cells=#[v]:=by cases v <;> first | rfl | cases h1
 have:=run_storeCells_cells (P:=P) b off [v] 0 w (fun j hj=>by simp at hj;subst hj;simpa using Option.isSome_iff_exists.2 ⟨old,h2⟩) (fun j hj=>by simp at hj;subst hj;simpa using h3) (fun x hx=>by simp at hx;subst hx;exact h1);cases hq:P.info? ty with
 | none=>simp [hq] at hi
 | some i =>
  have hs:i.size=1:=by simpa [hq] using hi
  simp only [Nat.add_zero] at this;simp [storeVar,sizeOf,typeInfo,hq,hc,hs,this,World.setCells]
theorem rg_22 (O:GOk g) (h:RG g l a w) (hrd:22 ∈ Region.ready .any OPG l):wpOp Tryz.prog OPG Q 22 (RG g (l.setIfInBounds 22 true)) a w:=by
 have n22:=(ready_open hrd).2;have v1:a.eval (.tmp 66)=ptW g.tb 2:=h.get hrd (j:=21) (by kernel_rfl) (by rw [opg_size];decide) rfl;obtain ⟨Av,cv,v2,hon⟩:=(show VG g l 20 (a.eval (.tmp 65)) w from h.get hrd (j:=20) (by kernel_rfl) (by rw [opg_size];decide) rfl) n22;rw [v2] at hon;have p20:l.getD 20 true=true:=ready_dep hrd (by kernel_rfl);have p19:l.getD 19 true=true:=rg_before h (k:=20) (n:=23) (by decide) (by decide) p20 (by kernel_rfl);have p17:l.getD 17 true=true:=rg_before h (k:=19) (n:=23) (by decide) (by decide) p19 (by kernel_rfl);have s17:=rg_set h (i:=22) (by decide) 17 (by decide);have s19:=rg_set h (i:=22) (by decide) 19 (by decide);have s20:=rg_set h (i:=22) (by decide) 20 (by decide);have s22:=rg_on h (i:=22) (by decide);have J:=h.jj;have ht:=J.tre n22;have hr:=run_cell (P:=Tryz.prog) (w:=w) (b:=g.tb) (off:=2) (v:=.slice Av (g.acc.length + 1) cv) (ty:=22) rfl ((cell_row ht 2).trans rfl) (frozen_row ht 2) (by kernel_rfl)
 refine rs_store (op:=.store 22 (.tmp 66) (.tmp 65)) (w1:=w.setCell ⟨g.tb,2,none⟩ (.slice Av (g.acc.length + 1) cv)) (by kernel_rfl) (fun o ho=>by
  unfold execOp
  simp only [ho,v1,v2,Instr.storeAt,Instr.sureAddr,Sem.run_bind,Sem.run_pure,Result.andThen_ok,hr]) (h.put0 hrd rfl (fun j u _ hne hl hv=>?_) ?_)
 ·refine vg_keep j u hv ?_ ?_ ?_ ?_ ?_ <;> rintro rfl
  ·exact fun e=>absurd (s17 ▸ e) (ft p17)
  ·exact fun e=>absurd (s19 ▸ e) (ft p19)
  ·exact fun e=>absurd (s19 ▸ e) (ft p19)
  ·exact fun e=>absurd (s20 ▸ e) (ft p20)
  ·exact fun e=>absurd e (ft s22)
 ·have ho:∀ k,k≠g.tb->(w.setCell ⟨g.tb,2,none⟩ (.slice Av (g.acc.length + 1) cv)).heap[k]?=w.heap[k]?:=fun k hk=>Below.heap_setCell w ⟨g.tb,2,none⟩ _ k hk
  have hzz:g.wz.heap.size<=g.tb:=by have:=O.wzb;have:=O.wbtb;omega
  refine ⟨J.bz.setCell (p:=⟨g.tb,2,none⟩) hzz _,by have:=J.sz;simp [World.setCell];omega,fun k h1 h2=>(ho k (by omega)).trans (J.fr k h1 h2),fun e=>absurd (s17 ▸ e) (ft p17),?_,fun e=>absurd e (ft s22),fun e=>absurd (s20 ▸ e) (ft p20),fun e=>absurd (s20 ▸ e) (ft p20),fun _=>⟨Av,cv,setCell_row ht _,Kd.R_far (p:=⟨g.tb,2,none⟩) hon (fun k hk=>by show k≠g.tb;omega) _⟩⟩
  obtain ⟨qq,h4,h5,h6⟩:=J.wri;exact ⟨qq,(ho _ (by have:=O.wbtb;omega)).trans h4,by rw [s17];exact h5,by rw [s17];exact h6⟩
theorem region8 {P:Program} {ops:Array Oper} (hop:ops=OPG) (hP:P=Tryz.prog) {id:Nat} (O:GOk g) (hm:P.follows .mixedOrders=true) (hd:a.defers=[]) (hz:a.tmps.size=93) (hfx:∀ p ∈ g.fx,a.tmps.getD p.1 undef=p.2)
  (hB:Below g.wz.heap.size g.wz g.W) (hw:g.W.heap[g.wb]?=some (.cells (wrC tab g.Ar g.cr g.q) 146 (0,0))) (ht:g.W.heap[g.tb]?=some (.cells (trV g.cpu (.slice g.Ao g.acc.length g.co)) 24 (0,0))) (hi:g.W.heap[g.it]?=some (.cells (itemC g.x (.slice g.Ae g.x.ents.length g.ce)) 78 (0,0))) (ho:g.ob g.W)
  (hfin:∀ a' w',a'.defers=[]->a'.tmps.size=93->(∀ p ∈ g.fx,a'.tmps.getD p.1 undef=p.2)->Below g.wz.heap.size g.wz w'->g.W.heap.size<=w'.heap.size->(∀ k,k<g.tb->k≠g.wb->w'.heap[k]?=g.W.heap[k]?)->w'.heap[g.wb]?=some (.cells (wrC tab g.Ar g.cr (g.q||g.rL.2)) 146 (0,0))->(∃ Av cv,w'.heap[g.tb]?=some (.cells (trV g.cpu (.slice Av (g.acc.length + 1) cv)) 24 (0,0))/\g.on w' (.slice Av (g.acc.length + 1) cv))->Q .normal a' w'):(Code.region id ops true).wp P Q a g.W:=by
 subst hop;subst hP
 have fl:∀ i,i<23->(Array.replicate OPG.size false).getD i true=true->False:=fun i hi hl=>by
  rw [Array.getD_eq_getD_getElem?,Array.getElem?_replicate,if_pos (by rw [opg_size];exact hi)] at hl;simp at hl
 refine rl_region (V:=VG g) (J:=JG g) hm dg_ok ?_ ?_ hd hz hfx ⟨hB.drew,Nat.le_refl _,fun _ _ _=>rfl,fun _=>(Below.refl _ _).drew,⟨g.q,hw,fun _=>rfl,fun e=>(fl 17 (by decide) e).elim⟩,fun _=>ht,fun _=>hi,fun _=>Kd.R_below ho (Below.refl _ _).drew,fun e=>(fl 22 (by decide) e).elim⟩
 ·intro l a w i h hi hrd
  rw [opg_size] at hi
  match i,hi,hrd with
  | 0,_,hrd=>exact rg_0 O h hrd
  | 1,_,hrd=>exact rg_1 O h hrd
  | 2,_,hrd=>exact rg_2 O h hrd
  | 3,_,hrd=>exact rg_3 O h hrd
  | 4,_,hrd=>exact rg_4 O h hrd
  | 5,_,hrd=>exact rg_5 O h hrd
  | 6,_,hrd=>exact rg_6 O h hrd
  | 7,_,hrd=>exact rg_7 O h hrd
  | 8,_,hrd=>exact rg_8 O h hrd
  | 9,_,hrd=>exact rg_9 O h hrd
  | 10,_,hrd=>exact rg_10 O h hrd
  | 11,_,hrd=>exact rg_11 O h hrd
  | 12,_,hrd=>exact rg_12 O h hrd
  | 13,_,hrd=>exact rg_13 O h hrd
  | 14,_,hrd=>exact rg_14 O h hrd
  | 15,_,hrd=>exact rg_15 O h hrd
  | 16,_,hrd=>exact rg_16 O h hrd
  | 17,_,hrd=>exact rg_17 O h hrd
  | 18,_,hrd=>exact rg_18 O h hrd
  | 19,_,hrd=>exact rg_19 O h hrd
  | 20,_,hrd=>exact rg_20 O h hrd
  | 21,_,hrd=>exact rg_21 O h hrd
  | 22,_,hrd=>exact rg_22 O h hrd
  | n + 23,hn,_=>exact absurd hn (by omega)
 ·intro l a' w' h hall
  have hl:=fun i (hi:i<23)=>hall i (by rw [opg_size];exact hi);obtain ⟨qq,h4,h5,h6⟩:=h.jj.wri;obtain rfl:=h6 (hl 17 (by decide));exact hfin a' w' h.df h.sz h.fix h.jj.bz h.jj.sz h.jj.fr h4 (h.jj.fin (hl 22 (by decide)))
end
theorem arr_map (t:Array Value) (n:Nat) (h:t.size=n):t=((List.range n).map (fun i=>t.getD i undef)).toArray:=by
 apply Array.ext
 ·simp [h]
 ·intro i h1 h2
  simp [Array.getD_eq_getD_getElem?,Array.getElem?_eq_getElem h1]
theorem act_lit {a a':Act} (hd:a'.defers=[]) (hz:a'.tmps.size=93) (hfx:∀ s ∈ FSG,a'.tmps.getD s undef=a.tmps.getD s undef):∃ u45 u46 u47 u48 u49 u50 u51 u52 u53 u54 u55 u56 u57 u58 u59 u60 u61 u62 u63 u64 u65 u66:Value,a'={ tmps:=(a.tmps.getD 0 undef :: a.tmps.getD 1 undef :: a.tmps.getD 2 undef :: a.tmps.getD 3 undef :: a.tmps.getD 4 undef :: a.tmps.getD 5 undef :: a.tmps.getD 6 undef :: a.tmps.getD 7 undef :: a.tmps.getD 8 undef :: a.tmps.getD 9 undef :: a.tmps.getD 10 undef :: a.tmps.getD 11 undef :: a.tmps.getD 12 undef :: a.tmps.getD 13 undef :: a.tmps.getD 14 undef :: a.tmps.getD 15 undef :: a.tmps.getD 16 undef :: a.tmps.getD 17 undef :: a.tmps.getD 18 undef :: a.tmps.getD 19 undef :: a.tmps.getD 20 undef :: a.tmps.getD 21 undef :: a.tmps.getD 22 undef :: a.tmps.getD 23 undef :: a.tmps.getD 24 undef :: a.tmps.getD 25 undef :: a.tmps.getD 26 undef :: a.tmps.getD 27 undef :: a.tmps.getD 28 undef :: a.tmps.getD 29 undef :: a.tmps.getD 30 undef :: a.tmps.getD 31 undef :: a.tmps.getD 32 undef :: a.tmps.getD 33 undef :: a.tmps.getD 34 undef :: a.tmps.getD 35 undef :: a.tmps.getD 36 undef :: a.tmps.getD 37 undef :: a.tmps.getD 38 undef :: a.tmps.getD 39 undef :: a.tmps.getD 40 undef :: a.tmps.getD 41 undef :: a.tmps.getD 42 undef :: a.tmps.getD 43 undef :: a.tmps.getD 44 undef :: u45 :: u46 :: u47 :: u48 :: u49 :: u50 :: u51 :: u52 :: u53 :: u54 :: u55 :: u56 :: u57 :: u58 :: u59 :: u60 :: u61 :: u62 :: u63 :: u64 :: u65 :: u66 :: a.tmps.getD 67 undef :: a.tmps.getD 68 undef :: a.tmps.getD 69 undef :: a.tmps.getD 70 undef :: a.tmps.getD 71 undef :: a.tmps.getD 72 undef :: a.tmps.getD 73 undef :: a.tmps.getD 74 undef :: a.tmps.getD 75 undef :: a.tmps.getD 76 undef :: a.tmps.getD 77 undef :: a.tmps.getD 78 undef :: a.tmps.getD 79 undef :: a.tmps.getD 80 undef :: a.tmps.getD 81 undef :: a.tmps.getD 82 undef :: a.tmps.getD 83 undef :: a.tmps.getD 84 undef :: a.tmps.getD 85 undef :: a.tmps.getD 86 undef :: a.tmps.getD 87 undef :: a.tmps.getD 88 undef :: a.tmps.getD 89 undef :: a.tmps.getD 90 undef :: a.tmps.getD 91 undef :: a.tmps.getD 92 undef :: []).toArray,defers:=[] }:=by
 refine ⟨a'.tmps.getD 45 undef,a'.tmps.getD 46 undef,a'.tmps.getD 47 undef,a'.tmps.getD 48 undef,a'.tmps.getD 49 undef,a'.tmps.getD 50 undef,a'.tmps.getD 51 undef,a'.tmps.getD 52 undef,a'.tmps.getD 53 undef,a'.tmps.getD 54 undef,a'.tmps.getD 55 undef,a'.tmps.getD 56 undef,a'.tmps.getD 57 undef,a'.tmps.getD 58 undef,a'.tmps.getD 59 undef,a'.tmps.getD 60 undef,a'.tmps.getD 61 undef,a'.tmps.getD 62 undef,a'.tmps.getD 63 undef,a'.tmps.getD 64 undef,a'.tmps.getD 65 undef,a'.tmps.getD 66 undef,?_⟩
 obtain ⟨tm,df⟩:=a';obtain rfl:df=[]:=hd;have e:=arr_map tm 93 hz;have hf:=fun s (h:s ∈ FSG)=>hfx s h
 congr 1
 rw [e];show (List.map (fun i=>tm.getD i undef) (List.range 93)).toArray=_;have e0:tm.getD 0 undef=a.tmps.getD 0 undef:=hf 0 (by decide);have e1:tm.getD 1 undef=a.tmps.getD 1 undef:=hf 1 (by decide);have e2:tm.getD 2 undef=a.tmps.getD 2 undef:=hf 2 (by decide);have e3:tm.getD 3 undef=a.tmps.getD 3 undef:=hf 3 (by decide);have e4:tm.getD 4 undef=a.tmps.getD 4 undef:=hf 4 (by decide);have e5:tm.getD 5 undef=a.tmps.getD 5 undef:=hf 5 (by decide);have e6:tm.getD 6 undef=a.tmps.getD 6 undef:=hf 6 (by decide);have e7:tm.getD 7 undef=a.tmps.getD 7 undef:=hf 7 (by decide);have e8:tm.getD 8 undef=a.tmps.getD 8 undef:=hf 8 (by decide);have e9:tm.getD 9 undef=a.tmps.getD 9 undef:=hf 9 (by decide);have e10:tm.getD 10 undef=a.tmps.getD 10 undef:=hf 10 (by decide);have e11:tm.getD 11 undef=a.tmps.getD 11 undef:=hf 11 (by decide);have e12:tm.getD 12 undef=a.tmps.getD 12 undef:=hf 12 (by decide);have e13:tm.getD 13 undef=a.tmps.getD 13 undef:=hf 13 (by decide);have e14:tm.getD 14 undef=a.tmps.getD 14 undef:=hf 14 (by decide);have e15:tm.getD 15 undef=a.tmps.getD 15 undef:=hf 15 (by decide);have e16:tm.getD 16 undef=a.tmps.getD 16 undef:=hf 16 (by decide);have e17:tm.getD 17 undef=a.tmps.getD 17 undef:=hf 17 (by decide);have e18:tm.getD 18 undef=a.tmps.getD 18 undef:=hf 18 (by decide);have e19:tm.getD 19 undef=a.tmps.getD 19 undef:=hf 19 (by decide);have e20:tm.getD 20 undef=a.tmps.getD 20 undef:=hf 20 (by decide);have e21:tm.getD 21 undef=a.tmps.getD 21 undef:=hf 21 (by decide);have e22:tm.getD 22 undef=a.tmps.getD 22 undef:=hf 22 (by decide);have e23:tm.getD 23 undef=a.tmps.getD 23 undef:=hf 23 (by decide);have e24:tm.getD 24 undef=a.tmps.getD 24 undef:=hf 24 (by decide);have e25:tm.getD 25 undef=a.tmps.getD 25 undef:=hf 25 (by decide);have e26:tm.getD 26 undef=a.tmps.getD 26 undef:=hf 26 (by decide);have e27:tm.getD 27 undef=a.tmps.getD 27 undef:=hf 27 (by decide);have e28:tm.getD 28 undef=a.tmps.getD 28 undef:=hf 28 (by decide);have e29:tm.getD 29 undef=a.tmps.getD 29 undef:=hf 29 (by decide);have e30:tm.getD 30 undef=a.tmps.getD 30 undef:=hf 30 (by decide);have e31:tm.getD 31 undef=a.tmps.getD 31 undef:=hf 31 (by decide);have e32:tm.getD 32 undef=a.tmps.getD 32 undef:=hf 32 (by decide);have e33:tm.getD 33 undef=a.tmps.getD 33 undef:=hf 33 (by decide);have e34:tm.getD 34 undef=a.tmps.getD 34 undef:=hf 34 (by decide);have e35:tm.getD 35 undef=a.tmps.getD 35 undef:=hf 35 (by decide);have e36:tm.getD 36 undef=a.tmps.getD 36 undef:=hf 36 (by decide);have e37:tm.getD 37 undef=a.tmps.getD 37 undef:=hf 37 (by decide);have e38:tm.getD 38 undef=a.tmps.getD 38 undef:=hf 38 (by decide);have e39:tm.getD 39 undef=a.tmps.getD 39 undef:=hf 39 (by decide);have e40:tm.getD 40 undef=a.tmps.getD 40 undef:=hf 40 (by decide);have e41:tm.getD 41 undef=a.tmps.getD 41 undef:=hf 41 (by decide);have e42:tm.getD 42 undef=a.tmps.getD 42 undef:=hf 42 (by decide);have e43:tm.getD 43 undef=a.tmps.getD 43 undef:=hf 43 (by decide);have e44:tm.getD 44 undef=a.tmps.getD 44 undef:=hf 44 (by decide);have e67:tm.getD 67 undef=a.tmps.getD 67 undef:=hf 67 (by decide);have e68:tm.getD 68 undef=a.tmps.getD 68 undef:=hf 68 (by decide);have e69:tm.getD 69 undef=a.tmps.getD 69 undef:=hf 69 (by decide);have e70:tm.getD 70 undef=a.tmps.getD 70 undef:=hf 70 (by decide);have e71:tm.getD 71 undef=a.tmps.getD 71 undef:=hf 71 (by decide);have e72:tm.getD 72 undef=a.tmps.getD 72 undef:=hf 72 (by decide);have e73:tm.getD 73 undef=a.tmps.getD 73 undef:=hf 73 (by decide);have e74:tm.getD 74 undef=a.tmps.getD 74 undef:=hf 74 (by decide);have e75:tm.getD 75 undef=a.tmps.getD 75 undef:=hf 75 (by decide);have e76:tm.getD 76 undef=a.tmps.getD 76 undef:=hf 76 (by decide);have e77:tm.getD 77 undef=a.tmps.getD 77 undef:=hf 77 (by decide);have e78:tm.getD 78 undef=a.tmps.getD 78 undef:=hf 78 (by decide);have e79:tm.getD 79 undef=a.tmps.getD 79 undef:=hf 79 (by decide);have e80:tm.getD 80 undef=a.tmps.getD 80 undef:=hf 80 (by decide);have e81:tm.getD 81 undef=a.tmps.getD 81 undef:=hf 81 (by decide);have e82:tm.getD 82 undef=a.tmps.getD 82 undef:=hf 82 (by decide);have e83:tm.getD 83 undef=a.tmps.getD 83 undef:=hf 83 (by decide);have e84:tm.getD 84 undef=a.tmps.getD 84 undef:=hf 84 (by decide);have e85:tm.getD 85 undef=a.tmps.getD 85 undef:=hf 85 (by decide);have e86:tm.getD 86 undef=a.tmps.getD 86 undef:=hf 86 (by decide);have e87:tm.getD 87 undef=a.tmps.getD 87 undef:=hf 87 (by decide);have e88:tm.getD 88 undef=a.tmps.getD 88 undef:=hf 88 (by decide);have e89:tm.getD 89 undef=a.tmps.getD 89 undef:=hf 89 (by decide);have e90:tm.getD 90 undef=a.tmps.getD 90 undef:=hf 90 (by decide);have e91:tm.getD 91 undef=a.tmps.getD 91 undef:=hf 91 (by decide);have e92:tm.getD 92 undef=a.tmps.getD 92 undef:=hf 92 (by decide);rw [<- e0,<- e1,<- e2,<- e3,<- e4,<- e5,<- e6,<- e7,<- e8,<- e9,<- e10,<- e11,<- e12,<- e13,<- e14,<- e15,<- e16,<- e17,<- e18,<- e19,<- e20,<- e21,<- e22,<- e23,<- e24,<- e25,<- e26,<- e27,<- e28,<- e29,<- e30,<- e31,<- e32,<- e33,<- e34,<- e35,<- e36,<- e37,<- e38,<- e39,<- e40,<- e41,<- e42,<- e43,<- e44,<- e67,<- e68,<- e69,<- e70,<- e71,<- e72,<- e73,<- e74,<- e75,<- e76,<- e77,<- e78,<- e79,<- e80,<- e81,<- e82,<- e83,<- e84,<- e85,<- e86,<- e87,<- e88,<- e89,<- e90,<- e91,<- e92]
 rfl
structure GO0 (g:GW):Prop where
 wbtb:g.wb<g.tb
 tbit:g.tb<g.it
 itW:g.it<g.W.heap.size
 wzb:g.wz.heap.size<=g.wb
 b0:g.B0<=g.wb
 acl:g.acc.length<=1073741824
 beh:∀ V,Below g.W.heap.size g.W V->Calls Tryz.prog 67 #[ptW g.wb 0,.string g.x.kind,.string ⟨#[]⟩,.string ⟨#[]⟩] V fun ev w'=>(∃ v,ev=.returned v/\Kd.R (Kd.fixed kRow g.wz) 60 w' V.heap.size (fun _=>True) v g.I)/\Below V.heap.size V w'
 att:∀ V Ai ci,Below g.W.heap.size g.W V->Kd.R (Kd.fixed kRow g.wz) 60 V g.W.heap.size (fun _=>True) (.slice Ai g.I.length ci) g.I->Calls Tryz.prog 76 #[ptW g.wb 0,.string g.x.kind,.slice Ai g.I.length ci,.slice g.Ae g.x.ents.length g.ce] V (WPost tab g.rL g.wb g.Ar g.cr g.q V)
theorem region8W {P:Program} {ops:Array Oper} {Q:Exit->Act->World->Prop} {a:Act} (g:GW) (hop:ops=OPG) (hP:P=Tryz.prog) {id:Nat} (O:GO0 g) (hm:P.follows .mixedOrders=true) (hd:a.defers=[]) (hz:a.tmps.size=93) (s4:a.tmps.getD 4 undef=ptW g.wb 0) (s5:a.tmps.getD 5 undef=ptW g.tb 0) (s7:a.tmps.getD 7 undef=ptW g.it 0)
  (hB:Below g.wz.heap.size g.wz g.W) (hw:g.W.heap[g.wb]?=some (.cells (wrC tab g.Ar g.cr g.q) 146 (0,0))) (ht:g.W.heap[g.tb]?=some (.cells (trV g.cpu (.slice g.Ao g.acc.length g.co)) 24 (0,0))) (hi:g.W.heap[g.it]?=some (.cells (itemC g.x (.slice g.Ae g.x.ents.length g.ce)) 78 (0,0))) (ho:g.ob g.W)
  (hfin:∀ w' Av cv,Below g.wz.heap.size g.wz w'->g.W.heap.size<=w'.heap.size->(∀ k,k<g.tb->k≠g.wb->w'.heap[k]?=g.W.heap[k]?)->w'.heap[g.wb]?=some (.cells (wrC tab g.Ar g.cr (g.q||g.rL.2)) 146 (0,0))->w'.heap[g.tb]?=some (.cells (trV g.cpu (.slice Av (g.acc.length + 1) cv)) 24 (0,0))->g.on w' (.slice Av (g.acc.length + 1) cv)->∀ u45 u46 u47 u48 u49 u50 u51 u52 u53 u54 u55 u56 u57 u58 u59 u60 u61 u62 u63 u64 u65 u66:Value,Q .normal { tmps:=(a.tmps.getD 0 undef :: a.tmps.getD 1 undef :: a.tmps.getD 2 undef :: a.tmps.getD 3 undef :: a.tmps.getD 4 undef :: a.tmps.getD 5 undef :: a.tmps.getD 6 undef :: a.tmps.getD 7 undef :: a.tmps.getD 8 undef :: a.tmps.getD 9 undef :: a.tmps.getD 10 undef :: a.tmps.getD 11 undef :: a.tmps.getD 12 undef :: a.tmps.getD 13 undef :: a.tmps.getD 14 undef :: a.tmps.getD 15 undef :: a.tmps.getD 16 undef :: a.tmps.getD 17 undef :: a.tmps.getD 18 undef :: a.tmps.getD 19 undef :: a.tmps.getD 20 undef :: a.tmps.getD 21 undef :: a.tmps.getD 22 undef :: a.tmps.getD 23 undef :: a.tmps.getD 24 undef :: a.tmps.getD 25 undef :: a.tmps.getD 26 undef :: a.tmps.getD 27 undef :: a.tmps.getD 28 undef :: a.tmps.getD 29 undef :: a.tmps.getD 30 undef :: a.tmps.getD 31 undef :: a.tmps.getD 32 undef :: a.tmps.getD 33 undef :: a.tmps.getD 34 undef :: a.tmps.getD 35 undef :: a.tmps.getD 36 undef :: a.tmps.getD 37 undef :: a.tmps.getD 38 undef :: a.tmps.getD 39 undef :: a.tmps.getD 40 undef :: a.tmps.getD 41 undef :: a.tmps.getD 42 undef :: a.tmps.getD 43 undef :: a.tmps.getD 44 undef :: u45 :: u46 :: u47 :: u48 :: u49 :: u50 :: u51 :: u52 :: u53 :: u54 :: u55 :: u56 :: u57 :: u58 :: u59 :: u60 :: u61 :: u62 :: u63 :: u64 :: u65 :: u66 :: a.tmps.getD 67 undef :: a.tmps.getD 68 undef :: a.tmps.getD 69 undef :: a.tmps.getD 70 undef :: a.tmps.getD 71 undef :: a.tmps.getD 72 undef :: a.tmps.getD 73 undef :: a.tmps.getD 74 undef :: a.tmps.getD 75 undef :: a.tmps.getD 76 undef :: a.tmps.getD 77 undef :: a.tmps.getD 78 undef :: a.tmps.getD 79 undef :: a.tmps.getD 80 undef :: a.tmps.getD 81 undef :: a.tmps.getD 82 undef :: a.tmps.getD 83 undef :: a.tmps.getD 84 undef :: a.tmps.getD 85 undef :: a.tmps.getD 86 undef :: a.tmps.getD 87 undef :: a.tmps.getD 88 undef :: a.tmps.getD 89 undef :: a.tmps.getD 90 undef :: a.tmps.getD 91 undef :: a.tmps.getD 92 undef :: []).toArray,defers:=[] } w'):(Code.region id ops true).wp P Q a g.W:=by
 have hmem:∀ s v,s ∈ FSG->a.tmps.getD s undef=v->(s,v) ∈ FSG.map (fun s=>(s,a.tmps.getD s undef)):=fun s v h e=>List.mem_map.2 ⟨s,h,by rw [e]⟩
 refine region8 (g:={ g with fx:=FSG.map (fun s=>(s,a.tmps.getD s undef)) }) hop hP ⟨by simp [List.map_map,Function.comp_def],hmem 4 _ (by decide) s4,hmem 5 _ (by decide) s5,hmem 7 _ (by decide) s7,O.wbtb,O.tbit,O.itW,O.wzb,O.b0,O.acl,O.beh,O.att⟩ hm hd hz (fun p hp=>by
  obtain ⟨s,_,rfl⟩:=List.mem_map.1 hp
  rfl) hB hw ht hi ho (fun a' w' h1 h2 h3 h4 h5 h6 h7 h8=>?_)
 obtain ⟨Av,cv,h9,h10⟩:=h8;obtain ⟨u45,u46,u47,u48,u49,u50,u51,u52,u53,u54,u55,u56,u57,u58,u59,u60,u61,u62,u63,u64,u65,u66,rfl⟩:=act_lit (a:=a) h1 h2 (fun s hs=>h3 (s,a.tmps.getD s undef) (hmem s _ hs rfl));exact hfin w' Av cv h4 h5 h6 h7 h9 h10 u45 u46 u47 u48 u49 u50 u51 u52 u53 u54 u55 u56 u57 u58 u59 u60 u61 u62 u63 u64 u65 u66
end Go.Proofs.YtmfejjlmflgnbaaGreatDoor.Sc

/- THE REGION that reads an object, of the document's Read: 'l, f := listed(rows, o.Kind, under(rows, o.Kind, "", ""), o.Attrs, o.At)', in any order. -/
import Derived.Test.YtmfejjlmflgnbaaGreatDoorVInv
import Derived.Test.YtmfejjlmflgnbaaGreatDoorVRef
import Derived.Test.YtmfejjlmflgnbaaGreatDoorVLst
import Derived.Test.YtmfejjlmflgnbaaGreatDoorVScRd
import Derived.Test.YtmfejjlmflgnbaaGreatDoorVScRr
set_option linter.unusedVariables false
set_option linter.unusedSimpArgs false
set_option maxRecDepth 100000
namespace Go.Proofs.YtmfejjlmflgnbaaGreatDoor.Sc
open RowKit PA YtmfejjlmflgnbaaGreatDoorW.PrintWords YtmfejjlmflgnbaaGreatDoorW.PrintLast YtmfejjlmflgnbaaGreatDoorW.PrintMore Sp Tr Tok
open Go.Lib (hid)
abbrev ptR (b o:Nat):Value:=.pointer (some ⟨b,o,none⟩)
noncomputable def OPL:Array Oper:=opsOf Tryz.f30 10
theorem opl_size:OPL.size=18:=by kernel_rfl
def DL:List (Option Nat):=[some 40,some 41,some 42,some 43,some 44,some 45,some 46,some 47,some 48,some 49,some 50,some 51,some 39,some 52,some 53,some 10,some 9,none]
def FSL:List Nat:=[0,1,2,3,4,5,6,7,8,11,12,13,14,15,16,17,18,19,20,21,22,23,24,25,26,27,28,29,30,31,32,33,34,35,36,37,38,54,55,56,57,58,59,60,61,62,63,64,65,66,67,68,69,70,71,72,73]
theorem dl_ok:okD OPL 74 DL FSL=true:=by kernel_rfl
structure GL where
 fx:List (Nat × Value)
 W:World
 ob:Nat
 o:SO
 A5:Option Addr
 c5:Nat
 n5:Nat
 Ar:Option Addr
 cr:Nat
 I:List SR
 es:List SE
 F:Array Value
section
variable (g:GL)
abbrev GL.row (g:GL) (w:World) (v:Value):Prop:=Kd.R kEnt 80 w g.W.heap.size (fun _=>True) v g.es
def VL (l:Array Bool):Nat->Value->World->Prop
 | 0,v,_=>v=.slice g.Ar tab.length g.cr
 | 1,v,_=>v=ptR g.ob 0
 | 2,v,_=>v=.string g.o.f0
 | 3,v,_=>v=.slice g.Ar tab.length g.cr
 | 4,v,_=>v=ptR g.ob 0
 | 5,v,_=>v=.string g.o.f0
 | 6,v,w=>l.getD 11 true=false->∃ Ai ci,v=.slice Ai g.I.length ci/\Kd.C kRow w Ai g.I.length g.I
 | 7,v,_=>v=ptR g.ob 5
 | 8,v,_=>v=.slice g.A5 g.n5 g.c5
 | 9,v,_=>v=ptR g.ob 2
 | 10,v,_=>v=.agg #[.int .i64 g.o.f2.f0,.int .i64 g.o.f2.f1,.int .i64 g.o.f2.f2]
 | 11,v,w=>∃ Ae ce,v=.tuple #[.slice Ae g.es.length ce,.agg g.F]/\g.row w (.slice Ae g.es.length ce)
 | 12,v,w=>∃ Ae ce,v=.tuple #[.slice Ae g.es.length ce,.agg g.F]/\g.row w (.slice Ae g.es.length ce)
 | 13,v,w=>∃ Ae ce,v=.slice Ae g.es.length ce/\g.row w (.slice Ae g.es.length ce)
 | 14,v,_=>v=.agg g.F
 | 15,v,w=>∃ k,v=ptR k 0/\g.W.heap.size<=k/\∃ c:Array Value,c.size=5/\w.heap[k]?=some (.cells c 66 (0,0))/\(l.getD 17 true=true->c=g.F)
 | 16,v,w=>∃ Ae ce,v=.slice Ae g.es.length ce/\g.row w (.slice Ae g.es.length ce)
 | _,_,_=>True
structure JL (l:Array Bool) (w:World):Prop where
 bel:Below g.W.heap.size g.W w
structure LOk:Prop where
 hfs:g.fx.map Prod.fst=FSL
 f4:(4,.slice g.Ar tab.length g.cr) ∈ g.fx
 f8:(8,ptR g.ob 0) ∈ g.fx
 obj:g.W.heap[g.ob]?=some (.cells #[.string g.o.f0,.string g.o.f1,.int .i64 g.o.f2.f0,.int .i64 g.o.f2.f1,.int .i64 g.o.f2.f2,.slice g.A5 g.n5 g.c5,.bool g.o.f4,.string g.o.f5] 44 (0,0))
 F5:g.F.size=5/\g.F.all (·.oneCell')=true
 und:∀ V,Below g.W.heap.size g.W V->Calls Tryz.prog 73 #[.slice g.Ar tab.length g.cr,.string g.o.f0,.string ⟨#[]⟩,.string ⟨#[]⟩] V fun ev w'=>(∃ v,ev=.returned v/\Kd.R (Kd.fixed kRow V) 60 w' V.heap.size (fun _=>True) v g.I)/\Below V.heap.size V w'
 lis:∀ V Ai ci,Below g.W.heap.size g.W V->Kd.C kRow V Ai g.I.length g.I->Calls Tryz.prog 72 #[.slice g.Ar tab.length g.cr,.string g.o.f0,.slice Ai g.I.length ci,.slice g.A5 g.n5 g.c5,.agg #[.int .i64 g.o.f2.f0,.int .i64 g.o.f2.f1,.int .i64 g.o.f2.f2]] V fun ev w'=>Below V.heap.size V w'/\∃ Ae ce,ev=.returned (.tuple #[.slice Ae g.es.length ce,.agg g.F])/\Kd.R kEnt 80 w' V.heap.size (fun _=>True) (.slice Ae g.es.length ce) g.es
abbrev RGL:Array Bool->Act->World->Prop:=RL OPL 74 DL g.fx (VL g) (JL g)
end
section
variable {g:GL} {Q:Exit->Act->World->Prop} {l:Array Bool} {a:Act} {w:World}
theorem JL.ob {g:GL} {l:Array Bool} {w:World} (h:JL g l w) (O:LOk g):w.heap[g.ob]?=some (.cells #[.string g.o.f0,.string g.o.f1,.int .i64 g.o.f2.f0,.int .i64 g.o.f2.f1,.int .i64 g.o.f2.f2,.slice g.A5 g.n5 g.c5,.bool g.o.f4,.string g.o.f5] 44 (0,0)):=blk_b O.obj h.bel
theorem rgl_set (h:RGL g l a w) {i:Nat} (hi:i<18) (k:Nat) (hne:i≠k):(l.setIfInBounds i true).getD k true=l.getD k true:=by
 rw [getD_set l i k (by rw [h.lz,opl_size];exact hi),if_neg hne]
theorem vl_move {l':Array Bool} {w w':World} (hB:Below w.heap.size w w') (h11:l'.getD 11 true=false->l.getD 11 true=false) (h17:l'.getD 17 true=true->l.getD 17 true=true) (j:Nat) (u:Value) (h:VL g l j u w):VL g l' j u w':=by
 match j,h with
 | 0,h=>exact h
 | 1,h=>exact h
 | 2,h=>exact h
 | 3,h=>exact h
 | 4,h=>exact h
 | 5,h=>exact h
 | 6,h =>
  intro e;obtain ⟨Ai,ci,h1,h2⟩:=h (h11 e);exact ⟨Ai,ci,h1,Kd.C_below h2 hB⟩
 | 7,h=>exact h
 | 8,h=>exact h
 | 9,h=>exact h
 | 10,h=>exact h
 | 11,h =>
  obtain ⟨Ae,ce,h1,h2⟩:=h;exact ⟨Ae,ce,h1,Kd.R_below h2 hB⟩
 | 12,h =>
  obtain ⟨Ae,ce,h1,h2⟩:=h;exact ⟨Ae,ce,h1,Kd.R_below h2 hB⟩
 | 13,h =>
  obtain ⟨Ae,ce,h1,h2⟩:=h;exact ⟨Ae,ce,h1,Kd.R_below h2 hB⟩
 | 14,h=>exact h
 | 15,h =>
  obtain ⟨k,h1,h2,c,h3,h4,h5⟩:=h;exact ⟨k,h1,h2,c,h3,blk_b h4 hB,fun e=>h5 (h17 e)⟩
 | 16,h =>
  obtain ⟨Ae,ce,h1,h2⟩:=h;exact ⟨Ae,ce,h1,Kd.R_below h2 hB⟩
 | n + 17,h=>exact trivial
theorem rgl_read {i d:Nat} {op:Op} {v:Value} (hi:i<18) (h17:i≠17) (O:LOk g) (h:RGL g l a w) (hrd:i ∈ Region.ready .any OPL l) (hd:DL[i]?=some (some d)) (ho:(OPL[i]?).map (fun o=>(o.op,o.dst,o.guard))=some (op,some d,none))
  (hrun:∀ o:Oper,o.op=op->(execOp a.eval o).run Tryz.prog w=.ok (.value v) w) (hV:VL g (l.setIfInBounds i true) i v w):wpOp Tryz.prog OPL Q i (RGL g (l.setIfInBounds i true)) a w:=by
 have s17:=rgl_set h hi 17 h17
 refine rs_value ho hrun (h.put dl_ok O.hfs hrd hd hV (fun j u _ hne hl hv=>vl_move (Below.refl _ _) (fun e=>?_) (fun e=>by rw [<- s17];exact e) j u hv) ⟨h.jj.bel⟩)
 by_cases h11:i=11
 ·subst h11
  rw [getD_set l 11 11 (by rw [h.lz,opl_size];decide),if_pos rfl] at e;cases e
 ·rw [<- rgl_set h hi 11 h11]
  exact e
theorem rgl_0 (O:LOk g) (h:RGL g l a w) (hrd:0 ∈ Region.ready .any OPL l):wpOp Tryz.prog OPL Q 0 (RGL g (l.setIfInBounds 0 true)) a w:=by
 exact rgl_read (d:=40) (op:=.move (.tmp 4)) (v:=a.tmps.getD 4 undef) (by decide) (by decide) O h hrd rfl (by kernel_rfl) (by intro o ho;unfold execOp;rw [ho];rfl) (h.fix (4,.slice g.Ar tab.length g.cr) O.f4)
theorem rgl_1 (O:LOk g) (h:RGL g l a w) (hrd:1 ∈ Region.ready .any OPL l):wpOp Tryz.prog OPL Q 1 (RGL g (l.setIfInBounds 1 true)) a w:=by
 have hv:a.eval (.tmp 8)=ptR g.ob 0:=h.fix (8,ptR g.ob 0) O.f8;exact rgl_read (d:=41) (op:=.fieldAddr 44 (.tmp 8) 0) (v:=ptR g.ob 0) (by decide) (by decide) O h hrd rfl (by kernel_rfl) (by intro o ho;unfold execOp;rw [ho];simp only [hv];kernel_rfl) rfl
theorem rgl_2 (O:LOk g) (h:RGL g l a w) (hrd:2 ∈ Region.ready .any OPL l):wpOp Tryz.prog OPL Q 2 (RGL g (l.setIfInBounds 2 true)) a w:=by
 have hv:a.tmps.getD 41 undef=ptR g.ob 0:=h.get hrd (j:=1) (by kernel_rfl) (by rw [opl_size];decide) rfl;have k0:w.cell? ⟨g.ob,0,none⟩=some (.string g.o.f0):=(cell_row (h.jj.ob O) 0).trans rfl;exact rgl_read (d:=42) (op:=.load 9 (.tmp 41)) (v:=.string g.o.f0) (by decide) (by decide) O h hrd rfl (by kernel_rfl) (by intro o ho;unfold execOp;rw [ho];rw [Array.getD_eq_getD_getElem?] at hv;simp [Act.eval,hv,go_sem,k0]) rfl
theorem rgl_3 (O:LOk g) (h:RGL g l a w) (hrd:3 ∈ Region.ready .any OPL l):wpOp Tryz.prog OPL Q 3 (RGL g (l.setIfInBounds 3 true)) a w:=by
 exact rgl_read (d:=43) (op:=.move (.tmp 4)) (v:=a.tmps.getD 4 undef) (by decide) (by decide) O h hrd rfl (by kernel_rfl) (by intro o ho;unfold execOp;rw [ho];rfl) (h.fix (4,.slice g.Ar tab.length g.cr) O.f4)
theorem rgl_4 (O:LOk g) (h:RGL g l a w) (hrd:4 ∈ Region.ready .any OPL l):wpOp Tryz.prog OPL Q 4 (RGL g (l.setIfInBounds 4 true)) a w:=by
 have hv:a.eval (.tmp 8)=ptR g.ob 0:=h.fix (8,ptR g.ob 0) O.f8;exact rgl_read (d:=44) (op:=.fieldAddr 44 (.tmp 8) 0) (v:=ptR g.ob 0) (by decide) (by decide) O h hrd rfl (by kernel_rfl) (by intro o ho;unfold execOp;rw [ho];simp only [hv];kernel_rfl) rfl
theorem rgl_5 (O:LOk g) (h:RGL g l a w) (hrd:5 ∈ Region.ready .any OPL l):wpOp Tryz.prog OPL Q 5 (RGL g (l.setIfInBounds 5 true)) a w:=by
 have hv:a.tmps.getD 44 undef=ptR g.ob 0:=h.get hrd (j:=4) (by kernel_rfl) (by rw [opl_size];decide) rfl;have k0:w.cell? ⟨g.ob,0,none⟩=some (.string g.o.f0):=(cell_row (h.jj.ob O) 0).trans rfl;exact rgl_read (d:=45) (op:=.load 9 (.tmp 44)) (v:=.string g.o.f0) (by decide) (by decide) O h hrd rfl (by kernel_rfl) (by intro o ho;unfold execOp;rw [ho];rw [Array.getD_eq_getD_getElem?] at hv;simp [Act.eval,hv,go_sem,k0]) rfl
theorem rgl_6 (O:LOk g) (h:RGL g l a w) (hrd:6 ∈ Region.ready .any OPL l):wpOp Tryz.prog OPL Q 6 (RGL g (l.setIfInBounds 6 true)) a w:=by
 have v1:a.tmps.getD 43 undef=.slice g.Ar tab.length g.cr:=h.get hrd (j:=3) (by kernel_rfl) (by rw [opl_size];decide) rfl;have v2:a.tmps.getD 45 undef=.string g.o.f0:=h.get hrd (j:=5) (by kernel_rfl) (by rw [opl_size];decide) rfl;have s17:=rgl_set h (i:=6) (by decide) 17 (by decide);have s11:=rgl_set h (i:=6) (by decide) 11 (by decide)
 refine rs_call (d:=46) (aa:=#[.tmp 43,.tmp 45,.const (.string ⟨#[]⟩),.const (.string ⟨#[]⟩)]) (ts:=#[53,9,9,9]) (args:=#[.slice g.Ar tab.length g.cr,.string g.o.f0,.string ⟨#[]⟩,.string ⟨#[]⟩]) (by kernel_rfl) Tryz.func73 rfl rfl (by simp only [List.map_toArray,List.map_cons,List.map_nil,Act.eval,v1,v2]) ((O.und w h.jj.bel).mono ?_)
 rintro e w' ⟨⟨v,rfl,hR⟩,hB⟩;obtain ⟨Ai,ci,rfl⟩:=RForm hR
 refine ⟨_,rfl,h.put dl_ok O.hfs hrd rfl (fun _=>⟨Ai,ci,rfl,fixed_C (keeps_below hB) (Kd.R_reads' hR).2.2⟩) (fun j u _ _ _ hv=>vl_move hB (fun e=>by rw [<- s11];exact e) (fun e=>by rw [<- s17];exact e) j u hv) ⟨h.jj.bel.trans (hB.mono h.jj.bel.size)⟩⟩
theorem rgl_7 (O:LOk g) (h:RGL g l a w) (hrd:7 ∈ Region.ready .any OPL l):wpOp Tryz.prog OPL Q 7 (RGL g (l.setIfInBounds 7 true)) a w:=by
 have hv:a.eval (.tmp 8)=ptR g.ob 0:=h.fix (8,ptR g.ob 0) O.f8;exact rgl_read (d:=47) (op:=.fieldAddr 44 (.tmp 8) 3) (v:=ptR g.ob 5) (by decide) (by decide) O h hrd rfl (by kernel_rfl) (by intro o ho;unfold execOp;rw [ho];simp only [hv];kernel_rfl) rfl
theorem rgl_8 (O:LOk g) (h:RGL g l a w) (hrd:8 ∈ Region.ready .any OPL l):wpOp Tryz.prog OPL Q 8 (RGL g (l.setIfInBounds 8 true)) a w:=by
 have hv:a.tmps.getD 47 undef=ptR g.ob 5:=h.get hrd (j:=7) (by kernel_rfl) (by rw [opl_size];decide) rfl;have k0:w.cell? ⟨g.ob,5,none⟩=some (.slice g.A5 g.n5 g.c5):=(cell_row (h.jj.ob O) 5).trans rfl;exact rgl_read (d:=48) (op:=.load 42 (.tmp 47)) (v:=.slice g.A5 g.n5 g.c5) (by decide) (by decide) O h hrd rfl (by kernel_rfl) (by intro o ho;unfold execOp;rw [ho];rw [Array.getD_eq_getD_getElem?] at hv;simp [Act.eval,hv,go_sem,k0]) rfl
theorem rgl_9 (O:LOk g) (h:RGL g l a w) (hrd:9 ∈ Region.ready .any OPL l):wpOp Tryz.prog OPL Q 9 (RGL g (l.setIfInBounds 9 true)) a w:=by
 have hv:a.eval (.tmp 8)=ptR g.ob 0:=h.fix (8,ptR g.ob 0) O.f8;exact rgl_read (d:=49) (op:=.fieldAddr 44 (.tmp 8) 2) (v:=ptR g.ob 2) (by decide) (by decide) O h hrd rfl (by kernel_rfl) (by intro o ho;unfold execOp;rw [ho];simp only [hv];kernel_rfl) rfl
theorem rgl_10 (O:LOk g) (h:RGL g l a w) (hrd:10 ∈ Region.ready .any OPL l):wpOp Tryz.prog OPL Q 10 (RGL g (l.setIfInBounds 10 true)) a w:=by
 have hv:a.tmps.getD 49 undef=ptR g.ob 2:=h.get hrd (j:=9) (by kernel_rfl) (by rw [opl_size];decide) rfl;have k0:w.cell? ⟨g.ob,2,none⟩=some (.int .i64 g.o.f2.f0):=(cell_row (h.jj.ob O) 2).trans rfl;have k1:w.cell? ⟨g.ob,3,none⟩=some (.int .i64 g.o.f2.f1):=(cell_row (h.jj.ob O) 3).trans rfl;have k2:w.cell? ⟨g.ob,4,none⟩=some (.int .i64 g.o.f2.f2):=(cell_row (h.jj.ob O) 4).trans rfl;exact rgl_read (d:=50) (op:=.load 41 (.tmp 49)) (v:=.agg #[.int .i64 g.o.f2.f0,.int .i64 g.o.f2.f1,.int .i64 g.o.f2.f2]) (by decide) (by decide) O h hrd rfl (by kernel_rfl) (by intro o ho;unfold execOp;rw [ho];rw [Array.getD_eq_getD_getElem?] at hv;simp [Act.eval,hv,go_sem,k0,k1,k2]) rfl
theorem rgl_11 (O:LOk g) (h:RGL g l a w) (hrd:11 ∈ Region.ready .any OPL l):wpOp Tryz.prog OPL Q 11 (RGL g (l.setIfInBounds 11 true)) a w:=by
 have v1:a.tmps.getD 40 undef=.slice g.Ar tab.length g.cr:=h.get hrd (j:=0) (by kernel_rfl) (by rw [opl_size];decide) rfl;have v2:a.tmps.getD 42 undef=.string g.o.f0:=h.get hrd (j:=2) (by kernel_rfl) (by rw [opl_size];decide) rfl;have v4:a.tmps.getD 48 undef=.slice g.A5 g.n5 g.c5:=h.get hrd (j:=8) (by kernel_rfl) (by rw [opl_size];decide) rfl;have v5:a.tmps.getD 50 undef=.agg #[.int .i64 g.o.f2.f0,.int .i64 g.o.f2.f1,.int .i64 g.o.f2.f2]:=h.get hrd (j:=10) (by kernel_rfl) (by rw [opl_size];decide) rfl;obtain ⟨Ai,ci,v3,hC⟩:=(show VL g l 6 (a.tmps.getD 46 undef) w from h.get hrd (j:=6) (by kernel_rfl) (by rw [opl_size];decide) rfl) (ready_open hrd).2;have n17:=h.late hrd (j:=17) (n:=18) (by rw [opl_size];decide) (by kernel_rfl);have s17:=rgl_set h (i:=11) (by decide) 17 (by decide)
 refine rs_call (d:=51) (aa:=#[.tmp 40,.tmp 42,.tmp 46,.tmp 48,.tmp 50]) (ts:=#[53,9,53,42,41]) (args:=#[.slice g.Ar tab.length g.cr,.string g.o.f0,.slice Ai g.I.length ci,.slice g.A5 g.n5 g.c5,.agg #[.int .i64 g.o.f2.f0,.int .i64 g.o.f2.f1,.int .i64 g.o.f2.f2]]) (by kernel_rfl) Tryz.func72 rfl rfl (by simp only [List.map_toArray,List.map_cons,List.map_nil,Act.eval,v1,v2,v3,v4,v5]) ((O.lis w Ai ci h.jj.bel hC).mono ?_)
 rintro e w' ⟨hB,Ae,ce,rfl,hR⟩
 refine ⟨_,rfl,h.put dl_ok O.hfs hrd rfl ⟨Ae,ce,rfl,Kd.R_lower hR h.jj.bel.size⟩ (fun j u _ _ _ hv=>vl_move hB (fun e=>?_) (fun e=>by rw [<- s17];exact e) j u hv) ⟨h.jj.bel.trans (hB.mono h.jj.bel.size)⟩⟩
 exact (ready_open hrd).2
theorem rgl_12 (O:LOk g) (h:RGL g l a w) (hrd:12 ∈ Region.ready .any OPL l):wpOp Tryz.prog OPL Q 12 (RGL g (l.setIfInBounds 12 true)) a w:=by
 have hv:VL g l 11 (a.tmps.getD 51 undef) w:=h.get hrd (j:=11) (by kernel_rfl) (by rw [opl_size];decide) rfl;exact rgl_read (d:=39) (op:=.move (.tmp 51)) (v:=a.tmps.getD 51 undef) (by decide) (by decide) O h hrd rfl (by kernel_rfl) (by intro o ho;unfold execOp;rw [ho];rfl) hv
theorem rgl_13 (O:LOk g) (h:RGL g l a w) (hrd:13 ∈ Region.ready .any OPL l):wpOp Tryz.prog OPL Q 13 (RGL g (l.setIfInBounds 13 true)) a w:=by
 obtain ⟨Ae,ce,hv,hR⟩:=(show VL g l 12 (a.eval (.tmp 39)) w from h.get hrd (j:=12) (by kernel_rfl) (by rw [opl_size];decide) rfl);exact rgl_read (d:=52) (op:=.extract (.tmp 39) 0) (v:=.slice Ae g.es.length ce) (by decide) (by decide) O h hrd rfl (by kernel_rfl) (by intro o ho;unfold execOp;rw [ho];simp only [hv];kernel_rfl) ⟨Ae,ce,rfl,hR⟩
theorem rgl_14 (O:LOk g) (h:RGL g l a w) (hrd:14 ∈ Region.ready .any OPL l):wpOp Tryz.prog OPL Q 14 (RGL g (l.setIfInBounds 14 true)) a w:=by
 obtain ⟨Ae,ce,hv,hR⟩:=(show VL g l 12 (a.eval (.tmp 39)) w from h.get hrd (j:=12) (by kernel_rfl) (by rw [opl_size];decide) rfl);exact rgl_read (d:=53) (op:=.extract (.tmp 39) 1) (v:=.agg g.F) (by decide) (by decide) O h hrd rfl (by kernel_rfl) (by intro o ho;unfold execOp;rw [ho];simp only [hv];kernel_rfl) rfl
theorem rgl_15 (O:LOk g) (h:RGL g l a w) (hrd:15 ∈ Region.ready .any OPL l):wpOp Tryz.prog OPL Q 15 (RGL g (l.setIfInBounds 15 true)) a w:=by
 have n17:=h.late hrd (j:=17) (n:=18) (by rw [opl_size];decide) (by kernel_rfl);have s17:=rgl_set h (i:=15) (by decide) 17 (by decide);have s11:=rgl_set h (i:=15) (by decide) 11 (by decide);have hB:=alloc_below w (.cells fa0 66)
 refine rs_value (d:=10) (op:=.alloc 66) (v:=ptR w.heap.size 0) (w1:=w.alloc (.cells fa0 66)) (by kernel_rfl) (by intro o ho;unfold execOp;rw [ho];kernel_rfl) (h.put dl_ok O.hfs hrd rfl ⟨w.heap.size,rfl,h.jj.bel.size,fa0,rfl,heap_alloc_new _ _,fun e=>?_⟩ (fun j u _ _ _ hv=>vl_move hB (fun e=>by rw [<- s11];exact e) (fun e=>by rw [<- s17];exact e) j u hv) ⟨h.jj.bel.trans (hB.mono h.jj.bel.size)⟩)
 rw [s17,n17] at e;cases e
theorem rgl_16 (O:LOk g) (h:RGL g l a w) (hrd:16 ∈ Region.ready .any OPL l):wpOp Tryz.prog OPL Q 16 (RGL g (l.setIfInBounds 16 true)) a w:=by
 have hv:VL g l 13 (a.tmps.getD 52 undef) w:=h.get hrd (j:=13) (by kernel_rfl) (by rw [opl_size];decide) rfl;exact rgl_read (d:=9) (op:=.assign (.tmp 52)) (v:=a.tmps.getD 52 undef) (by decide) (by decide) O h hrd rfl (by kernel_rfl) (by intro o ho;unfold execOp;rw [ho];rfl) hv
theorem R_typed {w w':World} {base:Nat} {v:Value} {xs:List SE} {k:Nat} {c:Array Value} (h:Kd.R kEnt 80 w base (fun _=>True) v xs) (hk:w.heap[k]?=some (.cells c 66 (0,0))) (ho:∀ j,j≠k->w'.heap[j]?=w.heap[j]?):Kd.R kEnt 80 w' base (fun _=>True) v xs:=by
 refine Kd.R_mono (Kd.R_move (w1:=w') (Kd.R_bound h) (fun j hj=>ho j ?_)) (fun _ _=>trivial)
 rintro rfl;obtain ⟨_,_,_,q,hq,cells,hc⟩:=hj;rw [hk] at hc;injection hc with hc
 injection hc with _ hc
 simp only [List.mem_cons] at hq;rcases hq with hq | hq
 ·rw [hq] at hc
  exact absurd hc (by decide)
 ·have hE:kEnt.E=[80]:=rfl
  rw [hE] at hq;simp only [List.mem_cons,List.not_mem_nil,or_false] at hq;rw [hq] at hc;exact absurd hc (by decide)
theorem RL.put1 {ops:Array Oper} {nt:Nat} {D:List (Option Nat)} {fx:List (Nat × Value)} {V:Array Bool->Nat->Value->World->Prop} {J:Array Bool->World->Prop} {l:Array Bool} {a:Act} {w w':World} {i:Nat} (h:RL ops nt D fx V J l a w) (hrd:i ∈ Region.ready .any ops l) (hd:D[i]?=some none) (hm:∀ j e,j<ops.size->j≠i->l.getD j true=true->D[j]?=some (some e)->V l j (a.tmps.getD e undef) w->V (l.setIfInBounds i true) j (a.tmps.getD e undef) w') (hJ:J (l.setIfInBounds i true) w') :
  RL ops nt D fx V J (l.setIfInBounds i true) (a.put none undef) w':=by
 have hi:=(ready_open hrd).1
 refine ⟨h.df,h.sz,by simp [h.lz],h.fix,h.lc.set hrd,hJ,fun j e hj hl he=>?_⟩
 by_cases hij:i=j
 ·subst hij
  rw [hd] at he;cases he
 ·rw [getD_set l i j (by rw [h.lz];exact hi),if_neg hij] at hl
  exact hm j e hj (fun x=>hij x.symm) hl he (h.gd j e hj hl he)
theorem rgl_17 (O:LOk g) (h:RGL g l a w) (hrd:17 ∈ Region.ready .any OPL l):wpOp Tryz.prog OPL Q 17 (RGL g (l.setIfInBounds 17 true)) a w:=by
 obtain ⟨k,v1,hk,c,hc5,hkc,hk17⟩:=(show VL g l 15 (a.eval (.tmp 10)) w from h.get hrd (j:=15) (by kernel_rfl) (by rw [opl_size];decide) rfl);have v2:a.eval (.tmp 53)=.agg g.F:=h.get hrd (j:=14) (by kernel_rfl) (by rw [opl_size];decide) rfl
 have p11:l.getD 11 true=true:=by
  have e:∀ k,k<18->l.getD k true=l.getD k false:=fun k hk=>by
   simp only [Array.getD_eq_getD_getElem?,Array.getElem?_eq_getElem (show k<l.size by rw [h.lz,opl_size];exact hk),Option.getD_some]
  have h14:l.getD 14 true=true:=ready_dep hrd (by kernel_rfl);rw [e 14 (by decide)] at h14;rw [e 11 (by decide)];exact Region.reach_listed (i:=11) h.lc 18 14 (by kernel_rfl) h14
 have s11:=rgl_set h (i:=17) (by decide) 11 (by decide);have hr:=run_storeVar_row (P:=Tryz.prog) w k 66 66 c g.F hkc (by rw [O.F5.1];kernel_rfl) (by rw [hc5,O.F5.1]) O.F5.2
 refine rs_store (op:=.store 66 (.tmp 10) (.tmp 53)) (w1:=w.setRow k g.F) (by kernel_rfl) (fun o ho=>by
  unfold execOp
  simp only [ho,v1,v2,Instr.storeAt,Instr.sureAddr,Sem.run_bind,Sem.run_pure,Result.andThen_ok,hr]) (h.put1 hrd rfl (fun j e hj hne hl he hv=>?_) ⟨h.jj.bel.trans (setRow_below w k _ _ hk)⟩)
 have ho:∀ j,j≠k->(w.setRow k g.F).heap[j]?=w.heap[j]?:=fun j hj=>setRow_other w k j _ hj
 match j,hv with
 | 0,h=>exact h
 | 1,h=>exact h
 | 2,h=>exact h
 | 3,h=>exact h
 | 4,h=>exact h
 | 5,h=>exact h
 | 6,h =>
  intro e;rw [s11,p11] at e;cases e
 | 7,h=>exact h
 | 8,h=>exact h
 | 9,h=>exact h
 | 10,h=>exact h
 | 11,h =>
  obtain ⟨Ae,ce,h1,h2⟩:=h;exact ⟨Ae,ce,h1,R_typed h2 hkc ho⟩
 | 12,h =>
  obtain ⟨Ae,ce,h1,h2⟩:=h;exact ⟨Ae,ce,h1,R_typed h2 hkc ho⟩
 | 13,h =>
  obtain ⟨Ae,ce,h1,h2⟩:=h;exact ⟨Ae,ce,h1,R_typed h2 hkc ho⟩
 | 14,h=>exact h
 | 15,h =>
  obtain ⟨k2,h1,h2,c2,h3,h4,h5⟩:=h
  have he2:e=10:=by
   have h6:(some (some 10):Option (Option Nat))=some (some e):=he;injection h6 with h6
   injection h6 with h6
   exact h6.symm
  subst he2;have hkk:ptR k2 0=ptR k 0:=h1.symm.trans v1;injection hkk with hkk
  injection hkk with hkk
  injection hkk with hkk
  subst hkk;exact ⟨k2,h1,h2,g.F,O.F5.1,setRow_heap w k2 c g.F 66 (0,0) hkc,fun _=>rfl⟩
 | 16,h =>
  obtain ⟨Ae,ce,h1,h2⟩:=h;exact ⟨Ae,ce,h1,R_typed h2 hkc ho⟩
 | n + 17,h=>exact trivial
theorem region10 {P:Program} {ops:Array Oper} (hop:ops=OPL) (hP:P=Tryz.prog) {id:Nat} (O:LOk g) (hm:P.follows .mixedOrders=true) (hd:a.defers=[]) (hz:a.tmps.size=74) (hfx:∀ p ∈ g.fx,a.tmps.getD p.1 undef=p.2)
  (hfin:∀ a' w' k Ae ce,a'.defers=[]->a'.tmps.size=74->(∀ p ∈ g.fx,a'.tmps.getD p.1 undef=p.2)->Below g.W.heap.size g.W w'->a'.tmps.getD 9 undef=.slice Ae g.es.length ce->a'.tmps.getD 10 undef=ptR k 0->g.W.heap.size<=k->w'.heap[k]?=some (.cells g.F 66 (0,0))->g.row w' (.slice Ae g.es.length ce)->Q .normal a' w'):(Code.region id ops true).wp P Q a g.W:=by
 subst hop;subst hP
 refine rl_region (V:=VL g) (J:=JL g) hm dl_ok ?_ ?_ hd hz hfx ⟨(Below.refl _ _).drew⟩
 ·intro l a w i h hi hrd
  rw [opl_size] at hi
  match i,hi,hrd with
  | 0,_,hrd=>exact rgl_0 O h hrd
  | 1,_,hrd=>exact rgl_1 O h hrd
  | 2,_,hrd=>exact rgl_2 O h hrd
  | 3,_,hrd=>exact rgl_3 O h hrd
  | 4,_,hrd=>exact rgl_4 O h hrd
  | 5,_,hrd=>exact rgl_5 O h hrd
  | 6,_,hrd=>exact rgl_6 O h hrd
  | 7,_,hrd=>exact rgl_7 O h hrd
  | 8,_,hrd=>exact rgl_8 O h hrd
  | 9,_,hrd=>exact rgl_9 O h hrd
  | 10,_,hrd=>exact rgl_10 O h hrd
  | 11,_,hrd=>exact rgl_11 O h hrd
  | 12,_,hrd=>exact rgl_12 O h hrd
  | 13,_,hrd=>exact rgl_13 O h hrd
  | 14,_,hrd=>exact rgl_14 O h hrd
  | 15,_,hrd=>exact rgl_15 O h hrd
  | 16,_,hrd=>exact rgl_16 O h hrd
  | 17,_,hrd=>exact rgl_17 O h hrd
  | n + 18,hn,_=>exact absurd hn (by omega)
 ·intro l a' w' h hall
  have hl:=fun i (hi:i<18)=>hall i (by rw [opl_size];exact hi);obtain ⟨k,h1,h2,c,h3,h4,h5⟩:=(show VL g l 15 (a'.tmps.getD 10 undef) w' from h.gd 15 10 (by rw [opl_size];decide) (hl 15 (by decide)) rfl);obtain rfl:=h5 (hl 17 (by decide));obtain ⟨Ae,ce,h6,h7⟩:=(show VL g l 16 (a'.tmps.getD 9 undef) w' from h.gd 16 9 (by rw [opl_size];decide) (hl 16 (by decide)) rfl);exact hfin a' w' k Ae ce h.df h.sz h.fix h.jj.bel h6 h1 h2 h4 h7
end
theorem arr_mapL (t:Array Value) (n:Nat) (h:t.size=n):t=((List.range n).map (fun i=>t.getD i undef)).toArray:=by
 apply Array.ext
 ·simp [h]
 ·intro i h1 h2
  simp [Array.getD_eq_getD_getElem?,Array.getElem?_eq_getElem h1]
theorem act_litL {a a':Act} (hd:a'.defers=[]) (hz:a'.tmps.size=74) (hfx:∀ s ∈ FSL,a'.tmps.getD s undef=a.tmps.getD s undef) {v9 v10:Value} (h9:a'.tmps.getD 9 undef=v9) (h10:a'.tmps.getD 10 undef=v10):∃ u39 u40 u41 u42 u43 u44 u45 u46 u47 u48 u49 u50 u51 u52 u53:Value,a'={ tmps:=(a.tmps.getD 0 undef :: a.tmps.getD 1 undef :: a.tmps.getD 2 undef :: a.tmps.getD 3 undef :: a.tmps.getD 4 undef :: a.tmps.getD 5 undef :: a.tmps.getD 6 undef :: a.tmps.getD 7 undef :: a.tmps.getD 8 undef :: v9 :: v10 :: a.tmps.getD 11 undef :: a.tmps.getD 12 undef :: a.tmps.getD 13 undef :: a.tmps.getD 14 undef :: a.tmps.getD 15 undef :: a.tmps.getD 16 undef :: a.tmps.getD 17 undef :: a.tmps.getD 18 undef :: a.tmps.getD 19 undef :: a.tmps.getD 20 undef :: a.tmps.getD 21 undef :: a.tmps.getD 22 undef :: a.tmps.getD 23 undef :: a.tmps.getD 24 undef :: a.tmps.getD 25 undef :: a.tmps.getD 26 undef :: a.tmps.getD 27 undef :: a.tmps.getD 28 undef :: a.tmps.getD 29 undef :: a.tmps.getD 30 undef :: a.tmps.getD 31 undef :: a.tmps.getD 32 undef :: a.tmps.getD 33 undef :: a.tmps.getD 34 undef :: a.tmps.getD 35 undef :: a.tmps.getD 36 undef :: a.tmps.getD 37 undef :: a.tmps.getD 38 undef :: u39 :: u40 :: u41 :: u42 :: u43 :: u44 :: u45 :: u46 :: u47 :: u48 :: u49 :: u50 :: u51 :: u52 :: u53 :: a.tmps.getD 54 undef :: a.tmps.getD 55 undef :: a.tmps.getD 56 undef :: a.tmps.getD 57 undef :: a.tmps.getD 58 undef :: a.tmps.getD 59 undef :: a.tmps.getD 60 undef :: a.tmps.getD 61 undef :: a.tmps.getD 62 undef :: a.tmps.getD 63 undef :: a.tmps.getD 64 undef :: a.tmps.getD 65 undef :: a.tmps.getD 66 undef :: a.tmps.getD 67 undef :: a.tmps.getD 68 undef :: a.tmps.getD 69 undef :: a.tmps.getD 70 undef :: a.tmps.getD 71 undef :: a.tmps.getD 72 undef :: a.tmps.getD 73 undef :: []).toArray,defers:=[] }:=by
 refine ⟨a'.tmps.getD 39 undef,a'.tmps.getD 40 undef,a'.tmps.getD 41 undef,a'.tmps.getD 42 undef,a'.tmps.getD 43 undef,a'.tmps.getD 44 undef,a'.tmps.getD 45 undef,a'.tmps.getD 46 undef,a'.tmps.getD 47 undef,a'.tmps.getD 48 undef,a'.tmps.getD 49 undef,a'.tmps.getD 50 undef,a'.tmps.getD 51 undef,a'.tmps.getD 52 undef,a'.tmps.getD 53 undef,?_⟩
 obtain ⟨tm,df⟩:=a';obtain rfl:df=[]:=hd;have e:=arr_mapL tm 74 hz;have hf:=fun s (h:s ∈ FSL)=>hfx s h;have h9':tm.getD 9 undef=v9:=h9;have h10':tm.getD 10 undef=v10:=h10
 congr 1
 rw [e];show (List.map (fun i=>tm.getD i undef) (List.range 74)).toArray=_;have e0:tm.getD 0 undef=a.tmps.getD 0 undef:=hf 0 (by decide);have e1:tm.getD 1 undef=a.tmps.getD 1 undef:=hf 1 (by decide);have e2:tm.getD 2 undef=a.tmps.getD 2 undef:=hf 2 (by decide);have e3:tm.getD 3 undef=a.tmps.getD 3 undef:=hf 3 (by decide);have e4:tm.getD 4 undef=a.tmps.getD 4 undef:=hf 4 (by decide);have e5:tm.getD 5 undef=a.tmps.getD 5 undef:=hf 5 (by decide);have e6:tm.getD 6 undef=a.tmps.getD 6 undef:=hf 6 (by decide);have e7:tm.getD 7 undef=a.tmps.getD 7 undef:=hf 7 (by decide);have e8:tm.getD 8 undef=a.tmps.getD 8 undef:=hf 8 (by decide);have e11:tm.getD 11 undef=a.tmps.getD 11 undef:=hf 11 (by decide);have e12:tm.getD 12 undef=a.tmps.getD 12 undef:=hf 12 (by decide);have e13:tm.getD 13 undef=a.tmps.getD 13 undef:=hf 13 (by decide);have e14:tm.getD 14 undef=a.tmps.getD 14 undef:=hf 14 (by decide);have e15:tm.getD 15 undef=a.tmps.getD 15 undef:=hf 15 (by decide);have e16:tm.getD 16 undef=a.tmps.getD 16 undef:=hf 16 (by decide);have e17:tm.getD 17 undef=a.tmps.getD 17 undef:=hf 17 (by decide);have e18:tm.getD 18 undef=a.tmps.getD 18 undef:=hf 18 (by decide);have e19:tm.getD 19 undef=a.tmps.getD 19 undef:=hf 19 (by decide);have e20:tm.getD 20 undef=a.tmps.getD 20 undef:=hf 20 (by decide);have e21:tm.getD 21 undef=a.tmps.getD 21 undef:=hf 21 (by decide);have e22:tm.getD 22 undef=a.tmps.getD 22 undef:=hf 22 (by decide);have e23:tm.getD 23 undef=a.tmps.getD 23 undef:=hf 23 (by decide);have e24:tm.getD 24 undef=a.tmps.getD 24 undef:=hf 24 (by decide);have e25:tm.getD 25 undef=a.tmps.getD 25 undef:=hf 25 (by decide);have e26:tm.getD 26 undef=a.tmps.getD 26 undef:=hf 26 (by decide);have e27:tm.getD 27 undef=a.tmps.getD 27 undef:=hf 27 (by decide);have e28:tm.getD 28 undef=a.tmps.getD 28 undef:=hf 28 (by decide);have e29:tm.getD 29 undef=a.tmps.getD 29 undef:=hf 29 (by decide);have e30:tm.getD 30 undef=a.tmps.getD 30 undef:=hf 30 (by decide);have e31:tm.getD 31 undef=a.tmps.getD 31 undef:=hf 31 (by decide);have e32:tm.getD 32 undef=a.tmps.getD 32 undef:=hf 32 (by decide);have e33:tm.getD 33 undef=a.tmps.getD 33 undef:=hf 33 (by decide);have e34:tm.getD 34 undef=a.tmps.getD 34 undef:=hf 34 (by decide);have e35:tm.getD 35 undef=a.tmps.getD 35 undef:=hf 35 (by decide);have e36:tm.getD 36 undef=a.tmps.getD 36 undef:=hf 36 (by decide);have e37:tm.getD 37 undef=a.tmps.getD 37 undef:=hf 37 (by decide);have e38:tm.getD 38 undef=a.tmps.getD 38 undef:=hf 38 (by decide);have e54:tm.getD 54 undef=a.tmps.getD 54 undef:=hf 54 (by decide);have e55:tm.getD 55 undef=a.tmps.getD 55 undef:=hf 55 (by decide);have e56:tm.getD 56 undef=a.tmps.getD 56 undef:=hf 56 (by decide);have e57:tm.getD 57 undef=a.tmps.getD 57 undef:=hf 57 (by decide);have e58:tm.getD 58 undef=a.tmps.getD 58 undef:=hf 58 (by decide);have e59:tm.getD 59 undef=a.tmps.getD 59 undef:=hf 59 (by decide);have e60:tm.getD 60 undef=a.tmps.getD 60 undef:=hf 60 (by decide);have e61:tm.getD 61 undef=a.tmps.getD 61 undef:=hf 61 (by decide);have e62:tm.getD 62 undef=a.tmps.getD 62 undef:=hf 62 (by decide);have e63:tm.getD 63 undef=a.tmps.getD 63 undef:=hf 63 (by decide);have e64:tm.getD 64 undef=a.tmps.getD 64 undef:=hf 64 (by decide);have e65:tm.getD 65 undef=a.tmps.getD 65 undef:=hf 65 (by decide);have e66:tm.getD 66 undef=a.tmps.getD 66 undef:=hf 66 (by decide);have e67:tm.getD 67 undef=a.tmps.getD 67 undef:=hf 67 (by decide);have e68:tm.getD 68 undef=a.tmps.getD 68 undef:=hf 68 (by decide);have e69:tm.getD 69 undef=a.tmps.getD 69 undef:=hf 69 (by decide);have e70:tm.getD 70 undef=a.tmps.getD 70 undef:=hf 70 (by decide);have e71:tm.getD 71 undef=a.tmps.getD 71 undef:=hf 71 (by decide);have e72:tm.getD 72 undef=a.tmps.getD 72 undef:=hf 72 (by decide);have e73:tm.getD 73 undef=a.tmps.getD 73 undef:=hf 73 (by decide);rw [<- h9',<- h10',<- e0,<- e1,<- e2,<- e3,<- e4,<- e5,<- e6,<- e7,<- e8,<- e11,<- e12,<- e13,<- e14,<- e15,<- e16,<- e17,<- e18,<- e19,<- e20,<- e21,<- e22,<- e23,<- e24,<- e25,<- e26,<- e27,<- e28,<- e29,<- e30,<- e31,<- e32,<- e33,<- e34,<- e35,<- e36,<- e37,<- e38,<- e54,<- e55,<- e56,<- e57,<- e58,<- e59,<- e60,<- e61,<- e62,<- e63,<- e64,<- e65,<- e66,<- e67,<- e68,<- e69,<- e70,<- e71,<- e72,<- e73]
 rfl
structure LO0 (g:GL):Prop where
 obj:g.W.heap[g.ob]?=some (.cells #[.string g.o.f0,.string g.o.f1,.int .i64 g.o.f2.f0,.int .i64 g.o.f2.f1,.int .i64 g.o.f2.f2,.slice g.A5 g.n5 g.c5,.bool g.o.f4,.string g.o.f5] 44 (0,0))
 F5:g.F.size=5/\g.F.all (·.oneCell')=true
 und:∀ V,Below g.W.heap.size g.W V->Calls Tryz.prog 73 #[.slice g.Ar tab.length g.cr,.string g.o.f0,.string ⟨#[]⟩,.string ⟨#[]⟩] V fun ev w'=>(∃ v,ev=.returned v/\Kd.R (Kd.fixed kRow V) 60 w' V.heap.size (fun _=>True) v g.I)/\Below V.heap.size V w'
 lis:∀ V Ai ci,Below g.W.heap.size g.W V->Kd.C kRow V Ai g.I.length g.I->Calls Tryz.prog 72 #[.slice g.Ar tab.length g.cr,.string g.o.f0,.slice Ai g.I.length ci,.slice g.A5 g.n5 g.c5,.agg #[.int .i64 g.o.f2.f0,.int .i64 g.o.f2.f1,.int .i64 g.o.f2.f2]] V fun ev w'=>Below V.heap.size V w'/\∃ Ae ce,ev=.returned (.tuple #[.slice Ae g.es.length ce,.agg g.F])/\Kd.R kEnt 80 w' V.heap.size (fun _=>True) (.slice Ae g.es.length ce) g.es
theorem region10W {P:Program} {ops:Array Oper} {Q:Exit->Act->World->Prop} {a:Act} (g:GL) (hop:ops=OPL) (hP:P=Tryz.prog) {id:Nat} (O:LO0 g) (hm:P.follows .mixedOrders=true) (hd:a.defers=[]) (hz:a.tmps.size=74) (s4:a.tmps.getD 4 undef=.slice g.Ar tab.length g.cr) (s8:a.tmps.getD 8 undef=ptR g.ob 0)
  (hfin:∀ w' k Ae ce,Below g.W.heap.size g.W w'->g.W.heap.size<=k->w'.heap[k]?=some (.cells g.F 66 (0,0))->g.row w' (.slice Ae g.es.length ce)->∀ u39 u40 u41 u42 u43 u44 u45 u46 u47 u48 u49 u50 u51 u52 u53:Value,Q .normal { tmps:=(a.tmps.getD 0 undef :: a.tmps.getD 1 undef :: a.tmps.getD 2 undef :: a.tmps.getD 3 undef :: a.tmps.getD 4 undef :: a.tmps.getD 5 undef :: a.tmps.getD 6 undef :: a.tmps.getD 7 undef :: a.tmps.getD 8 undef :: .slice Ae g.es.length ce :: ptR k 0 :: a.tmps.getD 11 undef :: a.tmps.getD 12 undef :: a.tmps.getD 13 undef :: a.tmps.getD 14 undef :: a.tmps.getD 15 undef :: a.tmps.getD 16 undef :: a.tmps.getD 17 undef :: a.tmps.getD 18 undef :: a.tmps.getD 19 undef :: a.tmps.getD 20 undef :: a.tmps.getD 21 undef :: a.tmps.getD 22 undef :: a.tmps.getD 23 undef :: a.tmps.getD 24 undef :: a.tmps.getD 25 undef :: a.tmps.getD 26 undef :: a.tmps.getD 27 undef :: a.tmps.getD 28 undef :: a.tmps.getD 29 undef :: a.tmps.getD 30 undef :: a.tmps.getD 31 undef :: a.tmps.getD 32 undef :: a.tmps.getD 33 undef :: a.tmps.getD 34 undef :: a.tmps.getD 35 undef :: a.tmps.getD 36 undef :: a.tmps.getD 37 undef :: a.tmps.getD 38 undef :: u39 :: u40 :: u41 :: u42 :: u43 :: u44 :: u45 :: u46 :: u47 :: u48 :: u49 :: u50 :: u51 :: u52 :: u53 :: a.tmps.getD 54 undef :: a.tmps.getD 55 undef :: a.tmps.getD 56 undef :: a.tmps.getD 57 undef :: a.tmps.getD 58 undef :: a.tmps.getD 59 undef :: a.tmps.getD 60 undef :: a.tmps.getD 61 undef :: a.tmps.getD 62 undef :: a.tmps.getD 63 undef :: a.tmps.getD 64 undef :: a.tmps.getD 65 undef :: a.tmps.getD 66 undef :: a.tmps.getD 67 undef :: a.tmps.getD 68 undef :: a.tmps.getD 69 undef :: a.tmps.getD 70 undef :: a.tmps.getD 71 undef :: a.tmps.getD 72 undef :: a.tmps.getD 73 undef :: []).toArray,defers:=[] } w'):(Code.region id ops true).wp P Q a g.W:=by
 have hmem:∀ s v,s ∈ FSL->a.tmps.getD s undef=v->(s,v) ∈ FSL.map (fun s=>(s,a.tmps.getD s undef)):=fun s v h e=>List.mem_map.2 ⟨s,h,by rw [e]⟩
 refine region10 (g:={ g with fx:=FSL.map (fun s=>(s,a.tmps.getD s undef)) }) hop hP ⟨by simp [List.map_map,Function.comp_def],hmem 4 _ (by decide) s4,hmem 8 _ (by decide) s8,O.obj,O.F5,O.und,O.lis⟩ hm hd hz (fun p hp=>by
  obtain ⟨s,_,rfl⟩:=List.mem_map.1 hp
  rfl) (fun a' w' k Ae ce h1 h2 h3 h4 h5 h6 h7 h8 h9=>?_)
 obtain ⟨u39,u40,u41,u42,u43,u44,u45,u46,u47,u48,u49,u50,u51,u52,u53,rfl⟩:=act_litL (a:=a) h1 h2 (fun s hs=>h3 (s,a.tmps.getD s undef) (hmem s _ hs rfl)) h5 h6;exact hfin w' k Ae ce h4 h7 h8 h9 u39 u40 u41 u42 u43 u44 u45 u46 u47 u48 u49 u50 u51 u52 u53
noncomputable def OPF:Array Oper:=opsOf Tryz.f30 12
theorem opf_size:OPF.size=4:=by kernel_rfl
def DF:List (Option Nat):=[some 57,some 58,none,none]
theorem df_ok:okD OPF 74 DF [2,3,10]=true:=by kernel_rfl
section
variable {Q:Exit->Act->World->Prop} {w0:World} {k b2 b3:Nat} {F:Array Value} {l:Array Bool} {a:Act} {w:World}
def VF (F:Array Value):Nat->Value->World->Prop
 | 0,v,_=>v=.agg sh0
 | 1,v,_=>v=.agg F
 | _,_,_=>True
theorem vf_move {w w':World}:∀ j u,VF F j u w->VF F j u w':=fun j u h=>by
 unfold VF at h ⊢
 split at h <;> exact h
structure JF (w0:World) (k b2 b3:Nat) (F:Array Value) (l:Array Bool) (w:World):Prop where
 bel:Below w0.heap.size w0 w
 e1:w.heap[k]?=some (.cells F 66 (0,0))
 e3:w.heap[b2]?=some (.cells sh0 64 (0,0))
 e4:∃ c:Array Value,c.size=5/\w.heap[b3]?=some (.cells c 66 (0,0))/\(l.getD 3 true=true->c=F)
abbrev RFt (w0:World) (k b2 b3:Nat) (F:Array Value):Array Bool->Act->World->Prop:=RS OPF 74 DF [(2,ptR b2 0),(3,ptR b3 0),(10,ptR k 0)] (VF F) (JF w0 k b2 b3 F)
theorem rf_read {i d:Nat} (hi3:i≠3) (h:RFt w0 k b2 b3 F l a w) (hrd:i ∈ Region.ready .any OPF l) (hd:DF[i]?=some (some d)) {op:Op} {v:Value} (ho:(OPF[i]?).map (fun o=>(o.op,o.dst,o.guard))=some (op,some d,none))
  (hrun:∀ o:Oper,o.op=op->(execOp a.eval o).run Tryz.prog w=.ok (.value v) w) (hV:VF F i v w):wpOp Tryz.prog OPF Q i (RFt w0 k b2 b3 F (l.setIfInBounds i true)) a w:=by
 refine rs_value ho hrun (h.put df_ok rfl hrd hd hV vf_move ?_)
 obtain ⟨j1,j2,j3,c,j5,j6,j7⟩:=h.jj
 refine ⟨j1,j2,j3,c,j5,j6,fun hl=>j7 ?_⟩
 rw [getD_set l i 3 (by have:=(ready_open hrd).1;rw [h.lz];exact this),if_neg hi3] at hl;exact hl
theorem rf_0 (h:RFt w0 k b2 b3 F l a w) (hrd:0 ∈ Region.ready .any OPF l):wpOp Tryz.prog OPF Q 0 (RFt w0 k b2 b3 F (l.setIfInBounds 0 true)) a w :=
 rf_read (d:=57) (op:=.build 64 #[]) (v:=.agg sh0) (by decide) h hrd rfl (by kernel_rfl) (by intro o ho;cases o;cases ho;kernel_rfl) rfl
theorem rf_1 (f:SF) (hF:F=faC f.code f.spot f.name) (h:RFt w0 k b2 b3 F l a w) (hrd:1 ∈ Region.ready .any OPF l):wpOp Tryz.prog OPF Q 1 (RFt w0 k b2 b3 F (l.setIfInBounds 1 true)) a w:=by
 subst hF;have hv:a.tmps.getD 10 undef=ptR k 0:=h.fix (10,ptR k 0) (by simp);obtain ⟨k0,k1,k2,k3,k4⟩:=fau_cells h.jj.e1;exact rf_read (d:=58) (op:=.load 66 (.tmp 10)) (v:=.agg (faC f.code f.spot f.name)) (by decide) h hrd rfl (by kernel_rfl) (by intro o ho;unfold execOp;rw [ho];rw [Array.getD_eq_getD_getElem?] at hv;simp [Act.eval,hv,go_sem,k0,k1,k2,k3,k4]) rfl
theorem rf_2 (hb2:w0.heap.size<=b2) (h:RFt w0 k b2 b3 F l a w) (hrd:2 ∈ Region.ready .any OPF l):wpOp Tryz.prog OPF Q 2 (RFt w0 k b2 b3 F (l.setIfInBounds 2 true)) a w:=by
 have v1:a.eval (.tmp 2)=ptR b2 0:=h.fix (2,ptR b2 0) (by simp);have v2:a.eval (.tmp 57)=.agg sh0:=h.get hrd (j:=0) (by kernel_rfl) (by rw [opf_size];decide) rfl;obtain ⟨j1,j2,j4,c,j5,j6,j7⟩:=h.jj;have hr:=run_storeVar_row (P:=Tryz.prog) w b2 64 64 sh0 sh0 j4 (by kernel_rfl) rfl (by simp [Value.oneCell'])
 refine rs_store (op:=.store 64 (.tmp 2) (.tmp 57)) (w1:=w.setRow b2 sh0) (by kernel_rfl) (fun o ho=>by
  unfold execOp
  simp only [ho,v1,v2,Instr.storeAt,Instr.sureAddr,Sem.run_bind,Sem.run_pure,Result.andThen_ok,hr]) (h.put0 hrd rfl vf_move ?_)
 have ho:∀ k,k≠b2->(w.setRow b2 sh0).heap[k]?=w.heap[k]?:=fun k hk=>setRow_other w b2 k sh0 hk
 refine ⟨j1.trans (setRow_below w b2 _ _ hb2),(ho _ (blk_ne j2 j4 (by decide))).trans j2,setRow_heap w b2 sh0 sh0 64 (0,0) j4,c,j5,(ho _ (blk_ne j6 j4 (by decide))).trans j6,fun hl=>j7 ?_⟩
 rw [getD_set l 2 3 (by have:=(ready_open hrd).1;rw [h.lz];exact this),if_neg (by decide)] at hl;exact hl
theorem rf_3 (f:SF) (hF:F=faC f.code f.spot f.name) (hb3:w0.heap.size<=b3) (hk:k≠b3) (h:RFt w0 k b2 b3 F l a w) (hrd:3 ∈ Region.ready .any OPF l):wpOp Tryz.prog OPF Q 3 (RFt w0 k b2 b3 F (l.setIfInBounds 3 true)) a w:=by
 have v1:a.eval (.tmp 3)=ptR b3 0:=h.fix (3,ptR b3 0) (by simp);have v2:a.eval (.tmp 58)=.agg F:=h.get hrd (j:=1) (by kernel_rfl) (by rw [opf_size];decide) rfl;obtain ⟨j1,j2,j4,c,j5,j6,j7⟩:=h.jj;have hr:=run_storeVar_row (P:=Tryz.prog) w b3 66 66 c F j6 (by rw [hF];kernel_rfl) (by rw [j5,hF];rfl) (by rw [hF];simp [Value.oneCell'])
 refine rs_store (op:=.store 66 (.tmp 3) (.tmp 58)) (w1:=w.setRow b3 F) (by kernel_rfl) (fun o ho=>by
  unfold execOp
  simp only [ho,v1,v2,Instr.storeAt,Instr.sureAddr,Sem.run_bind,Sem.run_pure,Result.andThen_ok,hr]) (h.put0 hrd rfl vf_move ?_)
 have ho:∀ k,k≠b3->(w.setRow b3 F).heap[k]?=w.heap[k]?:=fun k hk=>setRow_other w b3 k _ hk;exact ⟨j1.trans (setRow_below w b3 _ _ hb3),(ho _ hk).trans j2,(ho _ (blk_ne j4 j6 (by decide))).trans j4,F,by rw [hF];rfl,setRow_heap w b3 c F 66 (0,0) j6,fun _=>rfl⟩
theorem regionF {P:Program} {ops:Array Oper} (hop:ops=OPF) (hP:P=Tryz.prog) {id:Nat} (f:SF) (hm:P.follows .mixedOrders=true) (hd:a.defers=[]) (hz:a.tmps.size=74) (h2:a.tmps.getD 2 undef=ptR b2 0) (h3:a.tmps.getD 3 undef=ptR b3 0) (h10:a.tmps.getD 10 undef=ptR k 0)
  (hB:Below w0.heap.size w0 w) (e1:w.heap[k]?=some (.cells (faC f.code f.spot f.name) 66 (0,0))) (e3:w.heap[b2]?=some (.cells sh0 64 (0,0))) (e4:w.heap[b3]?=some (.cells fa0 66 (0,0)))
  (hb2:w0.heap.size<=b2) (hb3:w0.heap.size<=b3) (hk:k≠b3)
  (hfin:∀ a' w',a'.defers=[]->a'.tmps.getD 2 undef=ptR b2 0->a'.tmps.getD 3 undef=ptR b3 0->Below w0.heap.size w0 w'->w'.heap[b2]?=some (.cells sh0 64 (0,0))->w'.heap[b3]?=some (.cells (faC f.code f.spot f.name) 66 (0,0))->Q .normal a' w'):(Code.region id ops true).wp P Q a w:=by
 subst hop;subst hP
 refine rs_region (V:=VF (faC f.code f.spot f.name)) (J:=JF w0 k b2 b3 (faC f.code f.spot f.name)) (fx:=[(2,ptR b2 0),(3,ptR b3 0),(10,ptR k 0)]) hm df_ok ?_ ?_ hd hz ?_ ⟨hB.drew,e1,e3,fa0,rfl,e4,fun hl=>?_⟩
 ·intro l a w i h hi hrd
  rw [opf_size] at hi
  match i,hi,hrd with
  | 0,_,hrd=>exact rf_0 h hrd
  | 1,_,hrd=>exact rf_1 f rfl h hrd
  | 2,_,hrd=>exact rf_2 hb2 h hrd
  | 3,_,hrd=>exact rf_3 f rfl hb3 hk h hrd
  | n + 4,hn,_=>exact absurd hn (by omega)
 ·intro l a' w' h hall
  obtain ⟨c,j5,j6,j7⟩:=h.jj.e4;have hl:=hall 3 (by rw [opf_size];decide);obtain rfl:=j7 hl;exact hfin a' w' h.df (h.fix (2,ptR b2 0) (by simp)) (h.fix (3,ptR b3 0) (by simp)) h.jj.bel h.jj.e3 j6
 ·intro p hp
  simp only [List.mem_cons,List.not_mem_nil,or_false] at hp;rcases hp with rfl | rfl | rfl
  ·exact h2
  ·exact h3
  ·exact h10
 ·exfalso
  rw [Array.getD_eq_getD_getElem?,Array.getElem?_replicate,if_pos (by rw [opf_size];decide)] at hl;simp at hl
end
def esOf:Except SF (List SE)->List SE
 | .ok es=>es
 | .error _=>[]
def faOf:Except SF (List SE)->Array Value
 | .ok _=>fa0
 | .error f=>faC f.code f.spot f.name
theorem fa_five (r:Except SF (List SE)):(faOf r).size=5/\(faOf r).all (·.oneCell')=true:=by
 cases r with
 | ok es=>exact ⟨rfl,by simp [faOf,fa0,Value.oneCell']⟩
 | error f=>exact ⟨rfl,by simp [faOf,Value.oneCell']⟩
theorem rl_any {r:Except SF (List SE)} {w:World} {fn:Nat} {args:Array Value} (h:Calls Tryz.prog fn args w (RLPost r w)):Calls Tryz.prog fn args w fun e w'=>Below w.heap.size w w'/\∃ (Ae:Option Addr) (ce:Nat),e=.returned (.tuple #[.slice Ae (esOf r).length ce,.agg (faOf r)])/\Kd.R kEnt 80 w' w.heap.size (fun _=>True) (.slice Ae (esOf r).length ce) (esOf r):=by
 cases r with
 | ok es =>
  refine (rl_ok rfl h).mono ?_
  rintro e w' ⟨hB,Ap,cp,he,hR⟩;exact ⟨hB,Ap,cp,he,hR⟩
 | error f =>
  refine (rl_fail rfl h).mono ?_
  rintro e w' ⟨hB,he⟩;exact ⟨hB,none,0,he,Kd.R_nil _ _ _ _ _⟩
set_option maxHeartbeats 64000000 in
theorem rread_calls (t:ST) (A:Option Addr) (c:Nat) (w:World) (hs:∀ o ∈ t.f2,szL o.f3<=1073741824) (hn:t.f2.length<=1073741824) (hC:Kd.C k44 w A t.f2.length t.f2) :
  Calls Tryz.prog 30 #[.agg (treC t A c)] w (ReadPost t w):=by
 have HS:=hid hs;have HL:=hid hn;have HC:=hid hC;obtain ⟨RES,hRES⟩:∃ r,readOs tab [] t.f2=r:=⟨_,rfl⟩;have HRES:=hid hRES;clear hs hC hRES;obtain ⟨n,hnn⟩:∃ n,t.f2.length=n:=⟨_,rfl⟩;unfold treC;rw [hnn] at hn HC HL ⊢;have HN:=hid hnn;clear hnn;have tk1:True:=trivial;have tk2:True:=trivial;have tk3:True:=trivial;have tk4:True:=trivial
 go_enter Tryz.func30,Tryz.ntmps30
 go_upto_region 1 with (first
  | (have _t:=tk1;refine run_event rfl (.box 24 _) rfl (.pointer (some ⟨w.heap.size,0,none⟩)) (w.alloc (.cells #[.string t.f0,.string t.f1,.slice A n c,.bool t.f3,.string t.f4] 24)) (by kernel_rfl) ?_;intro w1 hw1;have B1:Hid (Below w.heap.size w w1):=hid (by rw [hw1];exact alloc_below _ _);have E1:Hid (w1.heap[w.heap.size]?=some (.cells #[.string t.f0,.string t.f1,.slice A n c,.bool t.f3,.string t.f4] 24 (0,0))):=hid (by rw [hw1];exact heap_alloc_new _ _);clear hw1 tk1 _t)
  | (have _t:=tk2;refine run_event rfl (.alloc 64) rfl (.pointer (some ⟨w1.heap.size,0,none⟩)) (w1.alloc (.cells sh0 64)) (by kernel_rfl) ?_;intro w2 hw2;have Bw2:Hid (Below w1.heap.size w1 w2):=hid (by rw [hw2];exact alloc_below _ _);have Ew2:Hid (w2.heap[w1.heap.size]?=some (.cells sh0 64 (0,0))):=hid (by rw [hw2];exact heap_alloc_new _ _);clear hw2 tk2 _t)
  | (have _t:=tk3;refine run_event rfl (.alloc 66) rfl (.pointer (some ⟨w2.heap.size,0,none⟩)) (w2.alloc (.cells fa0 66)) (by kernel_rfl) ?_;intro w3 hw3;have Bw3:Hid (Below w2.heap.size w2 w3):=hid (by rw [hw3];exact alloc_below _ _);have Ew3:Hid (w3.heap[w2.heap.size]?=some (.cells fa0 66 (0,0))):=hid (by rw [hw3];exact heap_alloc_new _ _);clear hw3 tk3 _t))
 go_upto_region 3 with (first
  | (go_at_call 26;refine (rrows_calls _).mono ?_;rintro e w4 ⟨⟨v4,rfl,hR4⟩,hB4⟩;obtain ⟨Ar,cr,rfl⟩:=RForm hR4;have B4:=hid hB4;have C4:Hid (Kd.C kRow w4 Ar tab.length tab):=hid (Kd.R_reads' hR4).2.2;clear hR4 hB4)
  | (go_at_call 24;refine (rkinds_calls _).mono ?_;rintro e w5 ⟨rfl,hR5,hB5⟩;have B5:=hid hB5;have C5k:Hid (Kd.C Kd.string w5 (some ⟨w4.heap.size,0,none⟩) kindsT.length kindsT):=hid (Kd.R_reads' hR5).2.2;clear hR5 hB5))
 have B35:Hid (Below w3.heap.size w3 w5):=hid (B4.out.trans (B5.out.mono B4.out.size));have B25:Hid (Below w2.heap.size w2 w5):=hid (Bw3.out.trans (B35.out.mono Bw3.out.size));have B15:Hid (Below w1.heap.size w1 w5):=hid (Bw2.out.trans (B25.out.mono Bw2.out.size));have BW5:Hid (Below w.heap.size w w5):=hid (B1.out.trans (B15.out.mono B1.out.size));have T5:=hid (blk_b E1.out B15.out);have Z2:=hid (blk_b Ew2.out B25.out);have Z3:=hid (blk_b Ew3.out B35.out);have C5:Hid (Kd.C kRow w5 Ar tab.length tab):=hid (Kd.C_below C4.out B5.out);have O5:Hid (Kd.C k44 w5 A n t.f2):=hid (Kd.C_below HC.out BW5.out);have HZ:Hid (w.heap.size<w1.heap.size/\w1.heap.size<w2.heap.size/\w2.heap.size<w5.heap.size):=hid ⟨(gS.1 E1.out).1,(gS.1 Ew2.out).1,(gS.1 Z3.out).1⟩;clear B1 Bw2 Bw3 E1 Ew2 Ew3 B4 B5 C4 HC B35 B25 B15;obtain ⟨c0,c1,c2,c3,c4⟩:=tre_cells T5.out;clear c0 c2 c3 c4
 go_upto_region 4 with (first
  | (have _t:=tk4;refine run_event rfl (.alloc 64) rfl (.pointer (some ⟨w5.heap.size,0,none⟩)) (w5.alloc (.cells sh0 64)) (by kernel_rfl) ?_;intro w6 hw6;have Bw6:Hid (Below w5.heap.size w5 w6):=hid (by rw [hw6];exact alloc_below _ _);have Ew6:Hid (w6.heap[w5.heap.size]?=some (.cells sh0 64 (0,0))):=hid (by rw [hw6];exact heap_alloc_new _ _);have c1':=hid (lC w5 _ c1);replace c1:=(Bw6.out.cell (lC w5 _ c1)).trans c1;clear hw6 tk4 _t)
  | ((with_reducible refine gate_store (t:=64) (p:=6) rfl ?_);refine put_event rfl 64 _ _ rfl w5.heap.size #[.string t.f1,.slice none 0 0] rfl rfl 64 sh0 Ew6.out (by kernel_rfl) rfl (by simp [Value.oneCell']) w5.heap.size (Nat.le_refl _) ?_;intro w7 hbw7 hBw7 hsw7 how7;have Gw7:Hid (w7.heap[w5.heap.size]?=some (.cells #[.string t.f1,.slice none 0 0] 64 (0,0))):=hid hbw7;have Dw7:Hid (Below w5.heap.size w5 w7):=hid (Bw6.out.trans hBw7);clear hbw7 hBw7 hsw7 how7;clear c1 c1' Bw6 Ew6))
 go_wp2_with fail
 go_loopw [7] (fun v wq=>∃ (j:Nat) (acc:List SI) (va:Value),v=.int .i64 (j:Int)/\j<=n/\Hid (readOs tab acc (t.f2.drop j)=RES)/\Hid (Below w5.heap.size w5 wq)/\Hid (wq.heap[w5.heap.size]?=some (.cells #[.string t.f1,va] 64 (0,0)))/\Hid (Kd.R kItem 78 wq w5.heap.size (fun k=>w5.heap.size<k) va acc)/\Hid (acc.length<=j)) (fun v _=>n - (intOf v).toNat)
 case atStart=>exact ⟨0,[],.slice none 0 0,by go_num,by omega,hid (by rw [List.drop_zero];exact HRES.out),Dw7,Gw7,hid (Kd.R_nil _ _ _ _ _),hid (Nat.le_refl _)⟩
 case round =>
  obtain ⟨j,acc,va,rfl,hj,HRD,BL,SH,RI,HAL⟩:=hrel;obtain ⟨Ai0,ci0,hva⟩:=RForm RI.out;subst hva;have hl9:=hn;have BWr:Hid (Below w.heap.size w wr):=hid (BW5.out.trans (BL.out.mono BW5.out.size));have Z2r:=hid (blk_b Z2.out BL.out);have Z3r:=hid (blk_b Z3.out BL.out);obtain ⟨c0,c1,c2,c3,c4⟩:=tre_cells (blk_b T5.out BL.out);clear c0 c1 c3 c4
  by_cases hlt:j<n
  ·have hit:j<t.f2.length:=by rw [HN.out];exact hlt
   have hx:t.f2[j]?=some t.f2[j]:=List.getElem?_eq_getElem hit;obtain ⟨ad,A5,c5,eA,x0,x1,x2,x3,x4,x5,x6,x7,l5,C9⟩:=at_T44 (Kd.C_below O5.out BL.out) (j:Int) (by omega) (by omega);rw [obj_at t.f2 j _ hx] at x0 x1 x2 x3 x4 x5 x6 x7 l5 C9;have hsz:=HS.out _ (List.getElem_mem hit);generalize t.f2[j]=o at hx x0 x1 x2 x3 x4 x5 x6 x7 l5 C9 hsz;subst eA;simp only [Int.toNat_natCast] at x0 x1 x2 x3 x4 x5 x6 x7;have HX:=hid hx;have HSZ:=hid hsz;obtain ⟨n5,hn5⟩:∃ n5,o.f3.length=n5:=⟨_,rfl⟩;rw [hn5] at x5 C9;have HC9:=hid C9;have HN5:=hid hn5;clear hx hsz C9 l5 hit hn5;have tk5:True:=trivial
   go_upto_region 8 with (first
    | (have _t:=tk5;refine run_event rfl (.alloc 44) rfl (.pointer (some ⟨wr.heap.size,0,none⟩)) (wr.alloc (.cells #[.string ⟨#[]⟩,.string ⟨#[]⟩,.int .i64 0,.int .i64 0,.int .i64 0,.slice none 0 0,.bool false,.string ⟨#[]⟩] 44)) (by kernel_rfl) ?_;intro y6 hy6;have By6:Hid (Below wr.heap.size wr y6):=hid (by rw [hy6];exact alloc_below _ _);have Ey6:Hid (y6.heap[wr.heap.size]?=some (.cells #[.string ⟨#[]⟩,.string ⟨#[]⟩,.int .i64 0,.int .i64 0,.int .i64 0,.slice none 0 0,.bool false,.string ⟨#[]⟩] 44 (0,0))):=hid (by rw [hy6];exact heap_alloc_new _ _);clear hy6 tk5 _t)
    | ((with_reducible refine gate_store (t:=44) (p:=8) rfl ?_);refine put_event rfl 44 _ _ rfl wr.heap.size #[.string o.f0,.string o.f1,.int .i64 o.f2.f0,.int .i64 o.f2.f1,.int .i64 o.f2.f2,.slice A5 n5 c5,.bool o.f4,.string o.f5] rfl rfl 44 #[.string ⟨#[]⟩,.string ⟨#[]⟩,.int .i64 0,.int .i64 0,.int .i64 0,.slice none 0 0,.bool false,.string ⟨#[]⟩] Ey6.out (by kernel_rfl) rfl (by simp [Value.oneCell']) wr.heap.size (Nat.le_refl _) ?_;intro y7 hby7 hBy7 hsy7 hoy7;have Gy7:Hid (y7.heap[wr.heap.size]?=some (.cells #[.string o.f0,.string o.f1,.int .i64 o.f2.f0,.int .i64 o.f2.f1,.int .i64 o.f2.f2,.slice A5 n5 c5,.bool o.f4,.string o.f5] 44 (0,0))):=hid hby7;have Dy7:Hid (Below wr.heap.size wr y7):=hid (By6.out.trans hBy7);clear hby7 hBy7 hsy7 hoy7;clear x0 x1 x2 x3 x4 x5 x6 x7 c2 By6 Ey6))
   have BL7:Hid (Below w5.heap.size w5 y7):=hid (BL.out.trans (Dy7.out.mono BL.out.size));have BW7:Hid (Below w.heap.size w y7):=hid (BW5.out.trans (BL7.out.mono BW5.out.size));have Z27:=hid (blk_b Z2.out BL7.out);have Z37:=hid (blk_b Z3.out BL7.out);have HIN:Hid (Calls Tryz.prog 70 #[.slice (some ⟨w4.heap.size,0,none⟩) 9 9,.string o.f0] y7 fun e w'=>e=.returned (.bool (inB kindsT o.f0))/\y7=w'):=hid ((rin_calls kindsT o.f0 (some ⟨w4.heap.size,0,none⟩) 9 y7 (Kd.C_below C5k.out BL7.out) _ rfl).mono (fun e w' hp=>⟨hp.1,hp.2.symm⟩));obtain ⟨o0,o1,o2,o3,o4,o5,o6,o7⟩:=ent_cells Gy7.out;clear o1 o2 o3 o4 o5 o6 o7;cases hkb:inB kindsT o.f0 with
   | false =>
    rw [hkb] at HIN
    have HER:Hid (RES=.error ⟨50,o.f2,o.f0⟩):=hid (by
     rw [<- HRD.out]
     refine readOs_hit HX.out ?_
     unfold readO
     rw [if_pos hkb])
    clear hkb
    go_upto_region 9 with (first
     | (go_at_call 70;refine HIN.out.mono ?_;rintro e wq ⟨rfl,rfl⟩))
    clear o0;obtain ⟨o0,o1,o2,o3,o4,o5,o6,o7⟩:=ent_cells Gy7.out;clear o1 o5 o6 o7
    go_wp2_with (first
     | (go_at_call 71;refine (rfault_calls 50 o.f2 o.f0 y7).mono ?_;rintro e y8 ⟨rfl,hB⟩;have BY8:=hid hB;have Z28:=hid (blk_b Z27.out hB);have Z38:=hid (blk_b Z37.out hB);clear hB o0 o2 o3 o4)
     | ((with_reducible refine gate_store (t:=64) (p:=2) rfl ?_);refine put_event rfl 64 _ _ rfl w1.heap.size sh0 rfl rfl 64 sh0 Z28.out (by kernel_rfl) rfl (by simp [Value.oneCell',sh0]) w1.heap.size (Nat.le_refl _) ?_;intro q1 hb1 hB1 hs1 ho1;have E1q:=hid hb1;have B1q:=hid hB1;have O1q:=hid ho1;have E1z:=hid ((ho1 w2.heap.size (by have:=HZ.out;omega)).trans Z38.out);clear hb1 hB1 hs1 ho1)
     | ((with_reducible refine gate_store (t:=66) (p:=3) rfl ?_);refine put_event rfl 66 _ _ rfl w2.heap.size (faC 50 o.f2 o.f0) rfl rfl 66 fa0 E1z.out (by kernel_rfl) rfl (by simp [Value.oneCell',fa0]) w2.heap.size (Nat.le_refl _) ?_;intro q2 hb2 hB2 hs2 ho2;have E2q:=hid hb2;have B2q:=hid hB2;have O2q:=hid ho2;clear hb2 hB2 hs2 ho2))
    have hz2:q2.heap[w1.heap.size]?=some (.cells sh0 64 (0,0)):=(O2q.out _ (by have:=HZ.out;omega)).trans E1q.out;have hz3:=E2q.out
    refine bodyPost_ret (results_list (rs:=[.cell 2 64,.cell 3 66]) rfl (by simp) (.cell w1.heap.size 64 sh0 (0,0) _ rfl hz2 Tryz.underlying64 rfl (by kernel_rfl) (.cell w2.heap.size 66 (faC 50 o.f2 o.f0) (0,0) _ rfl hz3 Tryz.underlying66 rfl (by kernel_rfl) .nil))) rfl ?_
    refine ⟨(BW7.out.trans (BY8.out.mono BW7.out.size)).trans ((B1q.out.mono (by have:=HZ.out;omega)).trans (B2q.out.mono (by have:=HZ.out;omega))),?_⟩
    rw [readT_er t (HRES.out.trans HER.out)]
   | true =>
    rw [hkb] at HIN;have HRO:Hid (readO tab o=itemOf o (listedR tab o.f0 (underR tab o.f0 ⟨#[]⟩ ⟨#[]⟩) o.f3 o.f2)):=hid (readO_in hkb);clear hkb
    go_upto_region 10 with (first
     | (go_at_call 70;refine HIN.out.mono ?_;rintro e wq ⟨rfl,rfl⟩))
    clear o0;obtain ⟨I,hI⟩:∃ I,underR tab o.f0 ⟨#[]⟩ ⟨#[]⟩=I:=⟨_,rfl⟩;rw [hI] at HRO;have HUN:Hid (∀ V,Below y7.heap.size y7 V->Calls Tryz.prog 73 #[.slice Ar tab.length cr,.string o.f0,.string ⟨#[]⟩,.string ⟨#[]⟩] V fun ev w'=>(∃ v,ev=.returned v/\Kd.R (Kd.fixed kRow V) 60 w' V.heap.size (fun _=>True) v I)/\Below V.heap.size V w'):=hid (fun V hV=>by rw [<- hI];exact runder_calls tab Ar cr o.f0 ⟨#[]⟩ ⟨#[]⟩ V (Kd.C_below C5.out (BL7.out.trans (hV.mono BL7.out.size))) (by rw [tab_len];decide));have hIl:I.length<=1000:=by rw [<- hI];exact Nat.le_trans (under_len _ _ _ _) (by rw [tab_len];decide)
    obtain ⟨R,hR⟩:∃ R,listedR tab o.f0 I o.f3 o.f2=R:=⟨_,rfl⟩
    have HLI:Hid (∀ V Ai ci,Below y7.heap.size y7 V->Kd.C kRow V Ai I.length I->Calls Tryz.prog 72 #[.slice Ar tab.length cr,.string o.f0,.slice Ai I.length ci,.slice A5 n5 c5,.agg #[.int .i64 o.f2.f0,.int .i64 o.f2.f1,.int .i64 o.f2.f2]] V fun ev w'=>Below V.heap.size V w'/\∃ Ae ce,ev=.returned (.tuple #[.slice Ae (esOf R).length ce,.agg (faOf R)])/\Kd.R kEnt 80 w' V.heap.size (fun _=>True) (.slice Ae (esOf R).length ce) (esOf R)):=hid (fun V Ai ci hV hCI=>by
     have h:=rlisted tab (szL o.f3) o.f3 o.f0 I o.f2 Ar cr Ai ci A5 c5 V (Nat.le_refl _) HSZ.out (Kd.C_below C5.out (BL7.out.trans (hV.mono BL7.out.size))) (by rw [tab_len];decide) hCI hIl (by rw [HN5.out];exact Kd.C_below HC9.out (Dy7.out.trans (hV.mono Dy7.out.size)));rw [HN5.out,hR] at h
     exact rl_any h)
    rw [hR] at HRO;clear hI hIl
    try simp only [Act.put,List.setIfInBounds_toArray,List.set_cons_zero,List.set_cons_succ]
    refine region10W (⟨[],y7,wr.heap.size,o,A5,c5,n5,Ar,cr,I,esOf R,faOf R⟩:GL) (by kernel_rfl) rfl ⟨Gy7.out,fa_five R,HUN.out,HLI.out⟩ rfl rfl (by rfl) (by rfl) (by rfl) ?_
    intro z k10 Ae ce hzB hk10 hzF hzR v39 v40 v41 v42 v43 v44 v45 v46 v47 v48 v49 v50 v51 v52 v53;have BZ:=hid hzB;have HK10:=hid hk10;have FZ:=hid hzF;have RZ:=hid hzR;dsimp only at BZ HK10 FZ RZ;clear hzB hk10 hzF hzR HUN HLI HIN;have BLZ:Hid (Below w5.heap.size w5 z):=hid (BL7.out.trans (BZ.out.mono BL7.out.size));have BWZ:Hid (Below w.heap.size w z):=hid (BW5.out.trans (BLZ.out.mono BW5.out.size));have Z2z:=hid (blk_b Z2.out BLZ.out);have Z3z:=hid (blk_b Z3.out BLZ.out);rename_i hK
    refine hK _ _ ?_
    clear hK;simp only [Array.getD_eq_getD_getElem?,List.getElem?_toArray,List.getElem?_cons_zero,List.getElem?_cons_succ,Option.getD_some];cases R with
    | error f =>
     have hcd:50<=f.code:=(listed_code tab (szL o.f3) o.f3 o.f0 I o.f2 f (Nat.le_refl _) hR).1
     have HER:Hid (RES=.error f):=hid (by
      rw [<- HRD.out]
      exact readOs_hit HX.out HRO.out)
     have hc0:¬ f.code=0:=by omega
     have hc1:(f.code == 0)=false:=by simp [hc0]
     have hc2:(f.code != 0)=true:=by simp [hc0]
     have FZ2:Hid (z.heap[k10]?=some (.cells (faC f.code f.spot f.name) 66 (0,0))):=hid FZ.out;have l0:z.cell? ⟨k10,0,none⟩=some (.int .i64 f.code):=(cell_row FZ2.out 0).trans rfl;clear hR hcd hc0
     go_upto_region 12 with fail
     clear l0 hc1 hc2
     refine regionF (w0:=w) (k:=k10) (b2:=w1.heap.size) (b3:=w2.heap.size) (by kernel_rfl) rfl f rfl rfl (by rfl) (by rfl) (by rfl) (by rfl) BWZ.out FZ2.out Z2z.out Z3z.out (by have:=HZ.out;omega) (by have:=HZ.out;omega) (by have:=HK10.out;have:=HZ.out;have:=BL7.out.size;omega) ?_
     intro a' w' hd h2 h3 hB' hz2 hz3
     have hR:bodyPost Tryz.prog Tryz.f30 (ReadPost t w) .ret a' w':=by
      refine bodyPost_ret (results_list (rs:=[.cell 2 64,.cell 3 66]) rfl (by simp) (.cell w1.heap.size 64 sh0 (0,0) _ (by exact h2) hz2 Tryz.underlying64 rfl (by kernel_rfl) (.cell w2.heap.size 66 (faC f.code f.spot f.name) (0,0) _ (by exact h3) hz3 Tryz.underlying66 rfl (by kernel_rfl) .nil))) hd ?_
      refine ⟨hB',?_⟩
      rw [readT_er t (HRES.out.trans HER.out)]
     rename_i hK;exact hK a' w' (wp_ret hR)
    | ok es =>
     have HROk:Hid (readO tab o=.ok ⟨o.f0,o.f1,o.f2,es⟩):=hid HRO.out;have RZ2:Hid (Kd.R kEnt 80 z y7.heap.size (fun _=>True) (.slice Ae es.length ce) es):=hid RZ.out;have l0:z.cell? ⟨k10,0,none⟩=some (.int .i64 0):=(cell_row FZ.out 0).trans rfl;clear hR RZ
     go_upto_region 13 with fail
     clear l0;have SHz:=hid (blk_b SH.out (Dy7.out.trans (BZ.out.mono Dy7.out.size)));have OBz:=hid (blk_b Gy7.out BZ.out);have RIz:Hid (Kd.R kItem 78 z w5.heap.size (fun k=>w5.heap.size<k) (.slice Ai0 acc.length ci0) acc):=hid (Kd.R_below RI.out (Dy7.out.trans (BZ.out.mono Dy7.out.size)));have HPM:Hid (kItem.M z w5.heap.size (fun k=>y7.heap.size<=k) (⟨o.f0,o.f1,o.f2,es⟩:SI) [.string o.f0,.string o.f1,.int .i64 o.f2.f0,.int .i64 o.f2.f1,.int .i64 o.f2.f2,.slice Ae es.length ce]):=hid (kItem_mkM z w5.heap.size (fun k=>y7.heap.size<=k) (⟨o.f0,o.f1,o.f2,es⟩:SI) (Kd.R_lower (Kd.R_mono (Kd.R_bound RZ2.out) (fun k hk=>hk.2.1)) BL7.out.size));have HLT:Hid (∀ k,(Value.slice Ai0 acc.length ci0).ownBlock=some k->k<wr.heap.size):=hid (fun k hk=>ownLt RI.out hk);have HW5:Hid (w5.heap.size<wr.heap.size/\wr.heap.size<y7.heap.size/\y7.heap.size<=z.heap.size):=hid ⟨(gS.1 SH.out).1,(gS.1 Gy7.out).1,BZ.out.size⟩;have HOK:Hid (∀ k,y7.heap.size<=k->w5.heap.size<k/\some k≠(Value.slice Ai0 acc.length ci0).ownBlock):=hid (fun k hk=>⟨by have:=HW5.out;omega,fun e=>by have:=HLT.out k e.symm;have:=HW5.out;omega⟩);have HNE:Hid (∀ k,k<=w5.heap.size->some k≠(Value.slice Ai0 acc.length ci0).ownBlock):=hid (fun k hk e=>by have:=RI.out.1 k e.symm;omega);have HLA:Hid (acc.length<=1073741824):=hid (by have:=HAL.out;have:=HL.out;omega);obtain ⟨s0,s1⟩:=she_cells SHz.out;obtain ⟨o0,o1,o2,o3,o4,o5,o6,o7⟩:=ent_cells OBz.out;clear s0 o5 o6 o7
     go_wp2_with (first
      | (at_builtin;refine Kd.R_append kItem (w0:=z) w5.heap.size rfl (.tmp 60) (.tmp 69) 62 78 (.agg item0) 80 rfl Tryz.underlying62 infoItem rfl (show 0<6 by decide) (by omega) (.slice Ai0 acc.length ci0) acc (⟨o.f0,o.f1,o.f2,es⟩:SI) [.string o.f0,.string o.f1,.int .i64 o.f2.f0,.int .i64 o.f2.f1,.int .i64 o.f2.f2,.slice Ae es.length ce] (fun k=>w5.heap.size<k) (fun k=>y7.heap.size<=k) rfl rfl HPM.out HOK.out (fun k hk=>by have:=HW5.out;omega) RIz.out (Below.refl _ _) (by have:=HW5.out;omega) (by have:=HLA.out;omega) ?_;intro v1 z1 ho hb hg hat;obtain ⟨acc2,hacc2⟩:∃ q,q=acc++[(⟨o.f0,o.f1,o.f2,es⟩:SI)]:=⟨_,rfl⟩;rw [<- hacc2] at ho;obtain ⟨Av,cv,rfl⟩:=RForm ho;have RO:=hid ho;have RG:=hid hg;have HA2:=hid hacc2;have SH1:=hid ((RG.out.block w5.heap.size (by have:=HW5.out;omega) (HNE.out _ (Nat.le_refl _))).trans SHz.out);clear ho hb hg hat hacc2 s1 o0 o1 o2 o3 o4)
      | ((with_reducible refine gate_store (t:=62) (p:=71) rfl ?_);refine cell_event rfl 62 _ _ rfl w5.heap.size 1 (.slice Av acc2.length cv) rfl rfl rfl (thereR SH1.out (by simp)) (by kernel_rfl) w5.heap.size (Nat.le_refl _) ?_;intro z2 hw2 hB2 hs2;obtain ⟨hr2,hk2,hz2⟩:=row1 SH1.out hw2;have SH2:Hid (z2.heap[w5.heap.size]?=some (.cells #[.string t.f1,.slice Av acc2.length cv] 64 (0,0))):=hid hr2;have K2:=hid hk2;have B2:=hid hB2;clear hw2 hB2 hs2 hr2 hk2 hz2))
     have BLF:Hid (Below w5.heap.size w5 z2):=hid ((below_own (wr:=w5) BLZ.out RG.out (fun k hk=>by have:=RI.out.1 k hk;omega)).trans B2.out);exact ⟨⟨j + 1,acc2,_,by go_num,by omega,hid (by rw [<- HRD.out,HA2.out];exact (readOs_go HX.out HROk.out).symm),BLF,SH2,hid (Kd.R_move RO.out (fun k hk=>K2.out k (by omega))),hid (by rw [HA2.out,List.length_append];have:=HAL.out;simp;omega)⟩,by simp [intOf];omega⟩
  ·obtain rfl:j=n:=by omega
   have HRE:Hid (readOs tab [] t.f2=.ok acc):=hid (by
    have h:=HRD.out;rw [List.drop_eq_nil_of_le (by rw [HN.out];exact Nat.le_refl _),readOs_nil] at h
    rw [HRES.out,<- h])
   obtain ⟨s0,s1⟩:=she_cells SH.out
   go_wp2_with (first
    | ((with_reducible refine gate_store (t:=64) (p:=2) rfl ?_);refine put_event rfl 64 _ _ rfl w1.heap.size #[.string t.f1,.slice Ai0 acc.length ci0] rfl rfl 64 sh0 Z2r.out (by kernel_rfl) rfl (by simp [Value.oneCell',sh0]) w1.heap.size (Nat.le_refl _) ?_;intro q1 hb1 hB1 hs1 ho1;have E1q:=hid hb1;have B1q:=hid hB1;have O1q:=hid ho1;have E1z:=hid ((ho1 w2.heap.size (by have:=HZ.out;omega)).trans Z3r.out);clear hb1 hB1 hs1 ho1 s0 s1 c2)
    | ((with_reducible refine gate_store (t:=66) (p:=3) rfl ?_);refine put_event rfl 66 _ _ rfl w2.heap.size fa0 rfl rfl 66 fa0 E1z.out (by kernel_rfl) rfl (by simp [Value.oneCell',fa0]) w2.heap.size (Nat.le_refl _) ?_;intro q2 hb2 hB2 hs2 ho2;have E2q:=hid hb2;have B2q:=hid hB2;have O2q:=hid ho2;clear hb2 hB2 hs2 ho2))
   have hz2:q2.heap[w1.heap.size]?=some (.cells #[.string t.f1,.slice Ai0 acc.length ci0] 64 (0,0)):=(O2q.out _ (by have:=HZ.out;omega)).trans E1q.out;have hz3:=E2q.out
   refine bodyPost_ret (results_list (rs:=[.cell 2 64,.cell 3 66]) rfl (by simp) (.cell w1.heap.size 64 #[.string t.f1,.slice Ai0 acc.length ci0] (0,0) _ rfl hz2 Tryz.underlying64 rfl (by kernel_rfl) (.cell w2.heap.size 66 fa0 (0,0) _ rfl hz3 Tryz.underlying66 rfl (by kernel_rfl) .nil))) rfl ?_
   refine ⟨(BWr.out.trans (B1q.out.mono (by have:=HZ.out;omega))).trans (B2q.out.mono (by have:=HZ.out;omega)),?_⟩
   rw [readT_eq t HRE.out];exact ⟨_,rfl,Kd.R_lower (Kd.R_mono (Kd.R_move RI.out (fun k hk=>(O2q.out k (by have:=HZ.out;omega)).trans (O1q.out k (by have:=HZ.out;omega)))) (fun _ _=>trivial)) BW5.out.size⟩
end Go.Proofs.YtmfejjlmflgnbaaGreatDoor.Sc

/- THE REGION that lays an item, of the document's Write: 'o := api.Object{Kind: x.Kind, Name: x.Name, Attrs: laid(rows, x.Kind, under(rows, x.Kind, "", ""), x.Entries)}', in any order. -/
import Derived.Test.YtmfejjlmflgnbaaGreatDoorVRd
import Derived.Test.YtmfejjlmflgnbaaGreatDoorVRef
set_option linter.unusedVariables false
set_option linter.unusedSimpArgs false
set_option maxRecDepth 100000
namespace Go.Proofs.YtmfejjlmflgnbaaGreatDoor.Sc
open RowKit PA YtmfejjlmflgnbaaGreatDoorW.PrintWords YtmfejjlmflgnbaaGreatDoorW.PrintLast YtmfejjlmflgnbaaGreatDoorW.PrintMore Sp Tr Tok
def obzV:Array Value:=#[.string ⟨#[]⟩,.string ⟨#[]⟩,.int .i64 0,.int .i64 0,.int .i64 0,.slice none 0 0,.bool false,.string ⟨#[]⟩]
noncomputable def OPV:Array Oper:=opsOf Tryz.f33 8
theorem opv_size:OPV.size=17:=by kernel_rfl
def DV:List (Option Nat):=[some 31,some 32,some 33,some 34,some 35,some 36,some 37,some 38,some 39,some 40,some 41,some 42,some 43,some 44,some 45,some 9,none]
def FSV:List Nat:=[0,1,2,3,4,5,6,7,8,10,11,12,13,14,15,16,17,18,19,20,21,22,23,24,25,26,27,28,29,30,46,47,48,49,50,51,52,53,54,55,56,57,58,59,60,61,62,63,64,65,66,67,68,69,70,71,72,73,74,75,76,77,78,79,80,81,82]
theorem dv_ok:okD OPV 83 DV FSV=true:=by kernel_rfl
structure GVw where
 fx:List (Nat × Value)
 W:World
 ob:Nat
 x:SI
 A5:Option Addr
 c5:Nat
 n5:Nat
 Ar:Option Addr
 cr:Nat
 I:List SR
 ps:List SA
section
variable (g:GVw)
abbrev GVw.row (g:GVw) (w:World) (v:Value):Prop:=Kd.R k50 50 w g.W.heap.size (fun _=>True) v g.ps
def VV (l:Array Bool):Nat->Value->World->Prop
 | 0,v,_=>v=ptR g.ob 0
 | 1,v,_=>v=.string g.x.kind
 | 2,v,_=>v=ptR g.ob 1
 | 3,v,_=>v=.string g.x.name
 | 4,v,_=>v=.slice g.Ar tab.length g.cr
 | 5,v,_=>v=ptR g.ob 0
 | 6,v,_=>v=.string g.x.kind
 | 7,v,_=>v=.slice g.Ar tab.length g.cr
 | 8,v,_=>v=ptR g.ob 0
 | 9,v,_=>v=.string g.x.kind
 | 10,v,w=>l.getD 13 true=false->∃ Ai ci,v=.slice Ai g.I.length ci/\Kd.C kRow w Ai g.I.length g.I
 | 11,v,_=>v=ptR g.ob 5
 | 12,v,_=>v=.slice g.A5 g.n5 g.c5
 | 13,v,w=>∃ Ap cp,v=.slice Ap g.ps.length cp/\g.row w (.slice Ap g.ps.length cp)
 | 14,v,w=>∃ Ap cp,v=.agg #[.string g.x.kind,.string g.x.name,.int .i64 0,.int .i64 0,.int .i64 0,.slice Ap g.ps.length cp,.bool false,.string ⟨#[]⟩]/\g.row w (.slice Ap g.ps.length cp)
 | 15,v,w=>∃ k,v=ptR k 0/\g.W.heap.size<=k/\∃ c:Array Value,c.size=8/\w.heap[k]?=some (.cells c 44 (0,0))/\(l.getD 16 true=true->∃ Ap cp,c=#[.string g.x.kind,.string g.x.name,.int .i64 0,.int .i64 0,.int .i64 0,.slice Ap g.ps.length cp,.bool false,.string ⟨#[]⟩]/\g.row w (.slice Ap g.ps.length cp))
 | _,_,_=>True
structure JV (l:Array Bool) (w:World):Prop where
 bel:Below g.W.heap.size g.W w
structure VOk:Prop where
 hfs:g.fx.map Prod.fst=FSV
 f4:(4,.slice g.Ar tab.length g.cr) ∈ g.fx
 f8:(8,ptR g.ob 0) ∈ g.fx
 itm:g.W.heap[g.ob]?=some (.cells #[.string g.x.kind,.string g.x.name,.int .i64 g.x.spot.f0,.int .i64 g.x.spot.f1,.int .i64 g.x.spot.f2,.slice g.A5 g.n5 g.c5] 78 (0,0))
 und:∀ V,Below g.W.heap.size g.W V->Calls Tryz.prog 73 #[.slice g.Ar tab.length g.cr,.string g.x.kind,.string ⟨#[]⟩,.string ⟨#[]⟩] V fun ev w'=>(∃ v,ev=.returned v/\Kd.R (Kd.fixed kRow V) 60 w' V.heap.size (fun _=>True) v g.I)/\Below V.heap.size V w'
 lai:∀ V Ai ci,Below g.W.heap.size g.W V->Kd.C kRow V Ai g.I.length g.I->Calls Tryz.prog 80 #[.slice g.Ar tab.length g.cr,.string g.x.kind,.slice Ai g.I.length ci,.slice g.A5 g.n5 g.c5] V fun ev w'=>Below V.heap.size V w'/\∃ v,ev=.returned v/\Kd.R k50 50 w' V.heap.size (fun _=>True) v g.ps
abbrev RGV:Array Bool->Act->World->Prop:=RL OPV 83 DV g.fx (VV g) (JV g)
end
section
variable {g:GVw} {Q:Exit->Act->World->Prop} {l:Array Bool} {a:Act} {w:World}
theorem JV.ob {g:GVw} {l:Array Bool} {w:World} (h:JV g l w) (O:VOk g):w.heap[g.ob]?=some (.cells #[.string g.x.kind,.string g.x.name,.int .i64 g.x.spot.f0,.int .i64 g.x.spot.f1,.int .i64 g.x.spot.f2,.slice g.A5 g.n5 g.c5] 78 (0,0)):=blk_b O.itm h.bel
theorem rgv_set (h:RGV g l a w) {i:Nat} (hi:i<17) (k:Nat) (hne:i≠k):(l.setIfInBounds i true).getD k true=l.getD k true:=by
 rw [getD_set l i k (by rw [h.lz,opv_size];exact hi),if_neg hne]
theorem vv_move {l':Array Bool} {w w':World} (hB:Below w.heap.size w w') (h13:l'.getD 13 true=false->l.getD 13 true=false) (h16:l'.getD 16 true=true->l.getD 16 true=true) (j:Nat) (u:Value) (h:VV g l j u w):VV g l' j u w':=by
 match j,h with
 | 0,h=>exact h
 | 1,h=>exact h
 | 2,h=>exact h
 | 3,h=>exact h
 | 4,h=>exact h
 | 5,h=>exact h
 | 6,h=>exact h
 | 7,h=>exact h
 | 8,h=>exact h
 | 9,h=>exact h
 | 10,h =>
  intro e;obtain ⟨Ai,ci,h1,h2⟩:=h (h13 e);exact ⟨Ai,ci,h1,Kd.C_below h2 hB⟩
 | 11,h=>exact h
 | 12,h=>exact h
 | 13,h =>
  obtain ⟨Ap,cp,h1,h2⟩:=h;exact ⟨Ap,cp,h1,Kd.R_below h2 hB⟩
 | 14,h =>
  obtain ⟨Ap,cp,h1,h2⟩:=h;exact ⟨Ap,cp,h1,Kd.R_below h2 hB⟩
 | 15,h =>
  obtain ⟨k,h1,h2,c,h3,h4,h5⟩:=h
  refine ⟨k,h1,h2,c,h3,blk_b h4 hB,fun e=>?_⟩
  obtain ⟨Ap,cp,h6,h7⟩:=h5 (h16 e);exact ⟨Ap,cp,h6,Kd.R_below h7 hB⟩
 | n + 16,h=>exact trivial
theorem rgv_read {i d:Nat} {op:Op} {v:Value} (hi:i<17) (h13:i≠13) (h16:i≠16) (O:VOk g) (h:RGV g l a w) (hrd:i ∈ Region.ready .any OPV l) (hd:DV[i]?=some (some d)) (ho:(OPV[i]?).map (fun o=>(o.op,o.dst,o.guard))=some (op,some d,none))
  (hrun:∀ o:Oper,o.op=op->(execOp a.eval o).run Tryz.prog w=.ok (.value v) w) (hV:VV g (l.setIfInBounds i true) i v w):wpOp Tryz.prog OPV Q i (RGV g (l.setIfInBounds i true)) a w:=by
 have s16:=rgv_set h hi 16 h16;have s13:=rgv_set h hi 13 h13;exact rs_value ho hrun (h.put dv_ok O.hfs hrd hd hV (fun j u _ hne hl hv=>vv_move (Below.refl _ _) (fun e=>by rw [<- s13];exact e) (fun e=>by rw [<- s16];exact e) j u hv) ⟨h.jj.bel⟩)
theorem rgv_0 (O:VOk g) (h:RGV g l a w) (hrd:0 ∈ Region.ready .any OPV l):wpOp Tryz.prog OPV Q 0 (RGV g (l.setIfInBounds 0 true)) a w:=by
 have hv:a.eval (.tmp 8)=ptR g.ob 0:=h.fix (8,ptR g.ob 0) O.f8;exact rgv_read (d:=31) (op:=.fieldAddr 78 (.tmp 8) 0) (v:=ptR g.ob 0) (by decide) (by decide) (by decide) O h hrd rfl (by kernel_rfl) (by intro o ho;unfold execOp;rw [ho];simp only [hv];kernel_rfl) rfl
theorem rgv_1 (O:VOk g) (h:RGV g l a w) (hrd:1 ∈ Region.ready .any OPV l):wpOp Tryz.prog OPV Q 1 (RGV g (l.setIfInBounds 1 true)) a w:=by
 have hv:a.tmps.getD 31 undef=ptR g.ob 0:=h.get hrd (j:=0) (by kernel_rfl) (by rw [opv_size];decide) rfl;have k0:w.cell? ⟨g.ob,0,none⟩=some (.string g.x.kind):=(cell_row (h.jj.ob O) 0).trans rfl;exact rgv_read (d:=32) (op:=.load 9 (.tmp 31)) (v:=.string g.x.kind) (by decide) (by decide) (by decide) O h hrd rfl (by kernel_rfl) (by intro o ho;unfold execOp;rw [ho];rw [Array.getD_eq_getD_getElem?] at hv;simp [Act.eval,hv,go_sem,k0]) rfl
theorem rgv_2 (O:VOk g) (h:RGV g l a w) (hrd:2 ∈ Region.ready .any OPV l):wpOp Tryz.prog OPV Q 2 (RGV g (l.setIfInBounds 2 true)) a w:=by
 have hv:a.eval (.tmp 8)=ptR g.ob 0:=h.fix (8,ptR g.ob 0) O.f8;exact rgv_read (d:=33) (op:=.fieldAddr 78 (.tmp 8) 1) (v:=ptR g.ob 1) (by decide) (by decide) (by decide) O h hrd rfl (by kernel_rfl) (by intro o ho;unfold execOp;rw [ho];simp only [hv];kernel_rfl) rfl
theorem rgv_3 (O:VOk g) (h:RGV g l a w) (hrd:3 ∈ Region.ready .any OPV l):wpOp Tryz.prog OPV Q 3 (RGV g (l.setIfInBounds 3 true)) a w:=by
 have hv:a.tmps.getD 33 undef=ptR g.ob 1:=h.get hrd (j:=2) (by kernel_rfl) (by rw [opv_size];decide) rfl;have k0:w.cell? ⟨g.ob,1,none⟩=some (.string g.x.name):=(cell_row (h.jj.ob O) 1).trans rfl;exact rgv_read (d:=34) (op:=.load 9 (.tmp 33)) (v:=.string g.x.name) (by decide) (by decide) (by decide) O h hrd rfl (by kernel_rfl) (by intro o ho;unfold execOp;rw [ho];rw [Array.getD_eq_getD_getElem?] at hv;simp [Act.eval,hv,go_sem,k0]) rfl
theorem rgv_4 (O:VOk g) (h:RGV g l a w) (hrd:4 ∈ Region.ready .any OPV l):wpOp Tryz.prog OPV Q 4 (RGV g (l.setIfInBounds 4 true)) a w:=by
 exact rgv_read (d:=35) (op:=.move (.tmp 4)) (v:=a.tmps.getD 4 undef) (by decide) (by decide) (by decide) O h hrd rfl (by kernel_rfl) (by intro o ho;unfold execOp;rw [ho];rfl) (h.fix (4,.slice g.Ar tab.length g.cr) O.f4)
theorem rgv_5 (O:VOk g) (h:RGV g l a w) (hrd:5 ∈ Region.ready .any OPV l):wpOp Tryz.prog OPV Q 5 (RGV g (l.setIfInBounds 5 true)) a w:=by
 have hv:a.eval (.tmp 8)=ptR g.ob 0:=h.fix (8,ptR g.ob 0) O.f8;exact rgv_read (d:=36) (op:=.fieldAddr 78 (.tmp 8) 0) (v:=ptR g.ob 0) (by decide) (by decide) (by decide) O h hrd rfl (by kernel_rfl) (by intro o ho;unfold execOp;rw [ho];simp only [hv];kernel_rfl) rfl
theorem rgv_6 (O:VOk g) (h:RGV g l a w) (hrd:6 ∈ Region.ready .any OPV l):wpOp Tryz.prog OPV Q 6 (RGV g (l.setIfInBounds 6 true)) a w:=by
 have hv:a.tmps.getD 36 undef=ptR g.ob 0:=h.get hrd (j:=5) (by kernel_rfl) (by rw [opv_size];decide) rfl;have k0:w.cell? ⟨g.ob,0,none⟩=some (.string g.x.kind):=(cell_row (h.jj.ob O) 0).trans rfl;exact rgv_read (d:=37) (op:=.load 9 (.tmp 36)) (v:=.string g.x.kind) (by decide) (by decide) (by decide) O h hrd rfl (by kernel_rfl) (by intro o ho;unfold execOp;rw [ho];rw [Array.getD_eq_getD_getElem?] at hv;simp [Act.eval,hv,go_sem,k0]) rfl
theorem rgv_7 (O:VOk g) (h:RGV g l a w) (hrd:7 ∈ Region.ready .any OPV l):wpOp Tryz.prog OPV Q 7 (RGV g (l.setIfInBounds 7 true)) a w:=by
 exact rgv_read (d:=38) (op:=.move (.tmp 4)) (v:=a.tmps.getD 4 undef) (by decide) (by decide) (by decide) O h hrd rfl (by kernel_rfl) (by intro o ho;unfold execOp;rw [ho];rfl) (h.fix (4,.slice g.Ar tab.length g.cr) O.f4)
theorem rgv_8 (O:VOk g) (h:RGV g l a w) (hrd:8 ∈ Region.ready .any OPV l):wpOp Tryz.prog OPV Q 8 (RGV g (l.setIfInBounds 8 true)) a w:=by
 have hv:a.eval (.tmp 8)=ptR g.ob 0:=h.fix (8,ptR g.ob 0) O.f8;exact rgv_read (d:=39) (op:=.fieldAddr 78 (.tmp 8) 0) (v:=ptR g.ob 0) (by decide) (by decide) (by decide) O h hrd rfl (by kernel_rfl) (by intro o ho;unfold execOp;rw [ho];simp only [hv];kernel_rfl) rfl
theorem rgv_9 (O:VOk g) (h:RGV g l a w) (hrd:9 ∈ Region.ready .any OPV l):wpOp Tryz.prog OPV Q 9 (RGV g (l.setIfInBounds 9 true)) a w:=by
 have hv:a.tmps.getD 39 undef=ptR g.ob 0:=h.get hrd (j:=8) (by kernel_rfl) (by rw [opv_size];decide) rfl;have k0:w.cell? ⟨g.ob,0,none⟩=some (.string g.x.kind):=(cell_row (h.jj.ob O) 0).trans rfl;exact rgv_read (d:=40) (op:=.load 9 (.tmp 39)) (v:=.string g.x.kind) (by decide) (by decide) (by decide) O h hrd rfl (by kernel_rfl) (by intro o ho;unfold execOp;rw [ho];rw [Array.getD_eq_getD_getElem?] at hv;simp [Act.eval,hv,go_sem,k0]) rfl
theorem rgv_10 (O:VOk g) (h:RGV g l a w) (hrd:10 ∈ Region.ready .any OPV l):wpOp Tryz.prog OPV Q 10 (RGV g (l.setIfInBounds 10 true)) a w:=by
 have v1:a.tmps.getD 38 undef=.slice g.Ar tab.length g.cr:=h.get hrd (j:=7) (by kernel_rfl) (by rw [opv_size];decide) rfl;have v2:a.tmps.getD 40 undef=.string g.x.kind:=h.get hrd (j:=9) (by kernel_rfl) (by rw [opv_size];decide) rfl;have s16:=rgv_set h (i:=10) (by decide) 16 (by decide);have s13:=rgv_set h (i:=10) (by decide) 13 (by decide)
 refine rs_call (d:=41) (aa:=#[.tmp 38,.tmp 40,.const (.string ⟨#[]⟩),.const (.string ⟨#[]⟩)]) (ts:=#[53,9,9,9]) (args:=#[.slice g.Ar tab.length g.cr,.string g.x.kind,.string ⟨#[]⟩,.string ⟨#[]⟩]) (by kernel_rfl) Tryz.func73 rfl rfl (by simp only [List.map_toArray,List.map_cons,List.map_nil,Act.eval,v1,v2]) ((O.und w h.jj.bel).mono ?_)
 rintro e w' ⟨⟨v,rfl,hR⟩,hB⟩;obtain ⟨Ai,ci,rfl⟩:=RForm hR
 refine ⟨_,rfl,h.put dv_ok O.hfs hrd rfl (fun _=>⟨Ai,ci,rfl,fixed_C (keeps_below hB) (Kd.R_reads' hR).2.2⟩) (fun j u _ _ _ hv=>vv_move hB (fun e=>by rw [<- s13];exact e) (fun e=>by rw [<- s16];exact e) j u hv) ⟨h.jj.bel.trans (hB.mono h.jj.bel.size)⟩⟩
theorem rgv_11 (O:VOk g) (h:RGV g l a w) (hrd:11 ∈ Region.ready .any OPV l):wpOp Tryz.prog OPV Q 11 (RGV g (l.setIfInBounds 11 true)) a w:=by
 have hv:a.eval (.tmp 8)=ptR g.ob 0:=h.fix (8,ptR g.ob 0) O.f8;exact rgv_read (d:=42) (op:=.fieldAddr 78 (.tmp 8) 3) (v:=ptR g.ob 5) (by decide) (by decide) (by decide) O h hrd rfl (by kernel_rfl) (by intro o ho;unfold execOp;rw [ho];simp only [hv];kernel_rfl) rfl
theorem rgv_12 (O:VOk g) (h:RGV g l a w) (hrd:12 ∈ Region.ready .any OPV l):wpOp Tryz.prog OPV Q 12 (RGV g (l.setIfInBounds 12 true)) a w:=by
 have hv:a.tmps.getD 42 undef=ptR g.ob 5:=h.get hrd (j:=11) (by kernel_rfl) (by rw [opv_size];decide) rfl;have k0:w.cell? ⟨g.ob,5,none⟩=some (.slice g.A5 g.n5 g.c5):=(cell_row (h.jj.ob O) 5).trans rfl;exact rgv_read (d:=43) (op:=.load 76 (.tmp 42)) (v:=.slice g.A5 g.n5 g.c5) (by decide) (by decide) (by decide) O h hrd rfl (by kernel_rfl) (by intro o ho;unfold execOp;rw [ho];rw [Array.getD_eq_getD_getElem?] at hv;simp [Act.eval,hv,go_sem,k0]) rfl
theorem rgv_13 (O:VOk g) (h:RGV g l a w) (hrd:13 ∈ Region.ready .any OPV l):wpOp Tryz.prog OPV Q 13 (RGV g (l.setIfInBounds 13 true)) a w:=by
 have v1:a.tmps.getD 35 undef=.slice g.Ar tab.length g.cr:=h.get hrd (j:=4) (by kernel_rfl) (by rw [opv_size];decide) rfl;have v2:a.tmps.getD 37 undef=.string g.x.kind:=h.get hrd (j:=6) (by kernel_rfl) (by rw [opv_size];decide) rfl;have v4:a.tmps.getD 43 undef=.slice g.A5 g.n5 g.c5:=h.get hrd (j:=12) (by kernel_rfl) (by rw [opv_size];decide) rfl;obtain ⟨Ai,ci,v3,hC⟩:=(show VV g l 10 (a.tmps.getD 41 undef) w from h.get hrd (j:=10) (by kernel_rfl) (by rw [opv_size];decide) rfl) (ready_open hrd).2;have s16:=rgv_set h (i:=13) (by decide) 16 (by decide)
 refine rs_call (d:=44) (aa:=#[.tmp 35,.tmp 37,.tmp 41,.tmp 43]) (ts:=#[53,9,53,76]) (args:=#[.slice g.Ar tab.length g.cr,.string g.x.kind,.slice Ai g.I.length ci,.slice g.A5 g.n5 g.c5]) (by kernel_rfl) Tryz.func80 rfl rfl (by simp only [List.map_toArray,List.map_cons,List.map_nil,Act.eval,v1,v2,v3,v4]) ((O.lai w Ai ci h.jj.bel hC).mono ?_)
 rintro e w' ⟨hB,v,rfl,hR⟩;obtain ⟨Ap,cp,rfl⟩:=RForm hR;exact ⟨_,rfl,h.put dv_ok O.hfs hrd rfl ⟨Ap,cp,rfl,Kd.R_lower hR h.jj.bel.size⟩ (fun j u _ _ _ hv=>vv_move hB (fun _=>(ready_open hrd).2) (fun e=>by rw [<- s16];exact e) j u hv) ⟨h.jj.bel.trans (hB.mono h.jj.bel.size)⟩⟩
theorem rgv_14 (O:VOk g) (h:RGV g l a w) (hrd:14 ∈ Region.ready .any OPV l):wpOp Tryz.prog OPV Q 14 (RGV g (l.setIfInBounds 14 true)) a w:=by
 have v1:a.eval (.tmp 32)=.string g.x.kind:=h.get hrd (j:=1) (by kernel_rfl) (by rw [opv_size];decide) rfl;have v2:a.eval (.tmp 34)=.string g.x.name:=h.get hrd (j:=3) (by kernel_rfl) (by rw [opv_size];decide) rfl;obtain ⟨Ap,cp,v3,hR⟩:=(show VV g l 13 (a.eval (.tmp 44)) w from h.get hrd (j:=13) (by kernel_rfl) (by rw [opv_size];decide) rfl);exact rgv_read (d:=45) (op:=.build 44 #[(0,.tmp 32),(1,.tmp 34),(3,.tmp 44)]) (v:=.agg #[.string g.x.kind,.string g.x.name,.int .i64 0,.int .i64 0,.int .i64 0,.slice Ap g.ps.length cp,.bool false,.string ⟨#[]⟩]) (by decide) (by decide) (by decide) O h hrd rfl (by kernel_rfl) (by intro o ho;unfold execOp;rw [ho];simp only [List.map_toArray,List.map_cons,List.map_nil,v1,v2,v3];kernel_rfl) ⟨Ap,cp,rfl,hR⟩
theorem rgv_15 (O:VOk g) (h:RGV g l a w) (hrd:15 ∈ Region.ready .any OPV l):wpOp Tryz.prog OPV Q 15 (RGV g (l.setIfInBounds 15 true)) a w:=by
 have n16:=h.late hrd (j:=16) (n:=17) (by rw [opv_size];decide) (by kernel_rfl);have s16:=rgv_set h (i:=15) (by decide) 16 (by decide);have s13:=rgv_set h (i:=15) (by decide) 13 (by decide);have hB:=alloc_below w (.cells obzV 44)
 refine rs_value (d:=9) (op:=.alloc 44) (v:=ptR w.heap.size 0) (w1:=w.alloc (.cells obzV 44)) (by kernel_rfl) (by intro o ho;unfold execOp;rw [ho];kernel_rfl) (h.put dv_ok O.hfs hrd rfl ⟨w.heap.size,rfl,h.jj.bel.size,obzV,rfl,heap_alloc_new _ _,fun e=>?_⟩ (fun j u _ _ _ hv=>vv_move hB (fun e=>by rw [<- s13];exact e) (fun e=>by rw [<- s16];exact e) j u hv) ⟨h.jj.bel.trans (hB.mono h.jj.bel.size)⟩)
 rw [s16,n16] at e;cases e
theorem R_typedA {w w':World} {base:Nat} {v:Value} {xs:List SA} {k:Nat} {c:Array Value} (h:Kd.R k50 50 w base (fun _=>True) v xs) (hk:w.heap[k]?=some (.cells c 44 (0,0))) (ho:∀ j,j≠k->w'.heap[j]?=w.heap[j]?):Kd.R k50 50 w' base (fun _=>True) v xs:=by
 refine Kd.R_mono (Kd.R_move (w1:=w') (Kd.R_bound h) (fun j hj=>ho j ?_)) (fun _ _=>trivial)
 rintro rfl;obtain ⟨_,_,_,q,hq,cells,hc⟩:=hj;rw [hk] at hc;injection hc with hc
 injection hc with _ hc
 simp only [List.mem_cons] at hq;rcases hq with hq | hq
 ·rw [hq] at hc
  exact absurd hc (by decide)
 ·have hE:k50.E=[50]:=rfl
  rw [hE] at hq;simp only [List.mem_cons,List.not_mem_nil,or_false] at hq;rw [hq] at hc;exact absurd hc (by decide)
theorem rgv_16 (O:VOk g) (h:RGV g l a w) (hrd:16 ∈ Region.ready .any OPV l):wpOp Tryz.prog OPV Q 16 (RGV g (l.setIfInBounds 16 true)) a w:=by
 obtain ⟨k,v1,hk,c,hc8,hkc,hk16⟩:=(show VV g l 15 (a.eval (.tmp 9)) w from h.get hrd (j:=15) (by kernel_rfl) (by rw [opv_size];decide) rfl);obtain ⟨Ap,cp,v2,hR⟩:=(show VV g l 14 (a.eval (.tmp 45)) w from h.get hrd (j:=14) (by kernel_rfl) (by rw [opv_size];decide) rfl)
 have p13:l.getD 13 true=true:=by
  have e:∀ k,k<17->l.getD k true=l.getD k false:=fun k hk=>by
   simp only [Array.getD_eq_getD_getElem?,Array.getElem?_eq_getElem (show k<l.size by rw [h.lz,opv_size];exact hk),Option.getD_some]
  have h14:l.getD 14 true=true:=ready_dep hrd (by kernel_rfl);rw [e 14 (by decide)] at h14;rw [e 13 (by decide)];exact Region.reach_listed (i:=13) h.lc 17 14 (by kernel_rfl) h14
 have s13:=rgv_set h (i:=16) (by decide) 13 (by decide);have hr:=run_storeVar_row (P:=Tryz.prog) w k 44 44 c #[.string g.x.kind,.string g.x.name,.int .i64 0,.int .i64 0,.int .i64 0,.slice Ap g.ps.length cp,.bool false,.string ⟨#[]⟩] hkc (by kernel_rfl) hc8 (by simp [Value.oneCell'])
 refine rs_store (op:=.store 44 (.tmp 9) (.tmp 45)) (w1:=w.setRow k #[.string g.x.kind,.string g.x.name,.int .i64 0,.int .i64 0,.int .i64 0,.slice Ap g.ps.length cp,.bool false,.string ⟨#[]⟩]) (by kernel_rfl) (fun o ho=>by
  unfold execOp
  simp only [ho,v1,v2,Instr.storeAt,Instr.sureAddr,Sem.run_bind,Sem.run_pure,Result.andThen_ok,hr]) (h.put1 hrd rfl (fun j e hj hne hl he hv=>?_) ⟨h.jj.bel.trans (setRow_below w k _ _ hk)⟩)
 have ho:∀ j,j≠k->(w.setRow k #[.string g.x.kind,.string g.x.name,.int .i64 0,.int .i64 0,.int .i64 0,.slice Ap g.ps.length cp,.bool false,.string ⟨#[]⟩]).heap[j]?=w.heap[j]?:=fun j hj=>setRow_other w k j _ hj
 match j,hv with
 | 0,h=>exact h
 | 1,h=>exact h
 | 2,h=>exact h
 | 3,h=>exact h
 | 4,h=>exact h
 | 5,h=>exact h
 | 6,h=>exact h
 | 7,h=>exact h
 | 8,h=>exact h
 | 9,h=>exact h
 | 10,h =>
  intro e;rw [s13,p13] at e;cases e
 | 11,h=>exact h
 | 12,h=>exact h
 | 13,h =>
  obtain ⟨Aq,cq,h1,h2⟩:=h;exact ⟨Aq,cq,h1,R_typedA h2 hkc ho⟩
 | 14,h =>
  obtain ⟨Aq,cq,h1,h2⟩:=h;exact ⟨Aq,cq,h1,R_typedA h2 hkc ho⟩
 | 15,h =>
  obtain ⟨k2,h1,h2,c2,h3,h4,h5⟩:=h
  have he2:e=9:=by
   have h6:(some (some 9):Option (Option Nat))=some (some e):=he;injection h6 with h6
   injection h6 with h6
   exact h6.symm
  subst he2;have hkk:ptR k2 0=ptR k 0:=h1.symm.trans v1;injection hkk with hkk
  injection hkk with hkk
  injection hkk with hkk
  subst hkk;exact ⟨k2,h1,h2,#[.string g.x.kind,.string g.x.name,.int .i64 0,.int .i64 0,.int .i64 0,.slice Ap g.ps.length cp,.bool false,.string ⟨#[]⟩],rfl,setRow_heap w k2 c _ 44 (0,0) hkc,fun _=>⟨Ap,cp,rfl,R_typedA hR hkc ho⟩⟩
 | n + 16,h=>exact trivial
theorem regionV {P:Program} {ops:Array Oper} (hop:ops=OPV) (hP:P=Tryz.prog) {id:Nat} (O:VOk g) (hm:P.follows .mixedOrders=true) (hd:a.defers=[]) (hz:a.tmps.size=83) (hfx:∀ p ∈ g.fx,a.tmps.getD p.1 undef=p.2)
  (hfin:∀ a' w' k Ap cp,a'.defers=[]->a'.tmps.size=83->(∀ p ∈ g.fx,a'.tmps.getD p.1 undef=p.2)->Below g.W.heap.size g.W w'->a'.tmps.getD 9 undef=ptR k 0->g.W.heap.size<=k->w'.heap[k]?=some (.cells #[.string g.x.kind,.string g.x.name,.int .i64 0,.int .i64 0,.int .i64 0,.slice Ap g.ps.length cp,.bool false,.string ⟨#[]⟩] 44 (0,0))->g.row w' (.slice Ap g.ps.length cp)->Q .normal a' w'):(Code.region id ops true).wp P Q a g.W:=by
 subst hop;subst hP
 refine rl_region (V:=VV g) (J:=JV g) hm dv_ok ?_ ?_ hd hz hfx ⟨(Below.refl _ _).drew⟩
 ·intro l a w i h hi hrd
  rw [opv_size] at hi
  match i,hi,hrd with
  | 0,_,hrd=>exact rgv_0 O h hrd
  | 1,_,hrd=>exact rgv_1 O h hrd
  | 2,_,hrd=>exact rgv_2 O h hrd
  | 3,_,hrd=>exact rgv_3 O h hrd
  | 4,_,hrd=>exact rgv_4 O h hrd
  | 5,_,hrd=>exact rgv_5 O h hrd
  | 6,_,hrd=>exact rgv_6 O h hrd
  | 7,_,hrd=>exact rgv_7 O h hrd
  | 8,_,hrd=>exact rgv_8 O h hrd
  | 9,_,hrd=>exact rgv_9 O h hrd
  | 10,_,hrd=>exact rgv_10 O h hrd
  | 11,_,hrd=>exact rgv_11 O h hrd
  | 12,_,hrd=>exact rgv_12 O h hrd
  | 13,_,hrd=>exact rgv_13 O h hrd
  | 14,_,hrd=>exact rgv_14 O h hrd
  | 15,_,hrd=>exact rgv_15 O h hrd
  | 16,_,hrd=>exact rgv_16 O h hrd
  | n + 17,hn,_=>exact absurd hn (by omega)
 ·intro l a' w' h hall
  have hl:=fun i (hi:i<17)=>hall i (by rw [opv_size];exact hi);obtain ⟨k,h1,h2,c,h3,h4,h5⟩:=(show VV g l 15 (a'.tmps.getD 9 undef) w' from h.gd 15 9 (by rw [opv_size];decide) (hl 15 (by decide)) rfl);obtain ⟨Ap,cp,rfl,h7⟩:=h5 (hl 16 (by decide));exact hfin a' w' k Ap cp h.df h.sz h.fix h.jj.bel h1 h2 h4 h7
end
theorem act_litV {a a':Act} (hd:a'.defers=[]) (hz:a'.tmps.size=83) (hfx:∀ s ∈ FSV,a'.tmps.getD s undef=a.tmps.getD s undef) {v9:Value} (h9:a'.tmps.getD 9 undef=v9):∃ u31 u32 u33 u34 u35 u36 u37 u38 u39 u40 u41 u42 u43 u44 u45:Value,a'={ tmps:=(a.tmps.getD 0 undef :: a.tmps.getD 1 undef :: a.tmps.getD 2 undef :: a.tmps.getD 3 undef :: a.tmps.getD 4 undef :: a.tmps.getD 5 undef :: a.tmps.getD 6 undef :: a.tmps.getD 7 undef :: a.tmps.getD 8 undef :: v9 :: a.tmps.getD 10 undef :: a.tmps.getD 11 undef :: a.tmps.getD 12 undef :: a.tmps.getD 13 undef :: a.tmps.getD 14 undef :: a.tmps.getD 15 undef :: a.tmps.getD 16 undef :: a.tmps.getD 17 undef :: a.tmps.getD 18 undef :: a.tmps.getD 19 undef :: a.tmps.getD 20 undef :: a.tmps.getD 21 undef :: a.tmps.getD 22 undef :: a.tmps.getD 23 undef :: a.tmps.getD 24 undef :: a.tmps.getD 25 undef :: a.tmps.getD 26 undef :: a.tmps.getD 27 undef :: a.tmps.getD 28 undef :: a.tmps.getD 29 undef :: a.tmps.getD 30 undef :: u31 :: u32 :: u33 :: u34 :: u35 :: u36 :: u37 :: u38 :: u39 :: u40 :: u41 :: u42 :: u43 :: u44 :: u45 :: a.tmps.getD 46 undef :: a.tmps.getD 47 undef :: a.tmps.getD 48 undef :: a.tmps.getD 49 undef :: a.tmps.getD 50 undef :: a.tmps.getD 51 undef :: a.tmps.getD 52 undef :: a.tmps.getD 53 undef :: a.tmps.getD 54 undef :: a.tmps.getD 55 undef :: a.tmps.getD 56 undef :: a.tmps.getD 57 undef :: a.tmps.getD 58 undef :: a.tmps.getD 59 undef :: a.tmps.getD 60 undef :: a.tmps.getD 61 undef :: a.tmps.getD 62 undef :: a.tmps.getD 63 undef :: a.tmps.getD 64 undef :: a.tmps.getD 65 undef :: a.tmps.getD 66 undef :: a.tmps.getD 67 undef :: a.tmps.getD 68 undef :: a.tmps.getD 69 undef :: a.tmps.getD 70 undef :: a.tmps.getD 71 undef :: a.tmps.getD 72 undef :: a.tmps.getD 73 undef :: a.tmps.getD 74 undef :: a.tmps.getD 75 undef :: a.tmps.getD 76 undef :: a.tmps.getD 77 undef :: a.tmps.getD 78 undef :: a.tmps.getD 79 undef :: a.tmps.getD 80 undef :: a.tmps.getD 81 undef :: a.tmps.getD 82 undef :: []).toArray,defers:=[] }:=by
 refine ⟨a'.tmps.getD 31 undef,a'.tmps.getD 32 undef,a'.tmps.getD 33 undef,a'.tmps.getD 34 undef,a'.tmps.getD 35 undef,a'.tmps.getD 36 undef,a'.tmps.getD 37 undef,a'.tmps.getD 38 undef,a'.tmps.getD 39 undef,a'.tmps.getD 40 undef,a'.tmps.getD 41 undef,a'.tmps.getD 42 undef,a'.tmps.getD 43 undef,a'.tmps.getD 44 undef,a'.tmps.getD 45 undef,?_⟩
 obtain ⟨tm,df⟩:=a';obtain rfl:df=[]:=hd;have e:=arr_mapL tm 83 hz;have hf:=fun s (h:s ∈ FSV)=>hfx s h;have h9':tm.getD 9 undef=v9:=h9
 congr 1
 rw [e];show (List.map (fun i=>tm.getD i undef) (List.range 83)).toArray=_;have e0:tm.getD 0 undef=a.tmps.getD 0 undef:=hf 0 (by decide);have e1:tm.getD 1 undef=a.tmps.getD 1 undef:=hf 1 (by decide);have e2:tm.getD 2 undef=a.tmps.getD 2 undef:=hf 2 (by decide);have e3:tm.getD 3 undef=a.tmps.getD 3 undef:=hf 3 (by decide);have e4:tm.getD 4 undef=a.tmps.getD 4 undef:=hf 4 (by decide);have e5:tm.getD 5 undef=a.tmps.getD 5 undef:=hf 5 (by decide);have e6:tm.getD 6 undef=a.tmps.getD 6 undef:=hf 6 (by decide);have e7:tm.getD 7 undef=a.tmps.getD 7 undef:=hf 7 (by decide);have e8:tm.getD 8 undef=a.tmps.getD 8 undef:=hf 8 (by decide);have e10:tm.getD 10 undef=a.tmps.getD 10 undef:=hf 10 (by decide);have e11:tm.getD 11 undef=a.tmps.getD 11 undef:=hf 11 (by decide);have e12:tm.getD 12 undef=a.tmps.getD 12 undef:=hf 12 (by decide);have e13:tm.getD 13 undef=a.tmps.getD 13 undef:=hf 13 (by decide);have e14:tm.getD 14 undef=a.tmps.getD 14 undef:=hf 14 (by decide);have e15:tm.getD 15 undef=a.tmps.getD 15 undef:=hf 15 (by decide);have e16:tm.getD 16 undef=a.tmps.getD 16 undef:=hf 16 (by decide);have e17:tm.getD 17 undef=a.tmps.getD 17 undef:=hf 17 (by decide);have e18:tm.getD 18 undef=a.tmps.getD 18 undef:=hf 18 (by decide);have e19:tm.getD 19 undef=a.tmps.getD 19 undef:=hf 19 (by decide);have e20:tm.getD 20 undef=a.tmps.getD 20 undef:=hf 20 (by decide);have e21:tm.getD 21 undef=a.tmps.getD 21 undef:=hf 21 (by decide);have e22:tm.getD 22 undef=a.tmps.getD 22 undef:=hf 22 (by decide);have e23:tm.getD 23 undef=a.tmps.getD 23 undef:=hf 23 (by decide);have e24:tm.getD 24 undef=a.tmps.getD 24 undef:=hf 24 (by decide);have e25:tm.getD 25 undef=a.tmps.getD 25 undef:=hf 25 (by decide);have e26:tm.getD 26 undef=a.tmps.getD 26 undef:=hf 26 (by decide);have e27:tm.getD 27 undef=a.tmps.getD 27 undef:=hf 27 (by decide);have e28:tm.getD 28 undef=a.tmps.getD 28 undef:=hf 28 (by decide);have e29:tm.getD 29 undef=a.tmps.getD 29 undef:=hf 29 (by decide);have e30:tm.getD 30 undef=a.tmps.getD 30 undef:=hf 30 (by decide);have e46:tm.getD 46 undef=a.tmps.getD 46 undef:=hf 46 (by decide);have e47:tm.getD 47 undef=a.tmps.getD 47 undef:=hf 47 (by decide);have e48:tm.getD 48 undef=a.tmps.getD 48 undef:=hf 48 (by decide);have e49:tm.getD 49 undef=a.tmps.getD 49 undef:=hf 49 (by decide);have e50:tm.getD 50 undef=a.tmps.getD 50 undef:=hf 50 (by decide);have e51:tm.getD 51 undef=a.tmps.getD 51 undef:=hf 51 (by decide);have e52:tm.getD 52 undef=a.tmps.getD 52 undef:=hf 52 (by decide);have e53:tm.getD 53 undef=a.tmps.getD 53 undef:=hf 53 (by decide);have e54:tm.getD 54 undef=a.tmps.getD 54 undef:=hf 54 (by decide);have e55:tm.getD 55 undef=a.tmps.getD 55 undef:=hf 55 (by decide);have e56:tm.getD 56 undef=a.tmps.getD 56 undef:=hf 56 (by decide);have e57:tm.getD 57 undef=a.tmps.getD 57 undef:=hf 57 (by decide);have e58:tm.getD 58 undef=a.tmps.getD 58 undef:=hf 58 (by decide);have e59:tm.getD 59 undef=a.tmps.getD 59 undef:=hf 59 (by decide);have e60:tm.getD 60 undef=a.tmps.getD 60 undef:=hf 60 (by decide);have e61:tm.getD 61 undef=a.tmps.getD 61 undef:=hf 61 (by decide);have e62:tm.getD 62 undef=a.tmps.getD 62 undef:=hf 62 (by decide);have e63:tm.getD 63 undef=a.tmps.getD 63 undef:=hf 63 (by decide);have e64:tm.getD 64 undef=a.tmps.getD 64 undef:=hf 64 (by decide);have e65:tm.getD 65 undef=a.tmps.getD 65 undef:=hf 65 (by decide);have e66:tm.getD 66 undef=a.tmps.getD 66 undef:=hf 66 (by decide);have e67:tm.getD 67 undef=a.tmps.getD 67 undef:=hf 67 (by decide);have e68:tm.getD 68 undef=a.tmps.getD 68 undef:=hf 68 (by decide);have e69:tm.getD 69 undef=a.tmps.getD 69 undef:=hf 69 (by decide);have e70:tm.getD 70 undef=a.tmps.getD 70 undef:=hf 70 (by decide);have e71:tm.getD 71 undef=a.tmps.getD 71 undef:=hf 71 (by decide);have e72:tm.getD 72 undef=a.tmps.getD 72 undef:=hf 72 (by decide);have e73:tm.getD 73 undef=a.tmps.getD 73 undef:=hf 73 (by decide);have e74:tm.getD 74 undef=a.tmps.getD 74 undef:=hf 74 (by decide);have e75:tm.getD 75 undef=a.tmps.getD 75 undef:=hf 75 (by decide);have e76:tm.getD 76 undef=a.tmps.getD 76 undef:=hf 76 (by decide);have e77:tm.getD 77 undef=a.tmps.getD 77 undef:=hf 77 (by decide);have e78:tm.getD 78 undef=a.tmps.getD 78 undef:=hf 78 (by decide);have e79:tm.getD 79 undef=a.tmps.getD 79 undef:=hf 79 (by decide);have e80:tm.getD 80 undef=a.tmps.getD 80 undef:=hf 80 (by decide);have e81:tm.getD 81 undef=a.tmps.getD 81 undef:=hf 81 (by decide);have e82:tm.getD 82 undef=a.tmps.getD 82 undef:=hf 82 (by decide);rw [<- h9',<- e0,<- e1,<- e2,<- e3,<- e4,<- e5,<- e6,<- e7,<- e8,<- e10,<- e11,<- e12,<- e13,<- e14,<- e15,<- e16,<- e17,<- e18,<- e19,<- e20,<- e21,<- e22,<- e23,<- e24,<- e25,<- e26,<- e27,<- e28,<- e29,<- e30,<- e46,<- e47,<- e48,<- e49,<- e50,<- e51,<- e52,<- e53,<- e54,<- e55,<- e56,<- e57,<- e58,<- e59,<- e60,<- e61,<- e62,<- e63,<- e64,<- e65,<- e66,<- e67,<- e68,<- e69,<- e70,<- e71,<- e72,<- e73,<- e74,<- e75,<- e76,<- e77,<- e78,<- e79,<- e80,<- e81,<- e82]
 rfl
structure VO0 (g:GVw):Prop where
 itm:g.W.heap[g.ob]?=some (.cells #[.string g.x.kind,.string g.x.name,.int .i64 g.x.spot.f0,.int .i64 g.x.spot.f1,.int .i64 g.x.spot.f2,.slice g.A5 g.n5 g.c5] 78 (0,0))
 und:∀ V,Below g.W.heap.size g.W V->Calls Tryz.prog 73 #[.slice g.Ar tab.length g.cr,.string g.x.kind,.string ⟨#[]⟩,.string ⟨#[]⟩] V fun ev w'=>(∃ v,ev=.returned v/\Kd.R (Kd.fixed kRow V) 60 w' V.heap.size (fun _=>True) v g.I)/\Below V.heap.size V w'
 lai:∀ V Ai ci,Below g.W.heap.size g.W V->Kd.C kRow V Ai g.I.length g.I->Calls Tryz.prog 80 #[.slice g.Ar tab.length g.cr,.string g.x.kind,.slice Ai g.I.length ci,.slice g.A5 g.n5 g.c5] V fun ev w'=>Below V.heap.size V w'/\∃ v,ev=.returned v/\Kd.R k50 50 w' V.heap.size (fun _=>True) v g.ps
theorem regionVW {P:Program} {ops:Array Oper} {Q:Exit->Act->World->Prop} {a:Act} (g:GVw) (hop:ops=OPV) (hP:P=Tryz.prog) {id:Nat} (O:VO0 g) (hm:P.follows .mixedOrders=true) (hd:a.defers=[]) (hz:a.tmps.size=83) (s4:a.tmps.getD 4 undef=.slice g.Ar tab.length g.cr) (s8:a.tmps.getD 8 undef=ptR g.ob 0)
  (hfin:∀ w' k Ap cp,Below g.W.heap.size g.W w'->g.W.heap.size<=k->w'.heap[k]?=some (.cells #[.string g.x.kind,.string g.x.name,.int .i64 0,.int .i64 0,.int .i64 0,.slice Ap g.ps.length cp,.bool false,.string ⟨#[]⟩] 44 (0,0))->g.row w' (.slice Ap g.ps.length cp)->∀ u31 u32 u33 u34 u35 u36 u37 u38 u39 u40 u41 u42 u43 u44 u45:Value,Q .normal { tmps:=(a.tmps.getD 0 undef :: a.tmps.getD 1 undef :: a.tmps.getD 2 undef :: a.tmps.getD 3 undef :: a.tmps.getD 4 undef :: a.tmps.getD 5 undef :: a.tmps.getD 6 undef :: a.tmps.getD 7 undef :: a.tmps.getD 8 undef :: ptR k 0 :: a.tmps.getD 10 undef :: a.tmps.getD 11 undef :: a.tmps.getD 12 undef :: a.tmps.getD 13 undef :: a.tmps.getD 14 undef :: a.tmps.getD 15 undef :: a.tmps.getD 16 undef :: a.tmps.getD 17 undef :: a.tmps.getD 18 undef :: a.tmps.getD 19 undef :: a.tmps.getD 20 undef :: a.tmps.getD 21 undef :: a.tmps.getD 22 undef :: a.tmps.getD 23 undef :: a.tmps.getD 24 undef :: a.tmps.getD 25 undef :: a.tmps.getD 26 undef :: a.tmps.getD 27 undef :: a.tmps.getD 28 undef :: a.tmps.getD 29 undef :: a.tmps.getD 30 undef :: u31 :: u32 :: u33 :: u34 :: u35 :: u36 :: u37 :: u38 :: u39 :: u40 :: u41 :: u42 :: u43 :: u44 :: u45 :: a.tmps.getD 46 undef :: a.tmps.getD 47 undef :: a.tmps.getD 48 undef :: a.tmps.getD 49 undef :: a.tmps.getD 50 undef :: a.tmps.getD 51 undef :: a.tmps.getD 52 undef :: a.tmps.getD 53 undef :: a.tmps.getD 54 undef :: a.tmps.getD 55 undef :: a.tmps.getD 56 undef :: a.tmps.getD 57 undef :: a.tmps.getD 58 undef :: a.tmps.getD 59 undef :: a.tmps.getD 60 undef :: a.tmps.getD 61 undef :: a.tmps.getD 62 undef :: a.tmps.getD 63 undef :: a.tmps.getD 64 undef :: a.tmps.getD 65 undef :: a.tmps.getD 66 undef :: a.tmps.getD 67 undef :: a.tmps.getD 68 undef :: a.tmps.getD 69 undef :: a.tmps.getD 70 undef :: a.tmps.getD 71 undef :: a.tmps.getD 72 undef :: a.tmps.getD 73 undef :: a.tmps.getD 74 undef :: a.tmps.getD 75 undef :: a.tmps.getD 76 undef :: a.tmps.getD 77 undef :: a.tmps.getD 78 undef :: a.tmps.getD 79 undef :: a.tmps.getD 80 undef :: a.tmps.getD 81 undef :: a.tmps.getD 82 undef :: []).toArray,defers:=[] } w'):(Code.region id ops true).wp P Q a g.W:=by
 have hmem:∀ s v,s ∈ FSV->a.tmps.getD s undef=v->(s,v) ∈ FSV.map (fun s=>(s,a.tmps.getD s undef)):=fun s v h e=>List.mem_map.2 ⟨s,h,by rw [e]⟩
 refine regionV (g:={ g with fx:=FSV.map (fun s=>(s,a.tmps.getD s undef)) }) hop hP ⟨by simp [List.map_map,Function.comp_def],hmem 4 _ (by decide) s4,hmem 8 _ (by decide) s8,O.itm,O.und,O.lai⟩ hm hd hz (fun p hp=>by
  obtain ⟨s,_,rfl⟩:=List.mem_map.1 hp
  rfl) (fun a' w' k Ap cp h1 h2 h3 h4 h5 h6 h7 h8=>?_)
 obtain ⟨u31,u32,u33,u34,u35,u36,u37,u38,u39,u40,u41,u42,u43,u44,u45,rfl⟩:=act_litV (a:=a) h1 h2 (fun s hs=>h3 (s,a.tmps.getD s undef) (hmem s _ hs rfl)) h5;exact hfin w' k Ap cp h4 h6 h7 h8 u31 u32 u33 u34 u35 u36 u37 u38 u39 u40 u41 u42 u43 u44 u45
end Go.Proofs.YtmfejjlmflgnbaaGreatDoor.Sc

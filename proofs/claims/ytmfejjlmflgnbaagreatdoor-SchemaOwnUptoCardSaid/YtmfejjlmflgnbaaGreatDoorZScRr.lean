/- CONTRACT: the document's Rows: the table, new each time (one literal of 49 rows, operation by operation). -/
import Derived.Test.YtmfejjlmflgnbaaGreatDoorZRows0
namespace Go.Proofs.YtmfejjlmflgnbaaGreatDoor.Sc
open Go.RowKit Go.Proofs.YtmfejjlmflgnbaaGreatDoor.PA Go.Proofs.YtmfejjlmflgnbaaGreatDoorW.PrintWords Go.Proofs.YtmfejjlmflgnbaaGreatDoorW.PrintLast Go.Proofs.YtmfejjlmflgnbaaGreatDoorW.PrintMore Go.Proofs.YtmfejjlmflgnbaaGreatDoor.Sp Go.Proofs.YtmfejjlmflgnbaaGreatDoor.Tr Go.Proofs.YtmfejjlmflgnbaaGreatDoor.Tok
set_option linter.unusedVariables false
set_option linter.unusedSimpArgs false
set_option maxRecDepth 100000
noncomputable def OPR:Array Oper:=opsOf Tryz.f26 1
theorem opr_size:OPR.size=87:=by kernel_rfl
inductive RR where
 | wd (l:List ByteArray)
 | un (a b:ByteArray)
 | ro (x:SR)
 | fin
def Gr (B:Nat) (w:World):RR→Value→Prop
 | .wd l,v=>Kd.R Kd.string 9 w B (fun _=>True) v l
 | .un a b,v=>v=.agg #[.string a,.string b]
 | .ro x,v=>∃ cs:List Value,v=.agg cs.toArray∧kRow.M w B (fun _=>True) x cs
 | .fin,v=>Kd.R kRow 60 w B (fun _=>True) v tab
theorem Gr.below {B:Nat} {w w':World} {k:RR} {v:Value} (h:Gr B w k v) (hB:Below w.heap.size w w'):Gr B w' k v:=by
 cases k with
 | wd l=>exact Kd.R_below h hB
 | un a b=>exact h
 | ro x=>obtain ⟨cs,h1,h2⟩:=h;exact ⟨cs,h1,Kd.M_below h2 hB⟩
 | fin=>exact Kd.R_below h hB
def KRL:List RR:=[
 .wd [⟨#[83,84,65,78,68,65,82,68]⟩,⟨#[69,88,84,69,78,68,69,68]⟩],
 .ro (tab.getD 0 zRow),
 .wd [⟨#[84,82,85,69]⟩,⟨#[70,65,76,83,69]⟩],
 .ro (tab.getD 1 zRow),
 .wd [⟨#[84,82,85,69]⟩,⟨#[70,65,76,83,69]⟩],
 .ro (tab.getD 2 zRow),
 .wd [⟨#[84,82,85,69]⟩,⟨#[70,65,76,83,69]⟩],
 .ro (tab.getD 3 zRow),
 .wd [⟨#[84,82,85,69]⟩,⟨#[70,65,76,83,69]⟩],
 .ro (tab.getD 4 zRow),
 .wd [⟨#[84,82,85,69]⟩,⟨#[70,65,76,83,69]⟩],
 .ro (tab.getD 5 zRow),
 .wd [⟨#[84,82,85,69]⟩,⟨#[70,65,76,83,69]⟩],
 .ro (tab.getD 6 zRow),
 .wd [⟨#[84,82,85,69]⟩,⟨#[70,65,76,83,69]⟩],
 .ro (tab.getD 7 zRow),
 .wd [⟨#[84,82,85,69]⟩,⟨#[70,65,76,83,69]⟩],
 .ro (tab.getD 8 zRow),
 .ro (tab.getD 9 zRow),
 .wd [⟨#[78,79,78]⟩,⟨#[70,85,76,76]⟩],
 .ro (tab.getD 10 zRow),
 .ro (tab.getD 11 zRow),
 .wd [⟨#[84,82,85,69]⟩,⟨#[70,65,76,83,69]⟩],
 .ro (tab.getD 12 zRow),
 .un ⟨#[65,85,84,79,83,84,65,82,84]⟩ ⟨#[84,82,85,69]⟩,
 .ro (tab.getD 13 zRow),
 .ro (tab.getD 14 zRow),
 .ro (tab.getD 15 zRow),
 .ro (tab.getD 16 zRow),
 .ro (tab.getD 17 zRow),
 .ro (tab.getD 18 zRow),
 .ro (tab.getD 19 zRow),
 .ro (tab.getD 20 zRow),
 .wd [⟨#[83,84,65,78,68,65,82,68]⟩,⟨#[76,73,78,75,69,68]⟩,⟨#[73,78,84,69,82,78,65,76]⟩],
 .ro (tab.getD 21 zRow),
 .un ⟨#[82,69,83,79,85,82,67,69,80,82,79,80,69,82,84,89]⟩ ⟨#[76,73,78,75,69,68]⟩,
 .ro (tab.getD 22 zRow),
 .ro (tab.getD 23 zRow),
 .ro (tab.getD 24 zRow),
 .ro (tab.getD 25 zRow),
 .ro (tab.getD 26 zRow),
 .ro (tab.getD 27 zRow),
 .wd [⟨#[65,67,84,73,86,65,84,69,84,65,83,75]⟩,⟨#[83,69,84,69,86,69,78,84]⟩,⟨#[65,76,65,82,77,67,65,76,76,66,65,67,75]⟩],
 .ro (tab.getD 28 zRow),
 .un ⟨#[65,67,84,73,79,78]⟩ ⟨#[65,67,84,73,86,65,84,69,84,65,83,75]⟩,
 .ro (tab.getD 29 zRow),
 .un ⟨#[65,67,84,73,79,78]⟩ ⟨#[83,69,84,69,86,69,78,84]⟩,
 .ro (tab.getD 30 zRow),
 .un ⟨#[65,67,84,73,79,78]⟩ ⟨#[83,69,84,69,86,69,78,84]⟩,
 .ro (tab.getD 31 zRow),
 .un ⟨#[65,67,84,73,79,78]⟩ ⟨#[65,76,65,82,77,67,65,76,76,66,65,67,75]⟩,
 .ro (tab.getD 32 zRow),
 .wd [⟨#[84,82,85,69]⟩,⟨#[70,65,76,83,69]⟩],
 .ro (tab.getD 33 zRow),
 .un ⟨#[65,85,84,79,83,84,65,82,84]⟩ ⟨#[84,82,85,69]⟩,
 .ro (tab.getD 34 zRow),
 .un ⟨#[65,85,84,79,83,84,65,82,84]⟩ ⟨#[84,82,85,69]⟩,
 .ro (tab.getD 35 zRow),
 .un ⟨#[65,85,84,79,83,84,65,82,84]⟩ ⟨#[84,82,85,69]⟩,
 .ro (tab.getD 36 zRow),
 .wd [⟨#[83,69,78,68,95,83,84,65,84,73,67,95,73,78,84,69,82,78,65,76]⟩,⟨#[82,69,67,69,73,86,69,95,85,78,81,85,69,85,69,68,95,73,78,84,69,82,78,65,76]⟩,⟨#[82,69,67,69,73,86,69,95,81,85,69,85,69,68,95,73,78,84,69,82,78,65,76]⟩],
 .ro (tab.getD 37 zRow),
 .un ⟨#[77,69,83,83,65,71,69,80,82,79,80,69,82,84,89]⟩ ⟨#[83,69,78,68,95,83,84,65,84,73,67,95,73,78,84,69,82,78,65,76]⟩,
 .wd [⟨#[117,105,110,116,56]⟩,⟨#[117,105,110,116,49,54]⟩,⟨#[117,105,110,116,51,50]⟩,⟨#[117,105,110,116,54,52]⟩],
 .ro (tab.getD 38 zRow),
 .un ⟨#[77,69,83,83,65,71,69,80,82,79,80,69,82,84,89]⟩ ⟨#[82,69,67,69,73,86,69,95,85,78,81,85,69,85,69,68,95,73,78,84,69,82,78,65,76]⟩,
 .ro (tab.getD 39 zRow),
 .un ⟨#[77,69,83,83,65,71,69,80,82,79,80,69,82,84,89]⟩ ⟨#[82,69,67,69,73,86,69,95,85,78,81,85,69,85,69,68,95,73,78,84,69,82,78,65,76]⟩,
 .ro (tab.getD 40 zRow),
 .un ⟨#[77,69,83,83,65,71,69,80,82,79,80,69,82,84,89]⟩ ⟨#[82,69,67,69,73,86,69,95,81,85,69,85,69,68,95,73,78,84,69,82,78,65,76]⟩,
 .ro (tab.getD 41 zRow),
 .un ⟨#[77,69,83,83,65,71,69,80,82,79,80,69,82,84,89]⟩ ⟨#[82,69,67,69,73,86,69,95,81,85,69,85,69,68,95,73,78,84,69,82,78,65,76]⟩,
 .ro (tab.getD 42 zRow),
 .wd [⟨#[78,79,78,69]⟩,⟨#[65,67,84,73,86,65,84,69,84,65,83,75]⟩,⟨#[83,69,84,69,86,69,78,84]⟩,⟨#[67,79,77,67,65,76,76,66,65,67,75]⟩,⟨#[70,76,65,71]⟩],
 .ro (tab.getD 43 zRow),
 .un ⟨#[78,79,84,73,70,73,67,65,84,73,79,78]⟩ ⟨#[65,67,84,73,86,65,84,69,84,65,83,75]⟩,
 .ro (tab.getD 44 zRow),
 .un ⟨#[78,79,84,73,70,73,67,65,84,73,79,78]⟩ ⟨#[83,69,84,69,86,69,78,84]⟩,
 .ro (tab.getD 45 zRow),
 .un ⟨#[78,79,84,73,70,73,67,65,84,73,79,78]⟩ ⟨#[83,69,84,69,86,69,78,84]⟩,
 .ro (tab.getD 46 zRow),
 .un ⟨#[78,79,84,73,70,73,67,65,84,73,79,78]⟩ ⟨#[67,79,77,67,65,76,76,66,65,67,75]⟩,
 .ro (tab.getD 47 zRow),
 .un ⟨#[78,79,84,73,70,73,67,65,84,73,79,78]⟩ ⟨#[70,76,65,71]⟩,
 .ro (tab.getD 48 zRow),
 .fin]
def kr (i:Nat):RR:=KRL.getD (i - 1) .fin
def SLR:List Nat:=[2,4,6,8,10,12,14,16,18,19,21,22,24,26,27,28,29,30,31,32,33,35,37,38,39,40,41,42,44,46,48,50,52,54,56,58,60,62,65,67,69,71,73,75,77,79,81,83,85]
def rrOf:RR→SR
 | .ro x=>x
 | _=>zRow
def isRr:RR→Bool
 | .ro _=>true
 | _=>false
structure JR (B:Nat) (w0:World) (i:Nat) (a:Act) (w:World):Prop where
 df:a.defers=[]
 sz:a.tmps.size=87
 bel:Below B w0 w
 bas:B≤w0.heap.size
 gd:∀ j,0<j→j<i→j<87→Gr B w (kr j) (a.tmps.getD j undef)
 fn:i=88→Kd.R kRow 60 w B (fun _=>True) (a.tmps.getD 0 undef) tab
theorem JR.put {B:Nat} {w0:World} {i:Nat} {a:Act} {w w':World} {v:Value} (h:JR B w0 i a w) (h0:0<i) (hi:i<87) (hB:Below w.heap.size w w') (hnew:Gr B w' (kr i) v):JR B w0 (i + 1) (a.put (some i) v) w' where
 df:=h.df
 sz:=by show (a.tmps.setIfInBounds i v).size=87;simp [h.sz]
 bel:=h.bel.trans (hB.mono (Nat.le_trans h.bas h.bel.size))
 bas:=h.bas
 gd:=fun j h1 h2 h3=>by
  rw [put_getD a _ _ _ (by rw [h.sz];exact hi)]
  by_cases e:i=j
  ·subst e;rw [if_pos rfl];exact hnew
  ·rw [if_neg e]
   exact (h.gd j h1 (by omega) h3).below hB
 fn:=fun e=>by omega
section
variable {Q:Exit→Act→World→Prop} {B:Nat} {w0:World} {a:Act} {w:World} {i:Nat}
theorem jr_below (h:JR B w0 i a w):B≤w.heap.size:=Nat.le_trans h.bas h.bel.size
theorem rstep_value {K:Act→World→Prop} {d:Nat} {op:Op} {v:Value} {w1:World} (ho:(OPR[i - 1]?).map (fun o=>(o.op,o.dst,o.guard))=some (op,some d,none))
  (hrun:∀ o:Oper,o.op=op→(execOp a.eval o).run Tryz.prog w=.ok (.value v) w1) (h:K (a.put (some d) v) w1):wpOp Tryz.prog OPR Q (i - 1) K a w:=by
 cases hO:OPR[i - 1]? with
 | none=>rw [hO] at ho;cases ho
 | some o =>
  rw [hO] at ho
  simp only [Option.map_some,Option.some.injEq,Prod.mk.injEq] at ho
  have h3:Region.wanted o (yielded OPR a.tmps)=true:=by unfold Region.wanted;rw [ho.2.2]
  refine wpOp_step hO (fun K' hK=>?_)
  rw [ho.2.1]
  exact value_ h3 ho.2.1 (hrun o ho.1) (hK _ _ h)
theorem rop_87 (h:JR B w0 87 a w):wpOp Tryz.prog OPR Q 86 (JR B w0 88) a w :=
 rstep_value (i:=87) (d:=0) (op:=.assign (.tmp 86)) (v:=a.tmps.getD 86 undef) (w1:=w) (by kernel_rfl) (fun o ho=>by unfold execOp;rw [ho];rfl)
  ⟨h.df,by show (a.tmps.setIfInBounds 0 _).size=87;simp [h.sz],h.bel,h.bas,fun j h1 h2 h3=>by
   rw [put_getD a _ _ _ (by rw [h.sz];decide),if_neg (by omega)]
   exact h.gd j h1 (by omega) h3,fun _=>by
   rw [put_getD a _ _ _ (by rw [h.sz];decide),if_pos rfl]
   exact h.gd 86 (by decide) (by decide) (by decide)⟩
theorem rstep_wd (h0:0<i) (hi:i<87) (ws:List ByteArray) (hm:ws.length≤1000) {op:Op} (ho:(OPR[i - 1]?).map (fun o=>(o.op,o.dst,o.guard))=some (op,some i,none)) (hk:kr i=.wd ws)
  (hrun:∀ o:Oper,o.op=op→(execOp a.eval o).run Tryz.prog w=.ok (.value (.slice (some ⟨w.heap.size,0,none⟩) ws.length ws.length)) (w.alloc (.cells (encs Value.string ws).toArray 9)))
  (h:JR B w0 i a w):wpOp Tryz.prog OPR Q (i - 1) (JR B w0 (i + 1)) a w :=
 rstep_value ho hrun (h.put h0 hi (alloc_below _ _) (by
  rw [hk]
  exact words_lit w ws B _ (jr_below h) trivial hm))
theorem rstep_un (h0:0<i) (hi:i<87) (s t:ByteArray) (ho:(OPR[i - 1]?).map (fun o=>(o.op,o.dst,o.guard))=some (.build 56 #[(0,.const (.string s)),(1,.const (.string t))],some i,none)) (hk:kr i=.un s t)
  (h:JR B w0 i a w):wpOp Tryz.prog OPR Q (i - 1) (JR B w0 (i + 1)) a w :=
 rstep_value (v:=.agg #[.string s,.string t]) (w1:=w) ho (by intro o ho;cases o;cases ho;kernel_rfl) (h.put h0 hi (Below.refl _ _) (by
  rw [hk]
  exact rfl))
def rowA (x:SR) (v5:Value):Value:=.agg #[.string x.obj,.string x.un,.string x.uw,.string x.name,.int .i64 x.want,v5,.int .u32 x.lo,.int .u32 x.hi,.bool x.auto,.int .i64 x.times,.string x.dflt]
theorem rstep_gen (h0:0<i) (hi:i<87) (P:Array (Nat × Operand)) (VV:Array (Nat × Value)) {x:SR} {v5:Value} (ho:(OPR[i - 1]?).map (fun o=>(o.op,o.dst,o.guard))=some (.build 60 P,some i,none)) (hk:kr i=.ro x)
  (hp:P.map (fun p=>(p.1,a.eval p.2))=VV) (hrun:(Instr.build 60 VV).run Tryz.prog w=.ok (rowA x v5) w) (hR:Kd.R Kd.string 9 w B (fun _=>True) v5 x.words) (h:JR B w0 i a w):wpOp Tryz.prog OPR Q (i - 1) (JR B w0 (i + 1)) a w :=
 rstep_value (v:=rowA x v5) (w1:=w) ho (fun o hop=>by
  unfold execOp
  rw [hop]
  simp only [hp]
  simp [hrun]) (h.put h0 hi (Below.refl _ _) (by
  rw [hk]
  exact ⟨_,rfl,kRow_mkM w B _ x hR⟩))
theorem rstep_ro (h0:0<i) (hi:i<87) (P:Array (Nat × Operand)) (VV:Array (Nat × Value)) {x:SR} (ho:(OPR[i - 1]?).map (fun o=>(o.op,o.dst,o.guard))=some (.build 60 P,some i,none)) (hk:kr i=.ro x) (hw:x.words=[])
  (hp:P.map (fun p=>(p.1,a.eval p.2))=VV) (hrun:∀ w,(Instr.build 60 VV).run Tryz.prog w=.ok (rowA x (.slice none 0 0)) w) (h:JR B w0 i a w):wpOp Tryz.prog OPR Q (i - 1) (JR B w0 (i + 1)) a w :=
 rstep_gen h0 hi P VV ho hk hp (hrun w) (by rw [hw];exact Kd.R_nil _ _ _ _ _) h
theorem rstep_row (h0:0<i) (hi:i<87) (s:Nat) (hs:0<s∧s<i) (ws:List ByteArray) (P:Array (Nat × Operand)) (VV:Option Addr→Nat→Array (Nat × Value)) {x:SR} (ho:(OPR[i - 1]?).map (fun o=>(o.op,o.dst,o.guard))=some (.build 60 P,some i,none)) (hk:kr i=.ro x) (hks:kr s=.wd ws) (hw:x.words=ws)
  (hp:∀ A5 c5,a.tmps.getD s undef=.slice A5 ws.length c5→P.map (fun p=>(p.1,a.eval p.2))=VV A5 c5) (hrun:∀ A5 c5 w,(Instr.build 60 (VV A5 c5)).run Tryz.prog w=.ok (rowA x (.slice A5 ws.length c5)) w) (h:JR B w0 i a w):wpOp Tryz.prog OPR Q (i - 1) (JR B w0 (i + 1)) a w:=by
 have hg:=h.gd s hs.1 hs.2 (by omega)
 rw [hks] at hg
 obtain ⟨A,c,hv⟩:=RForm (show Kd.R Kd.string 9 w B (fun _=>True) _ ws from hg)
 have hg2:Kd.R Kd.string 9 w B (fun _=>True) (a.tmps.getD s undef) ws:=hg
 rw [hv] at hg2
 exact rstep_gen h0 hi P (VV A c) ho hk (hp A c hv) (hrun A c w) (by rw [hw];exact hg2) h
theorem rstep_rou (h0:0<i) (hi:i<87) (u:Nat) (hu:0<u∧u<i) (s t:ByteArray) (P:Array (Nat × Operand)) (VV:Array (Nat × Value)) {x:SR} (ho:(OPR[i - 1]?).map (fun o=>(o.op,o.dst,o.guard))=some (.build 60 P,some i,none)) (hk:kr i=.ro x) (hku:kr u=.un s t) (hw:x.words=[])
  (hp:a.tmps.getD u undef=.agg #[.string s,.string t]→P.map (fun p=>(p.1,a.eval p.2))=VV) (hrun:∀ w,(Instr.build 60 VV).run Tryz.prog w=.ok (rowA x (.slice none 0 0)) w) (h:JR B w0 i a w):wpOp Tryz.prog OPR Q (i - 1) (JR B w0 (i + 1)) a w:=by
 have hg:=h.gd u hu.1 hu.2 (by omega)
 rw [hku] at hg
 exact rstep_gen h0 hi P VV ho hk (hp hg) (hrun w) (by rw [hw];exact Kd.R_nil _ _ _ _ _) h
theorem rstep_ro2 (h0:0<i) (hi:i<87) (u s:Nat) (hu:0<u∧u<i) (hs:0<s∧s<i) (s1 t1:ByteArray) (ws:List ByteArray) (P:Array (Nat × Operand)) (VV:Option Addr→Nat→Array (Nat × Value)) {x:SR} (ho:(OPR[i - 1]?).map (fun o=>(o.op,o.dst,o.guard))=some (.build 60 P,some i,none)) (hk:kr i=.ro x) (hku:kr u=.un s1 t1) (hks:kr s=.wd ws) (hw:x.words=ws)
  (hp:∀ A5 c5,a.tmps.getD u undef=.agg #[.string s1,.string t1]→a.tmps.getD s undef=.slice A5 ws.length c5→P.map (fun p=>(p.1,a.eval p.2))=VV A5 c5) (hrun:∀ A5 c5 w,(Instr.build 60 (VV A5 c5)).run Tryz.prog w=.ok (rowA x (.slice A5 ws.length c5)) w) (h:JR B w0 i a w):wpOp Tryz.prog OPR Q (i - 1) (JR B w0 (i + 1)) a w:=by
 have hgu:=h.gd u hu.1 hu.2 (by omega)
 rw [hku] at hgu
 have hg:=h.gd s hs.1 hs.2 (by omega)
 rw [hks] at hg
 obtain ⟨A,c,hv⟩:=RForm (show Kd.R Kd.string 9 w B (fun _=>True) _ ws from hg)
 have hg2:Kd.R Kd.string 9 w B (fun _=>True) (a.tmps.getD s undef) ws:=hg
 rw [hv] at hg2
 exact rstep_gen h0 hi P (VV A c) ho hk (hp A c hgu hv) (hrun A c w) (by rw [hw];exact hg2) h
theorem pick_rr:∀ (js:List Nat) (ok:Nat→Prop),(∀ j ∈ js,∃ cs:List Value,a.tmps.getD j undef=.agg cs.toArray∧kRow.M w B ok (rrOf (kr j)) cs)→(∀ s ∈ js,(a.tmps.getD s undef).cells.size=11)∧Reps (kRow.M w B ok) 11 (js.map (fun j=>rrOf (kr j))) (js.map (fun s=>(a.tmps.getD s undef).cells.toList)).flatten
 | [],ok,_=>⟨(fun s hs=>by cases hs),Reps.none _ _⟩
 | j :: js,ok,hj=>by
  obtain ⟨h1,h2⟩:=pick_rr js ok (fun j' h'=>hj j' (List.mem_cons_of_mem _ h'))
  obtain ⟨cs,hv,hM⟩:=hj j List.mem_cons_self
  have hcl:cs.length=11:=kRow.K_len (kRow.K_of_M hM)
  have hcc:(a.tmps.getD j undef).cells.toList=cs:=by rw [hv];rfl
  refine ⟨fun s hs=>?_,?_⟩
  ·rcases List.mem_cons.1 hs with e | e
   ·rw [e,← Array.length_toList,hcc,hcl]
   ·exact h1 s e
  ·rw [List.map_cons,List.map_cons,List.flatten_cons,hcc]
   exact reps_cons h2 hM hcl
theorem rstep_fin (ho:(OPR[85]?).map (fun o=>(o.op,o.dst,o.guard))=some (.buildSlice 53 SLR.length (SLR.zipIdx.map fun p=>(p.2,Operand.tmp p.1)).toArray,some 86,none))
  (hjs:(SLR.all fun j=>isRr (kr j)&&decide (0<j)&&decide (j<86))=true) (htab:SLR.map (fun j=>rrOf (kr j))=tab) (h0:0<SLR.length) (hn:SLR.length≤100) (hk:kr 86=.fin) (hlen:SLR.length=tab.length)
  (h:JR B w0 86 a w):wpOp Tryz.prog OPR Q 85 (JR B w0 87) a w:=by
 have hall:∀ j ∈ SLR,∃ cs:List Value,a.tmps.getD j undef=.agg cs.toArray∧kRow.M w B (fun _=>True) (rrOf (kr j)) cs:=fun j hj=>by
  have hb:=List.all_eq_true.1 hjs j hj
  simp only [Bool.and_eq_true,decide_eq_true_eq] at hb
  obtain ⟨⟨b1,b2⟩,b3⟩:=hb
  have hg:=h.gd j b2 b3 (by omega)
  cases hkj:kr j with
  | ro x=>rw [hkj] at hg;exact hg
  | _=>rw [hkj] at b1;cases b1
 obtain ⟨hl,hreps⟩:=pick_rr (a:=a) SLR _ hall
 rw [htab] at hreps
 refine rstep_value (i:=86) ho (fun o hop=>run_vals (T:=53) (e:=60) (sz:=11) Tryz.underlying53 infoRow rfl (by decide) (by decide) SLR hop hl h0 hn) (h.put (by decide) (by decide) (alloc_below _ _) ?_)
 rw [hk,hlen]
 exact R_made kRow B 60 hreps (fun _ _ _=>trivial) trivial (jr_below h) (by rw [← hlen];omega)
theorem rop_1 (h:JR B w0 1 a w):wpOp Tryz.prog OPR Q 0 (JR B w0 2) a w:=rstep_wd (op:=.buildSlice 51 2 #[(0,.const (.string ⟨#[83,84,65,78,68,65,82,68]⟩)),(1,.const (.string ⟨#[69,88,84,69,78,68,69,68]⟩))]) (i:=1) (by decide) (by decide) [⟨#[83,84,65,78,68,65,82,68]⟩,⟨#[69,88,84,69,78,68,69,68]⟩] (by decide) (by kernel_rfl) rfl (by intro o ho;cases o;cases ho;kernel_rfl) h
theorem rop_2 (h:JR B w0 2 a w):wpOp Tryz.prog OPR Q 1 (JR B w0 3) a w:=rstep_row (i:=2) (by decide) (by decide) 1 (by decide) [⟨#[83,84,65,78,68,65,82,68]⟩,⟨#[69,88,84,69,78,68,69,68]⟩] #[(0,.const (.string ⟨#[79,83]⟩)),(2,.const (.string ⟨#[83,84,65,84,85,83]⟩)),(3,.const (.int .i64 2)),(4,.tmp 1),(8,.const (.int .i64 2)),(9,.const (.string ⟨#[69,88,84,69,78,68,69,68]⟩))] (fun A5 c5=>#[(0,.string ⟨#[79,83]⟩),(2,.string ⟨#[83,84,65,84,85,83]⟩),(3,.int .i64 2),(4,.slice A5 2 c5),(8,.int .i64 2),(9,.string ⟨#[69,88,84,69,78,68,69,68]⟩)]) (by kernel_rfl) rfl rfl rfl (fun A5 c5 hw=>by first | (simp only [List.map_toArray,List.map_cons,List.map_nil,Act.eval,hw];done) | (simp only [List.map_toArray,List.map_cons,List.map_nil,Act.eval,hw];rfl)) (fun A5 c5 w=>by kernel_rfl) h
theorem rop_3 (h:JR B w0 3 a w):wpOp Tryz.prog OPR Q 2 (JR B w0 4) a w:=rstep_wd (op:=.buildSlice 51 2 #[(0,.const (.string ⟨#[84,82,85,69]⟩)),(1,.const (.string ⟨#[70,65,76,83,69]⟩))]) (i:=3) (by decide) (by decide) [⟨#[84,82,85,69]⟩,⟨#[70,65,76,83,69]⟩] (by decide) (by kernel_rfl) rfl (by intro o ho;cases o;cases ho;kernel_rfl) h
theorem rop_4 (h:JR B w0 4 a w):wpOp Tryz.prog OPR Q 3 (JR B w0 5) a w:=rstep_row (i:=4) (by decide) (by decide) 3 (by decide) [⟨#[84,82,85,69]⟩,⟨#[70,65,76,83,69]⟩] #[(0,.const (.string ⟨#[79,83]⟩)),(2,.const (.string ⟨#[83,84,65,82,84,85,80,72,79,79,75]⟩)),(3,.const (.int .i64 2)),(4,.tmp 3),(8,.const (.int .i64 2)),(9,.const (.string ⟨#[70,65,76,83,69]⟩))] (fun A5 c5=>#[(0,.string ⟨#[79,83]⟩),(2,.string ⟨#[83,84,65,82,84,85,80,72,79,79,75]⟩),(3,.int .i64 2),(4,.slice A5 2 c5),(8,.int .i64 2),(9,.string ⟨#[70,65,76,83,69]⟩)]) (by kernel_rfl) rfl rfl rfl (fun A5 c5 hw=>by first | (simp only [List.map_toArray,List.map_cons,List.map_nil,Act.eval,hw];done) | (simp only [List.map_toArray,List.map_cons,List.map_nil,Act.eval,hw];rfl)) (fun A5 c5 w=>by kernel_rfl) h
theorem rop_5 (h:JR B w0 5 a w):wpOp Tryz.prog OPR Q 4 (JR B w0 6) a w:=rstep_wd (op:=.buildSlice 51 2 #[(0,.const (.string ⟨#[84,82,85,69]⟩)),(1,.const (.string ⟨#[70,65,76,83,69]⟩))]) (i:=5) (by decide) (by decide) [⟨#[84,82,85,69]⟩,⟨#[70,65,76,83,69]⟩] (by decide) (by kernel_rfl) rfl (by intro o ho;cases o;cases ho;kernel_rfl) h
theorem rop_6 (h:JR B w0 6 a w):wpOp Tryz.prog OPR Q 5 (JR B w0 7) a w:=rstep_row (i:=6) (by decide) (by decide) 5 (by decide) [⟨#[84,82,85,69]⟩,⟨#[70,65,76,83,69]⟩] #[(0,.const (.string ⟨#[79,83]⟩)),(2,.const (.string ⟨#[69,82,82,79,82,72,79,79,75]⟩)),(3,.const (.int .i64 2)),(4,.tmp 5),(8,.const (.int .i64 2)),(9,.const (.string ⟨#[70,65,76,83,69]⟩))] (fun A5 c5=>#[(0,.string ⟨#[79,83]⟩),(2,.string ⟨#[69,82,82,79,82,72,79,79,75]⟩),(3,.int .i64 2),(4,.slice A5 2 c5),(8,.int .i64 2),(9,.string ⟨#[70,65,76,83,69]⟩)]) (by kernel_rfl) rfl rfl rfl (fun A5 c5 hw=>by first | (simp only [List.map_toArray,List.map_cons,List.map_nil,Act.eval,hw];done) | (simp only [List.map_toArray,List.map_cons,List.map_nil,Act.eval,hw];rfl)) (fun A5 c5 w=>by kernel_rfl) h
theorem rop_7 (h:JR B w0 7 a w):wpOp Tryz.prog OPR Q 6 (JR B w0 8) a w:=rstep_wd (op:=.buildSlice 51 2 #[(0,.const (.string ⟨#[84,82,85,69]⟩)),(1,.const (.string ⟨#[70,65,76,83,69]⟩))]) (i:=7) (by decide) (by decide) [⟨#[84,82,85,69]⟩,⟨#[70,65,76,83,69]⟩] (by decide) (by kernel_rfl) rfl (by intro o ho;cases o;cases ho;kernel_rfl) h
theorem rop_8 (h:JR B w0 8 a w):wpOp Tryz.prog OPR Q 7 (JR B w0 9) a w:=rstep_row (i:=8) (by decide) (by decide) 7 (by decide) [⟨#[84,82,85,69]⟩,⟨#[70,65,76,83,69]⟩] #[(0,.const (.string ⟨#[79,83]⟩)),(2,.const (.string ⟨#[83,72,85,84,68,79,87,78,72,79,79,75]⟩)),(3,.const (.int .i64 2)),(4,.tmp 7),(8,.const (.int .i64 2)),(9,.const (.string ⟨#[70,65,76,83,69]⟩))] (fun A5 c5=>#[(0,.string ⟨#[79,83]⟩),(2,.string ⟨#[83,72,85,84,68,79,87,78,72,79,79,75]⟩),(3,.int .i64 2),(4,.slice A5 2 c5),(8,.int .i64 2),(9,.string ⟨#[70,65,76,83,69]⟩)]) (by kernel_rfl) rfl rfl rfl (fun A5 c5 hw=>by first | (simp only [List.map_toArray,List.map_cons,List.map_nil,Act.eval,hw];done) | (simp only [List.map_toArray,List.map_cons,List.map_nil,Act.eval,hw];rfl)) (fun A5 c5 w=>by kernel_rfl) h
theorem rop_9 (h:JR B w0 9 a w):wpOp Tryz.prog OPR Q 8 (JR B w0 10) a w:=rstep_wd (op:=.buildSlice 51 2 #[(0,.const (.string ⟨#[84,82,85,69]⟩)),(1,.const (.string ⟨#[70,65,76,83,69]⟩))]) (i:=9) (by decide) (by decide) [⟨#[84,82,85,69]⟩,⟨#[70,65,76,83,69]⟩] (by decide) (by kernel_rfl) rfl (by intro o ho;cases o;cases ho;kernel_rfl) h
theorem rop_10 (h:JR B w0 10 a w):wpOp Tryz.prog OPR Q 9 (JR B w0 11) a w:=rstep_row (i:=10) (by decide) (by decide) 9 (by decide) [⟨#[84,82,85,69]⟩,⟨#[70,65,76,83,69]⟩] #[(0,.const (.string ⟨#[79,83]⟩)),(2,.const (.string ⟨#[80,82,69,84,65,83,75,72,79,79,75]⟩)),(3,.const (.int .i64 2)),(4,.tmp 9),(8,.const (.int .i64 2)),(9,.const (.string ⟨#[70,65,76,83,69]⟩))] (fun A5 c5=>#[(0,.string ⟨#[79,83]⟩),(2,.string ⟨#[80,82,69,84,65,83,75,72,79,79,75]⟩),(3,.int .i64 2),(4,.slice A5 2 c5),(8,.int .i64 2),(9,.string ⟨#[70,65,76,83,69]⟩)]) (by kernel_rfl) rfl rfl rfl (fun A5 c5 hw=>by first | (simp only [List.map_toArray,List.map_cons,List.map_nil,Act.eval,hw];done) | (simp only [List.map_toArray,List.map_cons,List.map_nil,Act.eval,hw];rfl)) (fun A5 c5 w=>by kernel_rfl) h
theorem rop_11 (h:JR B w0 11 a w):wpOp Tryz.prog OPR Q 10 (JR B w0 12) a w:=rstep_wd (op:=.buildSlice 51 2 #[(0,.const (.string ⟨#[84,82,85,69]⟩)),(1,.const (.string ⟨#[70,65,76,83,69]⟩))]) (i:=11) (by decide) (by decide) [⟨#[84,82,85,69]⟩,⟨#[70,65,76,83,69]⟩] (by decide) (by kernel_rfl) rfl (by intro o ho;cases o;cases ho;kernel_rfl) h
theorem rop_12 (h:JR B w0 12 a w):wpOp Tryz.prog OPR Q 11 (JR B w0 13) a w:=rstep_row (i:=12) (by decide) (by decide) 11 (by decide) [⟨#[84,82,85,69]⟩,⟨#[70,65,76,83,69]⟩] #[(0,.const (.string ⟨#[79,83]⟩)),(2,.const (.string ⟨#[80,79,83,84,84,65,83,75,72,79,79,75]⟩)),(3,.const (.int .i64 2)),(4,.tmp 11),(8,.const (.int .i64 2)),(9,.const (.string ⟨#[70,65,76,83,69]⟩))] (fun A5 c5=>#[(0,.string ⟨#[79,83]⟩),(2,.string ⟨#[80,79,83,84,84,65,83,75,72,79,79,75]⟩),(3,.int .i64 2),(4,.slice A5 2 c5),(8,.int .i64 2),(9,.string ⟨#[70,65,76,83,69]⟩)]) (by kernel_rfl) rfl rfl rfl (fun A5 c5 hw=>by first | (simp only [List.map_toArray,List.map_cons,List.map_nil,Act.eval,hw];done) | (simp only [List.map_toArray,List.map_cons,List.map_nil,Act.eval,hw];rfl)) (fun A5 c5 w=>by kernel_rfl) h
theorem rop_13 (h:JR B w0 13 a w):wpOp Tryz.prog OPR Q 12 (JR B w0 14) a w:=rstep_wd (op:=.buildSlice 51 2 #[(0,.const (.string ⟨#[84,82,85,69]⟩)),(1,.const (.string ⟨#[70,65,76,83,69]⟩))]) (i:=13) (by decide) (by decide) [⟨#[84,82,85,69]⟩,⟨#[70,65,76,83,69]⟩] (by decide) (by kernel_rfl) rfl (by intro o ho;cases o;cases ho;kernel_rfl) h
theorem rop_14 (h:JR B w0 14 a w):wpOp Tryz.prog OPR Q 13 (JR B w0 15) a w:=rstep_row (i:=14) (by decide) (by decide) 13 (by decide) [⟨#[84,82,85,69]⟩,⟨#[70,65,76,83,69]⟩] #[(0,.const (.string ⟨#[79,83]⟩)),(2,.const (.string ⟨#[85,83,69,71,69,84,83,69,82,86,73,67,69,73,68]⟩)),(3,.const (.int .i64 2)),(4,.tmp 13),(8,.const (.int .i64 2)),(9,.const (.string ⟨#[70,65,76,83,69]⟩))] (fun A5 c5=>#[(0,.string ⟨#[79,83]⟩),(2,.string ⟨#[85,83,69,71,69,84,83,69,82,86,73,67,69,73,68]⟩),(3,.int .i64 2),(4,.slice A5 2 c5),(8,.int .i64 2),(9,.string ⟨#[70,65,76,83,69]⟩)]) (by kernel_rfl) rfl rfl rfl (fun A5 c5 hw=>by first | (simp only [List.map_toArray,List.map_cons,List.map_nil,Act.eval,hw];done) | (simp only [List.map_toArray,List.map_cons,List.map_nil,Act.eval,hw];rfl)) (fun A5 c5 w=>by kernel_rfl) h
theorem rop_15 (h:JR B w0 15 a w):wpOp Tryz.prog OPR Q 14 (JR B w0 16) a w:=rstep_wd (op:=.buildSlice 51 2 #[(0,.const (.string ⟨#[84,82,85,69]⟩)),(1,.const (.string ⟨#[70,65,76,83,69]⟩))]) (i:=15) (by decide) (by decide) [⟨#[84,82,85,69]⟩,⟨#[70,65,76,83,69]⟩] (by decide) (by kernel_rfl) rfl (by intro o ho;cases o;cases ho;kernel_rfl) h
theorem rop_16 (h:JR B w0 16 a w):wpOp Tryz.prog OPR Q 15 (JR B w0 17) a w:=rstep_row (i:=16) (by decide) (by decide) 15 (by decide) [⟨#[84,82,85,69]⟩,⟨#[70,65,76,83,69]⟩] #[(0,.const (.string ⟨#[79,83]⟩)),(2,.const (.string ⟨#[85,83,69,80,65,82,65,77,69,84,69,82,65,67,67,69,83,83]⟩)),(3,.const (.int .i64 2)),(4,.tmp 15),(8,.const (.int .i64 2)),(9,.const (.string ⟨#[70,65,76,83,69]⟩))] (fun A5 c5=>#[(0,.string ⟨#[79,83]⟩),(2,.string ⟨#[85,83,69,80,65,82,65,77,69,84,69,82,65,67,67,69,83,83]⟩),(3,.int .i64 2),(4,.slice A5 2 c5),(8,.int .i64 2),(9,.string ⟨#[70,65,76,83,69]⟩)]) (by kernel_rfl) rfl rfl rfl (fun A5 c5 hw=>by first | (simp only [List.map_toArray,List.map_cons,List.map_nil,Act.eval,hw];done) | (simp only [List.map_toArray,List.map_cons,List.map_nil,Act.eval,hw];rfl)) (fun A5 c5 w=>by kernel_rfl) h
theorem rop_17 (h:JR B w0 17 a w):wpOp Tryz.prog OPR Q 16 (JR B w0 18) a w:=rstep_wd (op:=.buildSlice 51 2 #[(0,.const (.string ⟨#[84,82,85,69]⟩)),(1,.const (.string ⟨#[70,65,76,83,69]⟩))]) (i:=17) (by decide) (by decide) [⟨#[84,82,85,69]⟩,⟨#[70,65,76,83,69]⟩] (by decide) (by kernel_rfl) rfl (by intro o ho;cases o;cases ho;kernel_rfl) h
theorem rop_18 (h:JR B w0 18 a w):wpOp Tryz.prog OPR Q 17 (JR B w0 19) a w:=rstep_row (i:=18) (by decide) (by decide) 17 (by decide) [⟨#[84,82,85,69]⟩,⟨#[70,65,76,83,69]⟩] #[(0,.const (.string ⟨#[79,83]⟩)),(2,.const (.string ⟨#[85,83,69,82,69,83,83,67,72,69,68,85,76,69,82]⟩)),(3,.const (.int .i64 2)),(4,.tmp 17),(8,.const (.int .i64 2)),(9,.const (.string ⟨#[84,82,85,69]⟩))] (fun A5 c5=>#[(0,.string ⟨#[79,83]⟩),(2,.string ⟨#[85,83,69,82,69,83,83,67,72,69,68,85,76,69,82]⟩),(3,.int .i64 2),(4,.slice A5 2 c5),(8,.int .i64 2),(9,.string ⟨#[84,82,85,69]⟩)]) (by kernel_rfl) rfl rfl rfl (fun A5 c5 hw=>by first | (simp only [List.map_toArray,List.map_cons,List.map_nil,Act.eval,hw];done) | (simp only [List.map_toArray,List.map_cons,List.map_nil,Act.eval,hw];rfl)) (fun A5 c5 w=>by kernel_rfl) h
theorem rop_19 (h:JR B w0 19 a w):wpOp Tryz.prog OPR Q 18 (JR B w0 20) a w:=rstep_ro (i:=19) (by decide) (by decide) #[(0,.const (.string ⟨#[84,65,83,75]⟩)),(2,.const (.string ⟨#[80,82,73,79,82,73,84,89]⟩)),(3,.const (.int .i64 1)),(6,.const (.int .u32 63)),(8,.const (.int .i64 1))] #[(0,.string ⟨#[84,65,83,75]⟩),(2,.string ⟨#[80,82,73,79,82,73,84,89]⟩),(3,.int .i64 1),(6,.int .u32 63),(8,.int .i64 1)] (by kernel_rfl) rfl rfl (by simp [Act.eval]) (fun w=>by kernel_rfl) h
theorem rop_20 (h:JR B w0 20 a w):wpOp Tryz.prog OPR Q 19 (JR B w0 21) a w:=rstep_wd (op:=.buildSlice 51 2 #[(0,.const (.string ⟨#[78,79,78]⟩)),(1,.const (.string ⟨#[70,85,76,76]⟩))]) (i:=20) (by decide) (by decide) [⟨#[78,79,78]⟩,⟨#[70,85,76,76]⟩] (by decide) (by kernel_rfl) rfl (by intro o ho;cases o;cases ho;kernel_rfl) h
theorem rop_21 (h:JR B w0 21 a w):wpOp Tryz.prog OPR Q 20 (JR B w0 22) a w:=rstep_row (i:=21) (by decide) (by decide) 20 (by decide) [⟨#[78,79,78]⟩,⟨#[70,85,76,76]⟩] #[(0,.const (.string ⟨#[84,65,83,75]⟩)),(2,.const (.string ⟨#[83,67,72,69,68,85,76,69]⟩)),(3,.const (.int .i64 2)),(4,.tmp 20),(8,.const (.int .i64 1))] (fun A5 c5=>#[(0,.string ⟨#[84,65,83,75]⟩),(2,.string ⟨#[83,67,72,69,68,85,76,69]⟩),(3,.int .i64 2),(4,.slice A5 2 c5),(8,.int .i64 1)]) (by kernel_rfl) rfl rfl rfl (fun A5 c5 hw=>by first | (simp only [List.map_toArray,List.map_cons,List.map_nil,Act.eval,hw];done) | (simp only [List.map_toArray,List.map_cons,List.map_nil,Act.eval,hw];rfl)) (fun A5 c5 w=>by kernel_rfl) h
theorem rop_22 (h:JR B w0 22 a w):wpOp Tryz.prog OPR Q 21 (JR B w0 23) a w:=rstep_ro (i:=22) (by decide) (by decide) #[(0,.const (.string ⟨#[84,65,83,75]⟩)),(2,.const (.string ⟨#[65,67,84,73,86,65,84,73,79,78]⟩)),(3,.const (.int .i64 1)),(5,.const (.int .u32 1)),(6,.const (.int .u32 255)),(8,.const (.int .i64 1))] #[(0,.string ⟨#[84,65,83,75]⟩),(2,.string ⟨#[65,67,84,73,86,65,84,73,79,78]⟩),(3,.int .i64 1),(5,.int .u32 1),(6,.int .u32 255),(8,.int .i64 1)] (by kernel_rfl) rfl rfl (by simp [Act.eval]) (fun w=>by kernel_rfl) h
theorem rop_23 (h:JR B w0 23 a w):wpOp Tryz.prog OPR Q 22 (JR B w0 24) a w:=rstep_wd (op:=.buildSlice 51 2 #[(0,.const (.string ⟨#[84,82,85,69]⟩)),(1,.const (.string ⟨#[70,65,76,83,69]⟩))]) (i:=23) (by decide) (by decide) [⟨#[84,82,85,69]⟩,⟨#[70,65,76,83,69]⟩] (by decide) (by kernel_rfl) rfl (by intro o ho;cases o;cases ho;kernel_rfl) h
theorem rop_24 (h:JR B w0 24 a w):wpOp Tryz.prog OPR Q 23 (JR B w0 25) a w:=rstep_row (i:=24) (by decide) (by decide) 23 (by decide) [⟨#[84,82,85,69]⟩,⟨#[70,65,76,83,69]⟩] #[(0,.const (.string ⟨#[84,65,83,75]⟩)),(2,.const (.string ⟨#[65,85,84,79,83,84,65,82,84]⟩)),(3,.const (.int .i64 2)),(4,.tmp 23),(8,.const (.int .i64 1))] (fun A5 c5=>#[(0,.string ⟨#[84,65,83,75]⟩),(2,.string ⟨#[65,85,84,79,83,84,65,82,84]⟩),(3,.int .i64 2),(4,.slice A5 2 c5),(8,.int .i64 1)]) (by kernel_rfl) rfl rfl rfl (fun A5 c5 hw=>by first | (simp only [List.map_toArray,List.map_cons,List.map_nil,Act.eval,hw];done) | (simp only [List.map_toArray,List.map_cons,List.map_nil,Act.eval,hw];rfl)) (fun A5 c5 w=>by kernel_rfl) h
theorem rop_25 (h:JR B w0 25 a w):wpOp Tryz.prog OPR Q 24 (JR B w0 26) a w:=rstep_un (i:=25) (by decide) (by decide) ⟨#[65,85,84,79,83,84,65,82,84]⟩ ⟨#[84,82,85,69]⟩ (by kernel_rfl) rfl h
theorem rop_26 (h:JR B w0 26 a w):wpOp Tryz.prog OPR Q 25 (JR B w0 27) a w:=rstep_rou (i:=26) (by decide) (by decide) 25 (by decide) ⟨#[65,85,84,79,83,84,65,82,84]⟩ ⟨#[84,82,85,69]⟩ #[(0,.const (.string ⟨#[84,65,83,75]⟩)),(1,.tmp 25),(2,.const (.string ⟨#[65,80,80,77,79,68,69]⟩)),(3,.const (.int .i64 3)),(8,.const (.int .i64 3))] #[(0,.string ⟨#[84,65,83,75]⟩),(1,.agg #[.string ⟨#[65,85,84,79,83,84,65,82,84]⟩,.string ⟨#[84,82,85,69]⟩]),(2,.string ⟨#[65,80,80,77,79,68,69]⟩),(3,.int .i64 3),(8,.int .i64 3)] (by kernel_rfl) rfl rfl rfl (fun hu=>by first | (simp only [List.map_toArray,List.map_cons,List.map_nil,Act.eval,hu];done) | (simp only [List.map_toArray,List.map_cons,List.map_nil,Act.eval,hu];rfl)) (fun w=>by kernel_rfl) h
theorem rop_27 (h:JR B w0 27 a w):wpOp Tryz.prog OPR Q 26 (JR B w0 28) a w:=rstep_ro (i:=27) (by decide) (by decide) #[(0,.const (.string ⟨#[84,65,83,75]⟩)),(2,.const (.string ⟨#[82,69,83,79,85,82,67,69]⟩)),(3,.const (.int .i64 3)),(8,.const (.int .i64 3))] #[(0,.string ⟨#[84,65,83,75]⟩),(2,.string ⟨#[82,69,83,79,85,82,67,69]⟩),(3,.int .i64 3),(8,.int .i64 3)] (by kernel_rfl) rfl rfl (by simp [Act.eval]) (fun w=>by kernel_rfl) h
theorem rop_28 (h:JR B w0 28 a w):wpOp Tryz.prog OPR Q 27 (JR B w0 29) a w:=rstep_ro (i:=28) (by decide) (by decide) #[(0,.const (.string ⟨#[84,65,83,75]⟩)),(2,.const (.string ⟨#[69,86,69,78,84]⟩)),(3,.const (.int .i64 3)),(8,.const (.int .i64 3))] #[(0,.string ⟨#[84,65,83,75]⟩),(2,.string ⟨#[69,86,69,78,84]⟩),(3,.int .i64 3),(8,.int .i64 3)] (by kernel_rfl) rfl rfl (by simp [Act.eval]) (fun w=>by kernel_rfl) h
theorem rop_29 (h:JR B w0 29 a w):wpOp Tryz.prog OPR Q 28 (JR B w0 30) a w:=rstep_ro (i:=29) (by decide) (by decide) #[(0,.const (.string ⟨#[84,65,83,75]⟩)),(2,.const (.string ⟨#[77,69,83,83,65,71,69]⟩)),(3,.const (.int .i64 3)),(8,.const (.int .i64 3))] #[(0,.string ⟨#[84,65,83,75]⟩),(2,.string ⟨#[77,69,83,83,65,71,69]⟩),(3,.int .i64 3),(8,.int .i64 3)] (by kernel_rfl) rfl rfl (by simp [Act.eval]) (fun w=>by kernel_rfl) h
theorem rop_30 (h:JR B w0 30 a w):wpOp Tryz.prog OPR Q 29 (JR B w0 31) a w:=rstep_ro (i:=30) (by decide) (by decide) #[(0,.const (.string ⟨#[73,83,82]⟩)),(2,.const (.string ⟨#[67,65,84,69,71,79,82,89]⟩)),(3,.const (.int .i64 1)),(5,.const (.int .u32 1)),(6,.const (.int .u32 2)),(8,.const (.int .i64 1))] #[(0,.string ⟨#[73,83,82]⟩),(2,.string ⟨#[67,65,84,69,71,79,82,89]⟩),(3,.int .i64 1),(5,.int .u32 1),(6,.int .u32 2),(8,.int .i64 1)] (by kernel_rfl) rfl rfl (by simp [Act.eval]) (fun w=>by kernel_rfl) h
theorem rop_31 (h:JR B w0 31 a w):wpOp Tryz.prog OPR Q 30 (JR B w0 32) a w:=rstep_ro (i:=31) (by decide) (by decide) #[(0,.const (.string ⟨#[73,83,82]⟩)),(2,.const (.string ⟨#[80,82,73,79,82,73,84,89]⟩)),(3,.const (.int .i64 1)),(5,.const (.int .u32 64)),(6,.const (.int .u32 127)),(8,.const (.int .i64 1))] #[(0,.string ⟨#[73,83,82]⟩),(2,.string ⟨#[80,82,73,79,82,73,84,89]⟩),(3,.int .i64 1),(5,.int .u32 64),(6,.int .u32 127),(8,.int .i64 1)] (by kernel_rfl) rfl rfl (by simp [Act.eval]) (fun w=>by kernel_rfl) h
theorem rop_32 (h:JR B w0 32 a w):wpOp Tryz.prog OPR Q 31 (JR B w0 33) a w:=rstep_ro (i:=32) (by decide) (by decide) #[(0,.const (.string ⟨#[73,83,82]⟩)),(2,.const (.string ⟨#[82,69,83,79,85,82,67,69]⟩)),(3,.const (.int .i64 3)),(8,.const (.int .i64 3))] #[(0,.string ⟨#[73,83,82]⟩),(2,.string ⟨#[82,69,83,79,85,82,67,69]⟩),(3,.int .i64 3),(8,.int .i64 3)] (by kernel_rfl) rfl rfl (by simp [Act.eval]) (fun w=>by kernel_rfl) h
theorem rop_33 (h:JR B w0 33 a w):wpOp Tryz.prog OPR Q 32 (JR B w0 34) a w:=rstep_ro (i:=33) (by decide) (by decide) #[(0,.const (.string ⟨#[73,83,82]⟩)),(2,.const (.string ⟨#[77,69,83,83,65,71,69]⟩)),(3,.const (.int .i64 3)),(8,.const (.int .i64 3))] #[(0,.string ⟨#[73,83,82]⟩),(2,.string ⟨#[77,69,83,83,65,71,69]⟩),(3,.int .i64 3),(8,.int .i64 3)] (by kernel_rfl) rfl rfl (by simp [Act.eval]) (fun w=>by kernel_rfl) h
theorem rop_34 (h:JR B w0 34 a w):wpOp Tryz.prog OPR Q 33 (JR B w0 35) a w:=rstep_wd (op:=.buildSlice 51 3 #[(0,.const (.string ⟨#[83,84,65,78,68,65,82,68]⟩)),(1,.const (.string ⟨#[76,73,78,75,69,68]⟩)),(2,.const (.string ⟨#[73,78,84,69,82,78,65,76]⟩))]) (i:=34) (by decide) (by decide) [⟨#[83,84,65,78,68,65,82,68]⟩,⟨#[76,73,78,75,69,68]⟩,⟨#[73,78,84,69,82,78,65,76]⟩] (by decide) (by kernel_rfl) rfl (by intro o ho;cases o;cases ho;kernel_rfl) h
theorem rop_35 (h:JR B w0 35 a w):wpOp Tryz.prog OPR Q 34 (JR B w0 36) a w:=rstep_row (i:=35) (by decide) (by decide) 34 (by decide) [⟨#[83,84,65,78,68,65,82,68]⟩,⟨#[76,73,78,75,69,68]⟩,⟨#[73,78,84,69,82,78,65,76]⟩] #[(0,.const (.string ⟨#[82,69,83,79,85,82,67,69]⟩)),(2,.const (.string ⟨#[82,69,83,79,85,82,67,69,80,82,79,80,69,82,84,89]⟩)),(3,.const (.int .i64 2)),(4,.tmp 34),(8,.const (.int .i64 1))] (fun A5 c5=>#[(0,.string ⟨#[82,69,83,79,85,82,67,69]⟩),(2,.string ⟨#[82,69,83,79,85,82,67,69,80,82,79,80,69,82,84,89]⟩),(3,.int .i64 2),(4,.slice A5 3 c5),(8,.int .i64 1)]) (by kernel_rfl) rfl rfl rfl (fun A5 c5 hw=>by first | (simp only [List.map_toArray,List.map_cons,List.map_nil,Act.eval,hw];done) | (simp only [List.map_toArray,List.map_cons,List.map_nil,Act.eval,hw];rfl)) (fun A5 c5 w=>by kernel_rfl) h
theorem rop_36 (h:JR B w0 36 a w):wpOp Tryz.prog OPR Q 35 (JR B w0 37) a w:=rstep_un (i:=36) (by decide) (by decide) ⟨#[82,69,83,79,85,82,67,69,80,82,79,80,69,82,84,89]⟩ ⟨#[76,73,78,75,69,68]⟩ (by kernel_rfl) rfl h
theorem rop_37 (h:JR B w0 37 a w):wpOp Tryz.prog OPR Q 36 (JR B w0 38) a w:=rstep_rou (i:=37) (by decide) (by decide) 36 (by decide) ⟨#[82,69,83,79,85,82,67,69,80,82,79,80,69,82,84,89]⟩ ⟨#[76,73,78,75,69,68]⟩ #[(0,.const (.string ⟨#[82,69,83,79,85,82,67,69]⟩)),(1,.tmp 36),(2,.const (.string ⟨#[76,73,78,75,69,68,82,69,83,79,85,82,67,69]⟩)),(3,.const (.int .i64 3)),(8,.const (.int .i64 1))] #[(0,.string ⟨#[82,69,83,79,85,82,67,69]⟩),(1,.agg #[.string ⟨#[82,69,83,79,85,82,67,69,80,82,79,80,69,82,84,89]⟩,.string ⟨#[76,73,78,75,69,68]⟩]),(2,.string ⟨#[76,73,78,75,69,68,82,69,83,79,85,82,67,69]⟩),(3,.int .i64 3),(8,.int .i64 1)] (by kernel_rfl) rfl rfl rfl (fun hu=>by first | (simp only [List.map_toArray,List.map_cons,List.map_nil,Act.eval,hu];done) | (simp only [List.map_toArray,List.map_cons,List.map_nil,Act.eval,hu];rfl)) (fun w=>by kernel_rfl) h
theorem rop_38 (h:JR B w0 38 a w):wpOp Tryz.prog OPR Q 37 (JR B w0 39) a w:=rstep_ro (i:=38) (by decide) (by decide) #[(0,.const (.string ⟨#[69,86,69,78,84]⟩)),(2,.const (.string ⟨#[77,65,83,75]⟩)),(3,.const (.int .i64 1)),(5,.const (.int .u32 1)),(6,.const (.int .u32 4294967295)),(7,.const (.bool true)),(8,.const (.int .i64 2)),(9,.const (.string ⟨#[65,85,84,79]⟩))] #[(0,.string ⟨#[69,86,69,78,84]⟩),(2,.string ⟨#[77,65,83,75]⟩),(3,.int .i64 1),(5,.int .u32 1),(6,.int .u32 4294967295),(7,.bool true),(8,.int .i64 2),(9,.string ⟨#[65,85,84,79]⟩)] (by kernel_rfl) rfl rfl (by simp [Act.eval]) (fun w=>by kernel_rfl) h
theorem rop_39 (h:JR B w0 39 a w):wpOp Tryz.prog OPR Q 38 (JR B w0 40) a w:=rstep_ro (i:=39) (by decide) (by decide) #[(0,.const (.string ⟨#[67,79,85,78,84,69,82]⟩)),(2,.const (.string ⟨#[77,65,88,65,76,76,79,87,69,68,86,65,76,85,69]⟩)),(3,.const (.int .i64 1)),(5,.const (.int .u32 1)),(6,.const (.int .u32 2147483647)),(8,.const (.int .i64 1))] #[(0,.string ⟨#[67,79,85,78,84,69,82]⟩),(2,.string ⟨#[77,65,88,65,76,76,79,87,69,68,86,65,76,85,69]⟩),(3,.int .i64 1),(5,.int .u32 1),(6,.int .u32 2147483647),(8,.int .i64 1)] (by kernel_rfl) rfl rfl (by simp [Act.eval]) (fun w=>by kernel_rfl) h
theorem rop_40 (h:JR B w0 40 a w):wpOp Tryz.prog OPR Q 39 (JR B w0 41) a w:=rstep_ro (i:=40) (by decide) (by decide) #[(0,.const (.string ⟨#[67,79,85,78,84,69,82]⟩)),(2,.const (.string ⟨#[84,73,67,75,83,80,69,82,66,65,83,69]⟩)),(3,.const (.int .i64 1)),(5,.const (.int .u32 1)),(6,.const (.int .u32 2147483647)),(8,.const (.int .i64 1))] #[(0,.string ⟨#[67,79,85,78,84,69,82]⟩),(2,.string ⟨#[84,73,67,75,83,80,69,82,66,65,83,69]⟩),(3,.int .i64 1),(5,.int .u32 1),(6,.int .u32 2147483647),(8,.int .i64 1)] (by kernel_rfl) rfl rfl (by simp [Act.eval]) (fun w=>by kernel_rfl) h
theorem rop_41 (h:JR B w0 41 a w):wpOp Tryz.prog OPR Q 40 (JR B w0 42) a w:=rstep_ro (i:=41) (by decide) (by decide) #[(0,.const (.string ⟨#[67,79,85,78,84,69,82]⟩)),(2,.const (.string ⟨#[77,73,78,67,89,67,76,69]⟩)),(3,.const (.int .i64 1)),(5,.const (.int .u32 1)),(6,.const (.int .u32 2147483647)),(8,.const (.int .i64 1))] #[(0,.string ⟨#[67,79,85,78,84,69,82]⟩),(2,.string ⟨#[77,73,78,67,89,67,76,69]⟩),(3,.int .i64 1),(5,.int .u32 1),(6,.int .u32 2147483647),(8,.int .i64 1)] (by kernel_rfl) rfl rfl (by simp [Act.eval]) (fun w=>by kernel_rfl) h
theorem rop_42 (h:JR B w0 42 a w):wpOp Tryz.prog OPR Q 41 (JR B w0 43) a w:=rstep_ro (i:=42) (by decide) (by decide) #[(0,.const (.string ⟨#[65,76,65,82,77]⟩)),(2,.const (.string ⟨#[67,79,85,78,84,69,82]⟩)),(3,.const (.int .i64 3)),(8,.const (.int .i64 1))] #[(0,.string ⟨#[65,76,65,82,77]⟩),(2,.string ⟨#[67,79,85,78,84,69,82]⟩),(3,.int .i64 3),(8,.int .i64 1)] (by kernel_rfl) rfl rfl (by simp [Act.eval]) (fun w=>by kernel_rfl) h
theorem rop_43 (h:JR B w0 43 a w):wpOp Tryz.prog OPR Q 42 (JR B w0 44) a w:=rstep_wd (op:=.buildSlice 51 3 #[(0,.const (.string ⟨#[65,67,84,73,86,65,84,69,84,65,83,75]⟩)),(1,.const (.string ⟨#[83,69,84,69,86,69,78,84]⟩)),(2,.const (.string ⟨#[65,76,65,82,77,67,65,76,76,66,65,67,75]⟩))]) (i:=43) (by decide) (by decide) [⟨#[65,67,84,73,86,65,84,69,84,65,83,75]⟩,⟨#[83,69,84,69,86,69,78,84]⟩,⟨#[65,76,65,82,77,67,65,76,76,66,65,67,75]⟩] (by decide) (by kernel_rfl) rfl (by intro o ho;cases o;cases ho;kernel_rfl) h
theorem rop_44 (h:JR B w0 44 a w):wpOp Tryz.prog OPR Q 43 (JR B w0 45) a w:=rstep_row (i:=44) (by decide) (by decide) 43 (by decide) [⟨#[65,67,84,73,86,65,84,69,84,65,83,75]⟩,⟨#[83,69,84,69,86,69,78,84]⟩,⟨#[65,76,65,82,77,67,65,76,76,66,65,67,75]⟩] #[(0,.const (.string ⟨#[65,76,65,82,77]⟩)),(2,.const (.string ⟨#[65,67,84,73,79,78]⟩)),(3,.const (.int .i64 2)),(4,.tmp 43),(8,.const (.int .i64 1))] (fun A5 c5=>#[(0,.string ⟨#[65,76,65,82,77]⟩),(2,.string ⟨#[65,67,84,73,79,78]⟩),(3,.int .i64 2),(4,.slice A5 3 c5),(8,.int .i64 1)]) (by kernel_rfl) rfl rfl rfl (fun A5 c5 hw=>by first | (simp only [List.map_toArray,List.map_cons,List.map_nil,Act.eval,hw];done) | (simp only [List.map_toArray,List.map_cons,List.map_nil,Act.eval,hw];rfl)) (fun A5 c5 w=>by kernel_rfl) h
theorem rop_45 (h:JR B w0 45 a w):wpOp Tryz.prog OPR Q 44 (JR B w0 46) a w:=rstep_un (i:=45) (by decide) (by decide) ⟨#[65,67,84,73,79,78]⟩ ⟨#[65,67,84,73,86,65,84,69,84,65,83,75]⟩ (by kernel_rfl) rfl h
theorem rop_46 (h:JR B w0 46 a w):wpOp Tryz.prog OPR Q 45 (JR B w0 47) a w:=rstep_rou (i:=46) (by decide) (by decide) 45 (by decide) ⟨#[65,67,84,73,79,78]⟩ ⟨#[65,67,84,73,86,65,84,69,84,65,83,75]⟩ #[(0,.const (.string ⟨#[65,76,65,82,77]⟩)),(1,.tmp 45),(2,.const (.string ⟨#[84,65,83,75]⟩)),(3,.const (.int .i64 3)),(8,.const (.int .i64 1))] #[(0,.string ⟨#[65,76,65,82,77]⟩),(1,.agg #[.string ⟨#[65,67,84,73,79,78]⟩,.string ⟨#[65,67,84,73,86,65,84,69,84,65,83,75]⟩]),(2,.string ⟨#[84,65,83,75]⟩),(3,.int .i64 3),(8,.int .i64 1)] (by kernel_rfl) rfl rfl rfl (fun hu=>by first | (simp only [List.map_toArray,List.map_cons,List.map_nil,Act.eval,hu];done) | (simp only [List.map_toArray,List.map_cons,List.map_nil,Act.eval,hu];rfl)) (fun w=>by kernel_rfl) h
theorem rop_47 (h:JR B w0 47 a w):wpOp Tryz.prog OPR Q 46 (JR B w0 48) a w:=rstep_un (i:=47) (by decide) (by decide) ⟨#[65,67,84,73,79,78]⟩ ⟨#[83,69,84,69,86,69,78,84]⟩ (by kernel_rfl) rfl h
theorem rop_48 (h:JR B w0 48 a w):wpOp Tryz.prog OPR Q 47 (JR B w0 49) a w:=rstep_rou (i:=48) (by decide) (by decide) 47 (by decide) ⟨#[65,67,84,73,79,78]⟩ ⟨#[83,69,84,69,86,69,78,84]⟩ #[(0,.const (.string ⟨#[65,76,65,82,77]⟩)),(1,.tmp 47),(2,.const (.string ⟨#[84,65,83,75]⟩)),(3,.const (.int .i64 3)),(8,.const (.int .i64 1))] #[(0,.string ⟨#[65,76,65,82,77]⟩),(1,.agg #[.string ⟨#[65,67,84,73,79,78]⟩,.string ⟨#[83,69,84,69,86,69,78,84]⟩]),(2,.string ⟨#[84,65,83,75]⟩),(3,.int .i64 3),(8,.int .i64 1)] (by kernel_rfl) rfl rfl rfl (fun hu=>by first | (simp only [List.map_toArray,List.map_cons,List.map_nil,Act.eval,hu];done) | (simp only [List.map_toArray,List.map_cons,List.map_nil,Act.eval,hu];rfl)) (fun w=>by kernel_rfl) h
theorem rop_49 (h:JR B w0 49 a w):wpOp Tryz.prog OPR Q 48 (JR B w0 50) a w:=rstep_un (i:=49) (by decide) (by decide) ⟨#[65,67,84,73,79,78]⟩ ⟨#[83,69,84,69,86,69,78,84]⟩ (by kernel_rfl) rfl h
theorem rop_50 (h:JR B w0 50 a w):wpOp Tryz.prog OPR Q 49 (JR B w0 51) a w:=rstep_rou (i:=50) (by decide) (by decide) 49 (by decide) ⟨#[65,67,84,73,79,78]⟩ ⟨#[83,69,84,69,86,69,78,84]⟩ #[(0,.const (.string ⟨#[65,76,65,82,77]⟩)),(1,.tmp 49),(2,.const (.string ⟨#[69,86,69,78,84]⟩)),(3,.const (.int .i64 3)),(8,.const (.int .i64 1))] #[(0,.string ⟨#[65,76,65,82,77]⟩),(1,.agg #[.string ⟨#[65,67,84,73,79,78]⟩,.string ⟨#[83,69,84,69,86,69,78,84]⟩]),(2,.string ⟨#[69,86,69,78,84]⟩),(3,.int .i64 3),(8,.int .i64 1)] (by kernel_rfl) rfl rfl rfl (fun hu=>by first | (simp only [List.map_toArray,List.map_cons,List.map_nil,Act.eval,hu];done) | (simp only [List.map_toArray,List.map_cons,List.map_nil,Act.eval,hu];rfl)) (fun w=>by kernel_rfl) h
theorem rop_51 (h:JR B w0 51 a w):wpOp Tryz.prog OPR Q 50 (JR B w0 52) a w:=rstep_un (i:=51) (by decide) (by decide) ⟨#[65,67,84,73,79,78]⟩ ⟨#[65,76,65,82,77,67,65,76,76,66,65,67,75]⟩ (by kernel_rfl) rfl h
theorem rop_52 (h:JR B w0 52 a w):wpOp Tryz.prog OPR Q 51 (JR B w0 53) a w:=rstep_rou (i:=52) (by decide) (by decide) 51 (by decide) ⟨#[65,67,84,73,79,78]⟩ ⟨#[65,76,65,82,77,67,65,76,76,66,65,67,75]⟩ #[(0,.const (.string ⟨#[65,76,65,82,77]⟩)),(1,.tmp 51),(2,.const (.string ⟨#[65,76,65,82,77,67,65,76,76,66,65,67,75,78,65,77,69]⟩)),(3,.const (.int .i64 4)),(8,.const (.int .i64 1))] #[(0,.string ⟨#[65,76,65,82,77]⟩),(1,.agg #[.string ⟨#[65,67,84,73,79,78]⟩,.string ⟨#[65,76,65,82,77,67,65,76,76,66,65,67,75]⟩]),(2,.string ⟨#[65,76,65,82,77,67,65,76,76,66,65,67,75,78,65,77,69]⟩),(3,.int .i64 4),(8,.int .i64 1)] (by kernel_rfl) rfl rfl rfl (fun hu=>by first | (simp only [List.map_toArray,List.map_cons,List.map_nil,Act.eval,hu];done) | (simp only [List.map_toArray,List.map_cons,List.map_nil,Act.eval,hu];rfl)) (fun w=>by kernel_rfl) h
theorem rop_53 (h:JR B w0 53 a w):wpOp Tryz.prog OPR Q 52 (JR B w0 54) a w:=rstep_wd (op:=.buildSlice 51 2 #[(0,.const (.string ⟨#[84,82,85,69]⟩)),(1,.const (.string ⟨#[70,65,76,83,69]⟩))]) (i:=53) (by decide) (by decide) [⟨#[84,82,85,69]⟩,⟨#[70,65,76,83,69]⟩] (by decide) (by kernel_rfl) rfl (by intro o ho;cases o;cases ho;kernel_rfl) h
theorem rop_54 (h:JR B w0 54 a w):wpOp Tryz.prog OPR Q 53 (JR B w0 55) a w:=rstep_row (i:=54) (by decide) (by decide) 53 (by decide) [⟨#[84,82,85,69]⟩,⟨#[70,65,76,83,69]⟩] #[(0,.const (.string ⟨#[65,76,65,82,77]⟩)),(2,.const (.string ⟨#[65,85,84,79,83,84,65,82,84]⟩)),(3,.const (.int .i64 2)),(4,.tmp 53),(8,.const (.int .i64 1))] (fun A5 c5=>#[(0,.string ⟨#[65,76,65,82,77]⟩),(2,.string ⟨#[65,85,84,79,83,84,65,82,84]⟩),(3,.int .i64 2),(4,.slice A5 2 c5),(8,.int .i64 1)]) (by kernel_rfl) rfl rfl rfl (fun A5 c5 hw=>by first | (simp only [List.map_toArray,List.map_cons,List.map_nil,Act.eval,hw];done) | (simp only [List.map_toArray,List.map_cons,List.map_nil,Act.eval,hw];rfl)) (fun A5 c5 w=>by kernel_rfl) h
theorem rop_55 (h:JR B w0 55 a w):wpOp Tryz.prog OPR Q 54 (JR B w0 56) a w:=rstep_un (i:=55) (by decide) (by decide) ⟨#[65,85,84,79,83,84,65,82,84]⟩ ⟨#[84,82,85,69]⟩ (by kernel_rfl) rfl h
theorem rop_56 (h:JR B w0 56 a w):wpOp Tryz.prog OPR Q 55 (JR B w0 57) a w:=rstep_rou (i:=56) (by decide) (by decide) 55 (by decide) ⟨#[65,85,84,79,83,84,65,82,84]⟩ ⟨#[84,82,85,69]⟩ #[(0,.const (.string ⟨#[65,76,65,82,77]⟩)),(1,.tmp 55),(2,.const (.string ⟨#[65,76,65,82,77,84,73,77,69]⟩)),(3,.const (.int .i64 1)),(6,.const (.int .u32 2147483647)),(8,.const (.int .i64 1))] #[(0,.string ⟨#[65,76,65,82,77]⟩),(1,.agg #[.string ⟨#[65,85,84,79,83,84,65,82,84]⟩,.string ⟨#[84,82,85,69]⟩]),(2,.string ⟨#[65,76,65,82,77,84,73,77,69]⟩),(3,.int .i64 1),(6,.int .u32 2147483647),(8,.int .i64 1)] (by kernel_rfl) rfl rfl rfl (fun hu=>by first | (simp only [List.map_toArray,List.map_cons,List.map_nil,Act.eval,hu];done) | (simp only [List.map_toArray,List.map_cons,List.map_nil,Act.eval,hu];rfl)) (fun w=>by kernel_rfl) h
theorem rop_57 (h:JR B w0 57 a w):wpOp Tryz.prog OPR Q 56 (JR B w0 58) a w:=rstep_un (i:=57) (by decide) (by decide) ⟨#[65,85,84,79,83,84,65,82,84]⟩ ⟨#[84,82,85,69]⟩ (by kernel_rfl) rfl h
theorem rop_58 (h:JR B w0 58 a w):wpOp Tryz.prog OPR Q 57 (JR B w0 59) a w:=rstep_rou (i:=58) (by decide) (by decide) 57 (by decide) ⟨#[65,85,84,79,83,84,65,82,84]⟩ ⟨#[84,82,85,69]⟩ #[(0,.const (.string ⟨#[65,76,65,82,77]⟩)),(1,.tmp 57),(2,.const (.string ⟨#[67,89,67,76,69,84,73,77,69]⟩)),(3,.const (.int .i64 1)),(6,.const (.int .u32 2147483647)),(8,.const (.int .i64 1))] #[(0,.string ⟨#[65,76,65,82,77]⟩),(1,.agg #[.string ⟨#[65,85,84,79,83,84,65,82,84]⟩,.string ⟨#[84,82,85,69]⟩]),(2,.string ⟨#[67,89,67,76,69,84,73,77,69]⟩),(3,.int .i64 1),(6,.int .u32 2147483647),(8,.int .i64 1)] (by kernel_rfl) rfl rfl rfl (fun hu=>by first | (simp only [List.map_toArray,List.map_cons,List.map_nil,Act.eval,hu];done) | (simp only [List.map_toArray,List.map_cons,List.map_nil,Act.eval,hu];rfl)) (fun w=>by kernel_rfl) h
theorem rop_59 (h:JR B w0 59 a w):wpOp Tryz.prog OPR Q 58 (JR B w0 60) a w:=rstep_un (i:=59) (by decide) (by decide) ⟨#[65,85,84,79,83,84,65,82,84]⟩ ⟨#[84,82,85,69]⟩ (by kernel_rfl) rfl h
theorem rop_60 (h:JR B w0 60 a w):wpOp Tryz.prog OPR Q 59 (JR B w0 61) a w:=rstep_rou (i:=60) (by decide) (by decide) 59 (by decide) ⟨#[65,85,84,79,83,84,65,82,84]⟩ ⟨#[84,82,85,69]⟩ #[(0,.const (.string ⟨#[65,76,65,82,77]⟩)),(1,.tmp 59),(2,.const (.string ⟨#[65,80,80,77,79,68,69]⟩)),(3,.const (.int .i64 3)),(8,.const (.int .i64 3))] #[(0,.string ⟨#[65,76,65,82,77]⟩),(1,.agg #[.string ⟨#[65,85,84,79,83,84,65,82,84]⟩,.string ⟨#[84,82,85,69]⟩]),(2,.string ⟨#[65,80,80,77,79,68,69]⟩),(3,.int .i64 3),(8,.int .i64 3)] (by kernel_rfl) rfl rfl rfl (fun hu=>by first | (simp only [List.map_toArray,List.map_cons,List.map_nil,Act.eval,hu];done) | (simp only [List.map_toArray,List.map_cons,List.map_nil,Act.eval,hu];rfl)) (fun w=>by kernel_rfl) h
theorem rop_61 (h:JR B w0 61 a w):wpOp Tryz.prog OPR Q 60 (JR B w0 62) a w:=rstep_wd (op:=.buildSlice 51 3 #[(0,.const (.string ⟨#[83,69,78,68,95,83,84,65,84,73,67,95,73,78,84,69,82,78,65,76]⟩)),(1,.const (.string ⟨#[82,69,67,69,73,86,69,95,85,78,81,85,69,85,69,68,95,73,78,84,69,82,78,65,76]⟩)),(2,.const (.string ⟨#[82,69,67,69,73,86,69,95,81,85,69,85,69,68,95,73,78,84,69,82,78,65,76]⟩))]) (i:=61) (by decide) (by decide) [⟨#[83,69,78,68,95,83,84,65,84,73,67,95,73,78,84,69,82,78,65,76]⟩,⟨#[82,69,67,69,73,86,69,95,85,78,81,85,69,85,69,68,95,73,78,84,69,82,78,65,76]⟩,⟨#[82,69,67,69,73,86,69,95,81,85,69,85,69,68,95,73,78,84,69,82,78,65,76]⟩] (by decide) (by kernel_rfl) rfl (by intro o ho;cases o;cases ho;kernel_rfl) h
theorem rop_62 (h:JR B w0 62 a w):wpOp Tryz.prog OPR Q 61 (JR B w0 63) a w:=rstep_row (i:=62) (by decide) (by decide) 61 (by decide) [⟨#[83,69,78,68,95,83,84,65,84,73,67,95,73,78,84,69,82,78,65,76]⟩,⟨#[82,69,67,69,73,86,69,95,85,78,81,85,69,85,69,68,95,73,78,84,69,82,78,65,76]⟩,⟨#[82,69,67,69,73,86,69,95,81,85,69,85,69,68,95,73,78,84,69,82,78,65,76]⟩] #[(0,.const (.string ⟨#[77,69,83,83,65,71,69]⟩)),(2,.const (.string ⟨#[77,69,83,83,65,71,69,80,82,79,80,69,82,84,89]⟩)),(3,.const (.int .i64 2)),(4,.tmp 61),(8,.const (.int .i64 1))] (fun A5 c5=>#[(0,.string ⟨#[77,69,83,83,65,71,69]⟩),(2,.string ⟨#[77,69,83,83,65,71,69,80,82,79,80,69,82,84,89]⟩),(3,.int .i64 2),(4,.slice A5 3 c5),(8,.int .i64 1)]) (by kernel_rfl) rfl rfl rfl (fun A5 c5 hw=>by first | (simp only [List.map_toArray,List.map_cons,List.map_nil,Act.eval,hw];done) | (simp only [List.map_toArray,List.map_cons,List.map_nil,Act.eval,hw];rfl)) (fun A5 c5 w=>by kernel_rfl) h
theorem rop_63 (h:JR B w0 63 a w):wpOp Tryz.prog OPR Q 62 (JR B w0 64) a w:=rstep_un (i:=63) (by decide) (by decide) ⟨#[77,69,83,83,65,71,69,80,82,79,80,69,82,84,89]⟩ ⟨#[83,69,78,68,95,83,84,65,84,73,67,95,73,78,84,69,82,78,65,76]⟩ (by kernel_rfl) rfl h
theorem rop_64 (h:JR B w0 64 a w):wpOp Tryz.prog OPR Q 63 (JR B w0 65) a w:=rstep_wd (op:=.buildSlice 51 4 #[(0,.const (.string ⟨#[117,105,110,116,56]⟩)),(1,.const (.string ⟨#[117,105,110,116,49,54]⟩)),(2,.const (.string ⟨#[117,105,110,116,51,50]⟩)),(3,.const (.string ⟨#[117,105,110,116,54,52]⟩))]) (i:=64) (by decide) (by decide) [⟨#[117,105,110,116,56]⟩,⟨#[117,105,110,116,49,54]⟩,⟨#[117,105,110,116,51,50]⟩,⟨#[117,105,110,116,54,52]⟩] (by decide) (by kernel_rfl) rfl (by intro o ho;cases o;cases ho;kernel_rfl) h
theorem rop_65 (h:JR B w0 65 a w):wpOp Tryz.prog OPR Q 64 (JR B w0 66) a w:=rstep_ro2 (i:=65) (by decide) (by decide) 63 64 (by decide) (by decide) ⟨#[77,69,83,83,65,71,69,80,82,79,80,69,82,84,89]⟩ ⟨#[83,69,78,68,95,83,84,65,84,73,67,95,73,78,84,69,82,78,65,76]⟩ [⟨#[117,105,110,116,56]⟩,⟨#[117,105,110,116,49,54]⟩,⟨#[117,105,110,116,51,50]⟩,⟨#[117,105,110,116,54,52]⟩] #[(0,.const (.string ⟨#[77,69,83,83,65,71,69]⟩)),(1,.tmp 63),(2,.const (.string ⟨#[67,68,65,84,65,84,89,80,69]⟩)),(3,.const (.int .i64 4)),(4,.tmp 64),(8,.const (.int .i64 1))] (fun A5 c5=>#[(0,.string ⟨#[77,69,83,83,65,71,69]⟩),(1,.agg #[.string ⟨#[77,69,83,83,65,71,69,80,82,79,80,69,82,84,89]⟩,.string ⟨#[83,69,78,68,95,83,84,65,84,73,67,95,73,78,84,69,82,78,65,76]⟩]),(2,.string ⟨#[67,68,65,84,65,84,89,80,69]⟩),(3,.int .i64 4),(4,.slice A5 4 c5),(8,.int .i64 1)]) (by kernel_rfl) rfl rfl rfl rfl (fun A5 c5 hu hw=>by first | (simp only [List.map_toArray,List.map_cons,List.map_nil,Act.eval,hu,hw];done) | (simp only [List.map_toArray,List.map_cons,List.map_nil,Act.eval,hu,hw];rfl)) (fun A5 c5 w=>by kernel_rfl) h
theorem rop_66 (h:JR B w0 66 a w):wpOp Tryz.prog OPR Q 65 (JR B w0 67) a w:=rstep_un (i:=66) (by decide) (by decide) ⟨#[77,69,83,83,65,71,69,80,82,79,80,69,82,84,89]⟩ ⟨#[82,69,67,69,73,86,69,95,85,78,81,85,69,85,69,68,95,73,78,84,69,82,78,65,76]⟩ (by kernel_rfl) rfl h
theorem rop_67 (h:JR B w0 67 a w):wpOp Tryz.prog OPR Q 66 (JR B w0 68) a w:=rstep_rou (i:=67) (by decide) (by decide) 66 (by decide) ⟨#[77,69,83,83,65,71,69,80,82,79,80,69,82,84,89]⟩ ⟨#[82,69,67,69,73,86,69,95,85,78,81,85,69,85,69,68,95,73,78,84,69,82,78,65,76]⟩ #[(0,.const (.string ⟨#[77,69,83,83,65,71,69]⟩)),(1,.tmp 66),(2,.const (.string ⟨#[83,69,78,68,73,78,71,77,69,83,83,65,71,69]⟩)),(3,.const (.int .i64 3)),(8,.const (.int .i64 1))] #[(0,.string ⟨#[77,69,83,83,65,71,69]⟩),(1,.agg #[.string ⟨#[77,69,83,83,65,71,69,80,82,79,80,69,82,84,89]⟩,.string ⟨#[82,69,67,69,73,86,69,95,85,78,81,85,69,85,69,68,95,73,78,84,69,82,78,65,76]⟩]),(2,.string ⟨#[83,69,78,68,73,78,71,77,69,83,83,65,71,69]⟩),(3,.int .i64 3),(8,.int .i64 1)] (by kernel_rfl) rfl rfl rfl (fun hu=>by first | (simp only [List.map_toArray,List.map_cons,List.map_nil,Act.eval,hu];done) | (simp only [List.map_toArray,List.map_cons,List.map_nil,Act.eval,hu];rfl)) (fun w=>by kernel_rfl) h
theorem rop_68 (h:JR B w0 68 a w):wpOp Tryz.prog OPR Q 67 (JR B w0 69) a w:=rstep_un (i:=68) (by decide) (by decide) ⟨#[77,69,83,83,65,71,69,80,82,79,80,69,82,84,89]⟩ ⟨#[82,69,67,69,73,86,69,95,85,78,81,85,69,85,69,68,95,73,78,84,69,82,78,65,76]⟩ (by kernel_rfl) rfl h
theorem rop_69 (h:JR B w0 69 a w):wpOp Tryz.prog OPR Q 68 (JR B w0 70) a w:=rstep_rou (i:=69) (by decide) (by decide) 68 (by decide) ⟨#[77,69,83,83,65,71,69,80,82,79,80,69,82,84,89]⟩ ⟨#[82,69,67,69,73,86,69,95,85,78,81,85,69,85,69,68,95,73,78,84,69,82,78,65,76]⟩ #[(0,.const (.string ⟨#[77,69,83,83,65,71,69]⟩)),(1,.tmp 68),(2,.const (.string ⟨#[73,78,73,84,73,65,76,86,65,76,85,69]⟩)),(3,.const (.int .i64 1)),(6,.const (.int .u32 4294967295)),(8,.const (.int .i64 2)),(9,.const (.string ⟨#[48]⟩))] #[(0,.string ⟨#[77,69,83,83,65,71,69]⟩),(1,.agg #[.string ⟨#[77,69,83,83,65,71,69,80,82,79,80,69,82,84,89]⟩,.string ⟨#[82,69,67,69,73,86,69,95,85,78,81,85,69,85,69,68,95,73,78,84,69,82,78,65,76]⟩]),(2,.string ⟨#[73,78,73,84,73,65,76,86,65,76,85,69]⟩),(3,.int .i64 1),(6,.int .u32 4294967295),(8,.int .i64 2),(9,.string ⟨#[48]⟩)] (by kernel_rfl) rfl rfl rfl (fun hu=>by first | (simp only [List.map_toArray,List.map_cons,List.map_nil,Act.eval,hu];done) | (simp only [List.map_toArray,List.map_cons,List.map_nil,Act.eval,hu];rfl)) (fun w=>by kernel_rfl) h
theorem rop_70 (h:JR B w0 70 a w):wpOp Tryz.prog OPR Q 69 (JR B w0 71) a w:=rstep_un (i:=70) (by decide) (by decide) ⟨#[77,69,83,83,65,71,69,80,82,79,80,69,82,84,89]⟩ ⟨#[82,69,67,69,73,86,69,95,81,85,69,85,69,68,95,73,78,84,69,82,78,65,76]⟩ (by kernel_rfl) rfl h
theorem rop_71 (h:JR B w0 71 a w):wpOp Tryz.prog OPR Q 70 (JR B w0 72) a w:=rstep_rou (i:=71) (by decide) (by decide) 70 (by decide) ⟨#[77,69,83,83,65,71,69,80,82,79,80,69,82,84,89]⟩ ⟨#[82,69,67,69,73,86,69,95,81,85,69,85,69,68,95,73,78,84,69,82,78,65,76]⟩ #[(0,.const (.string ⟨#[77,69,83,83,65,71,69]⟩)),(1,.tmp 70),(2,.const (.string ⟨#[83,69,78,68,73,78,71,77,69,83,83,65,71,69]⟩)),(3,.const (.int .i64 3)),(8,.const (.int .i64 1))] #[(0,.string ⟨#[77,69,83,83,65,71,69]⟩),(1,.agg #[.string ⟨#[77,69,83,83,65,71,69,80,82,79,80,69,82,84,89]⟩,.string ⟨#[82,69,67,69,73,86,69,95,81,85,69,85,69,68,95,73,78,84,69,82,78,65,76]⟩]),(2,.string ⟨#[83,69,78,68,73,78,71,77,69,83,83,65,71,69]⟩),(3,.int .i64 3),(8,.int .i64 1)] (by kernel_rfl) rfl rfl rfl (fun hu=>by first | (simp only [List.map_toArray,List.map_cons,List.map_nil,Act.eval,hu];done) | (simp only [List.map_toArray,List.map_cons,List.map_nil,Act.eval,hu];rfl)) (fun w=>by kernel_rfl) h
theorem rop_72 (h:JR B w0 72 a w):wpOp Tryz.prog OPR Q 71 (JR B w0 73) a w:=rstep_un (i:=72) (by decide) (by decide) ⟨#[77,69,83,83,65,71,69,80,82,79,80,69,82,84,89]⟩ ⟨#[82,69,67,69,73,86,69,95,81,85,69,85,69,68,95,73,78,84,69,82,78,65,76]⟩ (by kernel_rfl) rfl h
theorem rop_73 (h:JR B w0 73 a w):wpOp Tryz.prog OPR Q 72 (JR B w0 74) a w:=rstep_rou (i:=73) (by decide) (by decide) 72 (by decide) ⟨#[77,69,83,83,65,71,69,80,82,79,80,69,82,84,89]⟩ ⟨#[82,69,67,69,73,86,69,95,81,85,69,85,69,68,95,73,78,84,69,82,78,65,76]⟩ #[(0,.const (.string ⟨#[77,69,83,83,65,71,69]⟩)),(1,.tmp 72),(2,.const (.string ⟨#[81,85,69,85,69,83,73,90,69]⟩)),(3,.const (.int .i64 1)),(5,.const (.int .u32 1)),(6,.const (.int .u32 16)),(8,.const (.int .i64 1))] #[(0,.string ⟨#[77,69,83,83,65,71,69]⟩),(1,.agg #[.string ⟨#[77,69,83,83,65,71,69,80,82,79,80,69,82,84,89]⟩,.string ⟨#[82,69,67,69,73,86,69,95,81,85,69,85,69,68,95,73,78,84,69,82,78,65,76]⟩]),(2,.string ⟨#[81,85,69,85,69,83,73,90,69]⟩),(3,.int .i64 1),(5,.int .u32 1),(6,.int .u32 16),(8,.int .i64 1)] (by kernel_rfl) rfl rfl rfl (fun hu=>by first | (simp only [List.map_toArray,List.map_cons,List.map_nil,Act.eval,hu];done) | (simp only [List.map_toArray,List.map_cons,List.map_nil,Act.eval,hu];rfl)) (fun w=>by kernel_rfl) h
theorem rop_74 (h:JR B w0 74 a w):wpOp Tryz.prog OPR Q 73 (JR B w0 75) a w:=rstep_wd (op:=.buildSlice 51 5 #[(0,.const (.string ⟨#[78,79,78,69]⟩)),(1,.const (.string ⟨#[65,67,84,73,86,65,84,69,84,65,83,75]⟩)),(2,.const (.string ⟨#[83,69,84,69,86,69,78,84]⟩)),(3,.const (.string ⟨#[67,79,77,67,65,76,76,66,65,67,75]⟩)),(4,.const (.string ⟨#[70,76,65,71]⟩))]) (i:=74) (by decide) (by decide) [⟨#[78,79,78,69]⟩,⟨#[65,67,84,73,86,65,84,69,84,65,83,75]⟩,⟨#[83,69,84,69,86,69,78,84]⟩,⟨#[67,79,77,67,65,76,76,66,65,67,75]⟩,⟨#[70,76,65,71]⟩] (by decide) (by kernel_rfl) rfl (by intro o ho;cases o;cases ho;kernel_rfl) h
theorem rop_75 (h:JR B w0 75 a w):wpOp Tryz.prog OPR Q 74 (JR B w0 76) a w:=rstep_row (i:=75) (by decide) (by decide) 74 (by decide) [⟨#[78,79,78,69]⟩,⟨#[65,67,84,73,86,65,84,69,84,65,83,75]⟩,⟨#[83,69,84,69,86,69,78,84]⟩,⟨#[67,79,77,67,65,76,76,66,65,67,75]⟩,⟨#[70,76,65,71]⟩] #[(0,.const (.string ⟨#[77,69,83,83,65,71,69]⟩)),(2,.const (.string ⟨#[78,79,84,73,70,73,67,65,84,73,79,78]⟩)),(3,.const (.int .i64 2)),(4,.tmp 74),(8,.const (.int .i64 2)),(9,.const (.string ⟨#[78,79,78,69]⟩))] (fun A5 c5=>#[(0,.string ⟨#[77,69,83,83,65,71,69]⟩),(2,.string ⟨#[78,79,84,73,70,73,67,65,84,73,79,78]⟩),(3,.int .i64 2),(4,.slice A5 5 c5),(8,.int .i64 2),(9,.string ⟨#[78,79,78,69]⟩)]) (by kernel_rfl) rfl rfl rfl (fun A5 c5 hw=>by first | (simp only [List.map_toArray,List.map_cons,List.map_nil,Act.eval,hw];done) | (simp only [List.map_toArray,List.map_cons,List.map_nil,Act.eval,hw];rfl)) (fun A5 c5 w=>by kernel_rfl) h
theorem rop_76 (h:JR B w0 76 a w):wpOp Tryz.prog OPR Q 75 (JR B w0 77) a w:=rstep_un (i:=76) (by decide) (by decide) ⟨#[78,79,84,73,70,73,67,65,84,73,79,78]⟩ ⟨#[65,67,84,73,86,65,84,69,84,65,83,75]⟩ (by kernel_rfl) rfl h
theorem rop_77 (h:JR B w0 77 a w):wpOp Tryz.prog OPR Q 76 (JR B w0 78) a w:=rstep_rou (i:=77) (by decide) (by decide) 76 (by decide) ⟨#[78,79,84,73,70,73,67,65,84,73,79,78]⟩ ⟨#[65,67,84,73,86,65,84,69,84,65,83,75]⟩ #[(0,.const (.string ⟨#[77,69,83,83,65,71,69]⟩)),(1,.tmp 76),(2,.const (.string ⟨#[84,65,83,75]⟩)),(3,.const (.int .i64 3)),(8,.const (.int .i64 1))] #[(0,.string ⟨#[77,69,83,83,65,71,69]⟩),(1,.agg #[.string ⟨#[78,79,84,73,70,73,67,65,84,73,79,78]⟩,.string ⟨#[65,67,84,73,86,65,84,69,84,65,83,75]⟩]),(2,.string ⟨#[84,65,83,75]⟩),(3,.int .i64 3),(8,.int .i64 1)] (by kernel_rfl) rfl rfl rfl (fun hu=>by first | (simp only [List.map_toArray,List.map_cons,List.map_nil,Act.eval,hu];done) | (simp only [List.map_toArray,List.map_cons,List.map_nil,Act.eval,hu];rfl)) (fun w=>by kernel_rfl) h
theorem rop_78 (h:JR B w0 78 a w):wpOp Tryz.prog OPR Q 77 (JR B w0 79) a w:=rstep_un (i:=78) (by decide) (by decide) ⟨#[78,79,84,73,70,73,67,65,84,73,79,78]⟩ ⟨#[83,69,84,69,86,69,78,84]⟩ (by kernel_rfl) rfl h
theorem rop_79 (h:JR B w0 79 a w):wpOp Tryz.prog OPR Q 78 (JR B w0 80) a w:=rstep_rou (i:=79) (by decide) (by decide) 78 (by decide) ⟨#[78,79,84,73,70,73,67,65,84,73,79,78]⟩ ⟨#[83,69,84,69,86,69,78,84]⟩ #[(0,.const (.string ⟨#[77,69,83,83,65,71,69]⟩)),(1,.tmp 78),(2,.const (.string ⟨#[84,65,83,75]⟩)),(3,.const (.int .i64 3)),(8,.const (.int .i64 1))] #[(0,.string ⟨#[77,69,83,83,65,71,69]⟩),(1,.agg #[.string ⟨#[78,79,84,73,70,73,67,65,84,73,79,78]⟩,.string ⟨#[83,69,84,69,86,69,78,84]⟩]),(2,.string ⟨#[84,65,83,75]⟩),(3,.int .i64 3),(8,.int .i64 1)] (by kernel_rfl) rfl rfl rfl (fun hu=>by first | (simp only [List.map_toArray,List.map_cons,List.map_nil,Act.eval,hu];done) | (simp only [List.map_toArray,List.map_cons,List.map_nil,Act.eval,hu];rfl)) (fun w=>by kernel_rfl) h
theorem rop_80 (h:JR B w0 80 a w):wpOp Tryz.prog OPR Q 79 (JR B w0 81) a w:=rstep_un (i:=80) (by decide) (by decide) ⟨#[78,79,84,73,70,73,67,65,84,73,79,78]⟩ ⟨#[83,69,84,69,86,69,78,84]⟩ (by kernel_rfl) rfl h
theorem rop_81 (h:JR B w0 81 a w):wpOp Tryz.prog OPR Q 80 (JR B w0 82) a w:=rstep_rou (i:=81) (by decide) (by decide) 80 (by decide) ⟨#[78,79,84,73,70,73,67,65,84,73,79,78]⟩ ⟨#[83,69,84,69,86,69,78,84]⟩ #[(0,.const (.string ⟨#[77,69,83,83,65,71,69]⟩)),(1,.tmp 80),(2,.const (.string ⟨#[69,86,69,78,84]⟩)),(3,.const (.int .i64 3)),(8,.const (.int .i64 1))] #[(0,.string ⟨#[77,69,83,83,65,71,69]⟩),(1,.agg #[.string ⟨#[78,79,84,73,70,73,67,65,84,73,79,78]⟩,.string ⟨#[83,69,84,69,86,69,78,84]⟩]),(2,.string ⟨#[69,86,69,78,84]⟩),(3,.int .i64 3),(8,.int .i64 1)] (by kernel_rfl) rfl rfl rfl (fun hu=>by first | (simp only [List.map_toArray,List.map_cons,List.map_nil,Act.eval,hu];done) | (simp only [List.map_toArray,List.map_cons,List.map_nil,Act.eval,hu];rfl)) (fun w=>by kernel_rfl) h
theorem rop_82 (h:JR B w0 82 a w):wpOp Tryz.prog OPR Q 81 (JR B w0 83) a w:=rstep_un (i:=82) (by decide) (by decide) ⟨#[78,79,84,73,70,73,67,65,84,73,79,78]⟩ ⟨#[67,79,77,67,65,76,76,66,65,67,75]⟩ (by kernel_rfl) rfl h
theorem rop_83 (h:JR B w0 83 a w):wpOp Tryz.prog OPR Q 82 (JR B w0 84) a w:=rstep_rou (i:=83) (by decide) (by decide) 82 (by decide) ⟨#[78,79,84,73,70,73,67,65,84,73,79,78]⟩ ⟨#[67,79,77,67,65,76,76,66,65,67,75]⟩ #[(0,.const (.string ⟨#[77,69,83,83,65,71,69]⟩)),(1,.tmp 82),(2,.const (.string ⟨#[67,79,77,67,65,76,76,66,65,67,75,78,65,77,69]⟩)),(3,.const (.int .i64 4)),(8,.const (.int .i64 1))] #[(0,.string ⟨#[77,69,83,83,65,71,69]⟩),(1,.agg #[.string ⟨#[78,79,84,73,70,73,67,65,84,73,79,78]⟩,.string ⟨#[67,79,77,67,65,76,76,66,65,67,75]⟩]),(2,.string ⟨#[67,79,77,67,65,76,76,66,65,67,75,78,65,77,69]⟩),(3,.int .i64 4),(8,.int .i64 1)] (by kernel_rfl) rfl rfl rfl (fun hu=>by first | (simp only [List.map_toArray,List.map_cons,List.map_nil,Act.eval,hu];done) | (simp only [List.map_toArray,List.map_cons,List.map_nil,Act.eval,hu];rfl)) (fun w=>by kernel_rfl) h
theorem rop_84 (h:JR B w0 84 a w):wpOp Tryz.prog OPR Q 83 (JR B w0 85) a w:=rstep_un (i:=84) (by decide) (by decide) ⟨#[78,79,84,73,70,73,67,65,84,73,79,78]⟩ ⟨#[70,76,65,71]⟩ (by kernel_rfl) rfl h
theorem rop_85 (h:JR B w0 85 a w):wpOp Tryz.prog OPR Q 84 (JR B w0 86) a w:=rstep_rou (i:=85) (by decide) (by decide) 84 (by decide) ⟨#[78,79,84,73,70,73,67,65,84,73,79,78]⟩ ⟨#[70,76,65,71]⟩ #[(0,.const (.string ⟨#[77,69,83,83,65,71,69]⟩)),(1,.tmp 84),(2,.const (.string ⟨#[70,76,65,71,78,65,77,69]⟩)),(3,.const (.int .i64 4)),(8,.const (.int .i64 1))] #[(0,.string ⟨#[77,69,83,83,65,71,69]⟩),(1,.agg #[.string ⟨#[78,79,84,73,70,73,67,65,84,73,79,78]⟩,.string ⟨#[70,76,65,71]⟩]),(2,.string ⟨#[70,76,65,71,78,65,77,69]⟩),(3,.int .i64 4),(8,.int .i64 1)] (by kernel_rfl) rfl rfl rfl (fun hu=>by first | (simp only [List.map_toArray,List.map_cons,List.map_nil,Act.eval,hu];done) | (simp only [List.map_toArray,List.map_cons,List.map_nil,Act.eval,hu];rfl)) (fun w=>by kernel_rfl) h
theorem rop_86 (h:JR B w0 86 a w):wpOp Tryz.prog OPR Q 85 (JR B w0 87) a w:=rstep_fin (by kernel_rfl) (by kernel_rfl) (by kernel_rfl) (by decide) (by decide) rfl (by kernel_rfl) h
theorem rop_all:∀ i,i<87→JR B w0 (i + 1) a w→wpOp Tryz.prog OPR Q i (JR B w0 (i + 2)) a w
 | 0,_,h=>rop_1 h
 | 1,_,h=>rop_2 h
 | 2,_,h=>rop_3 h
 | 3,_,h=>rop_4 h
 | 4,_,h=>rop_5 h
 | 5,_,h=>rop_6 h
 | 6,_,h=>rop_7 h
 | 7,_,h=>rop_8 h
 | 8,_,h=>rop_9 h
 | 9,_,h=>rop_10 h
 | 10,_,h=>rop_11 h
 | 11,_,h=>rop_12 h
 | 12,_,h=>rop_13 h
 | 13,_,h=>rop_14 h
 | 14,_,h=>rop_15 h
 | 15,_,h=>rop_16 h
 | 16,_,h=>rop_17 h
 | 17,_,h=>rop_18 h
 | 18,_,h=>rop_19 h
 | 19,_,h=>rop_20 h
 | 20,_,h=>rop_21 h
 | 21,_,h=>rop_22 h
 | 22,_,h=>rop_23 h
 | 23,_,h=>rop_24 h
 | 24,_,h=>rop_25 h
 | 25,_,h=>rop_26 h
 | 26,_,h=>rop_27 h
 | 27,_,h=>rop_28 h
 | 28,_,h=>rop_29 h
 | 29,_,h=>rop_30 h
 | 30,_,h=>rop_31 h
 | 31,_,h=>rop_32 h
 | 32,_,h=>rop_33 h
 | 33,_,h=>rop_34 h
 | 34,_,h=>rop_35 h
 | 35,_,h=>rop_36 h
 | 36,_,h=>rop_37 h
 | 37,_,h=>rop_38 h
 | 38,_,h=>rop_39 h
 | 39,_,h=>rop_40 h
 | 40,_,h=>rop_41 h
 | 41,_,h=>rop_42 h
 | 42,_,h=>rop_43 h
 | 43,_,h=>rop_44 h
 | 44,_,h=>rop_45 h
 | 45,_,h=>rop_46 h
 | 46,_,h=>rop_47 h
 | 47,_,h=>rop_48 h
 | 48,_,h=>rop_49 h
 | 49,_,h=>rop_50 h
 | 50,_,h=>rop_51 h
 | 51,_,h=>rop_52 h
 | 52,_,h=>rop_53 h
 | 53,_,h=>rop_54 h
 | 54,_,h=>rop_55 h
 | 55,_,h=>rop_56 h
 | 56,_,h=>rop_57 h
 | 57,_,h=>rop_58 h
 | 58,_,h=>rop_59 h
 | 59,_,h=>rop_60 h
 | 60,_,h=>rop_61 h
 | 61,_,h=>rop_62 h
 | 62,_,h=>rop_63 h
 | 63,_,h=>rop_64 h
 | 64,_,h=>rop_65 h
 | 65,_,h=>rop_66 h
 | 66,_,h=>rop_67 h
 | 67,_,h=>rop_68 h
 | 68,_,h=>rop_69 h
 | 69,_,h=>rop_70 h
 | 70,_,h=>rop_71 h
 | 71,_,h=>rop_72 h
 | 72,_,h=>rop_73 h
 | 73,_,h=>rop_74 h
 | 74,_,h=>rop_75 h
 | 75,_,h=>rop_76 h
 | 76,_,h=>rop_77 h
 | 77,_,h=>rop_78 h
 | 78,_,h=>rop_79 h
 | 79,_,h=>rop_80 h
 | 80,_,h=>rop_81 h
 | 81,_,h=>rop_82 h
 | 82,_,h=>rop_83 h
 | 83,_,h=>rop_84 h
 | 84,_,h=>rop_85 h
 | 85,_,h=>rop_86 h
 | 86,_,h=>rop_87 h
 | n + 87,hn,_=>absurd hn (by omega)
end
theorem region_seq {P : Program} {ops : Array Oper} {Q : Exit → Act → World → Prop} (I : Nat → Act → World → Prop) (hstep : ∀ i a w, i < ops.size → I i a w → wpOp P ops Q i (fun a' w' => I (i + 1) a' w') a w) (hfin : ∀ a w, I ops.size a w → Q .normal a w) {id : Nat} {a : Act} {w : World} (h : I 0 a w) : (Code.region id ops false).wp P Q a w := by
  refine wp_region ?_
  have key : ∀ n k a w, k + n = ops.size → I k a w → wpOps P ops Q (List.range' k n) a w := by
    intro n
    induction n with
    | zero => intro k a w hk h; obtain rfl : k = ops.size := by omega
              exact hfin a w h
    | succ n ih =>
      intro k a w hk h
      have hs := hstep k a w (by omega) h
      have h2 := wpOp_mono (K' := wpOps P ops Q (List.range' (k + 1) n)) (fun a' w' h' => ih (k + 1) a' w' (by omega) h') hs
      rw [List.range'_succ]
      unfold wpOp at h2
      show wpOps P ops Q (k :: List.range' (k + 1) n) a w
      unfold wpOps
      cases ho : ops[k]? with
      | none => rw [Array.getElem?_eq_getElem (by omega)] at ho; cases ho
      | some o => rw [ho] at h2; exact h2
  rw [List.range_eq_range']
  exact key ops.size 0 a w (by omega) h
theorem region_rrows {P:Program} {Q:Exit→Act→World→Prop} {ops:Array Oper} (ho:ops=OPR) (hP:P=Tryz.prog) {id:Nat} {a:Act} {w:World} (hd:a.defers=[]) (hz:a.tmps.size=87)
  (hfin:∀ a' w' v,a'.defers=[]→a'.tmps.getD 0 undef=v→Below w.heap.size w w'→Kd.R kRow 60 w' w.heap.size (fun _=>True) v tab→Q .normal a' w'):(Code.region id ops false).wp P Q a w:=by
 subst ho
 subst hP
 refine region_seq (fun i a' w'=>JR w.heap.size w (i + 1) a' w') (fun i a' w' hi hI=>rop_all i (by rw [opr_size] at hi;exact hi) hI) (fun a' w' hI=>?_) ⟨hd,hz,Below.refl _ _,Nat.le_refl _,fun j h1 h2 _=>by omega,fun e=>by omega⟩
 rw [opr_size] at hI
 exact hfin a' w' _ hI.df rfl hI.bel (hI.fn rfl)
theorem rrows_calls (w:World):Calls Tryz.prog 26 #[] w fun e w'=>(∃ v,e=.returned v∧Kd.R kRow 60 w' w.heap.size (fun _=>True) v tab)∧Below w.heap.size w w':=by
 go_enter Tryz.func26,Tryz.ntmps26
 go_upto_region 1 with fail
 refine region_rrows (by kernel_rfl) rfl rfl (by rfl) ?_
 intro a' w' v hd hv hB hR
 have hR2:bodyPost Tryz.prog Tryz.f26 (fun e w'=>(∃ v,e=.returned v∧Kd.R kRow 60 w' w.heap.size (fun _=>True) v tab)∧Below w.heap.size w w') .ret a' w' :=
  bodyPost_ret (v:=v) (by simp [results,Tryz.results26,go_sem];rw [Array.getD_eq_getD_getElem?] at hv;exact hv) hd ⟨⟨v,rfl,hR⟩,hB⟩
 first
  | (rename_i hK;exact hK a' w' (wp_ret hR2))
  | exact wp_ret hR2
end Go.Proofs.YtmfejjlmflgnbaaGreatDoor.Sc

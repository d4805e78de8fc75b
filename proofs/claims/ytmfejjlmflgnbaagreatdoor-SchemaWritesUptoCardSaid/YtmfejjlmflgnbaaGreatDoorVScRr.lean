/- CONTRACT: the document's Rows: the table, new each time (one literal of 49 rows, operation by operation). -/
import Derived.Test.YtmfejjlmflgnbaaGreatDoorVRows0
set_option linter.unusedVariables false
set_option linter.unusedSimpArgs false
set_option maxRecDepth 100000
namespace Go.Proofs.YtmfejjlmflgnbaaGreatDoor.Sc
open RowKit PA YtmfejjlmflgnbaaGreatDoorW.PrintWords YtmfejjlmflgnbaaGreatDoorW.PrintLast YtmfejjlmflgnbaaGreatDoorW.PrintMore Sp Tr Tok
noncomputable def OPR:Array Oper:=opsOf Tryz.f26 1
theorem opr_size:OPR.size=87:=by kernel_rfl
inductive RR where
 | wd (l:List ByteArray)
 | un (a b:ByteArray)
 | ro (x:SR)
 | fin
def Gr (B:Nat) (w:World):RR->Value->Prop
 | .wd l,v=>Kd.R Kd.string 9 w B (fun _=>True) v l
 | .un a b,v=>v=.agg #[.string a,.string b]
 | .ro x,v=>∃ cs:List Value,v=.agg cs.toArray/\kRow.M w B (fun _=>True) x cs
 | .fin,v=>Kd.R kRow 60 w B (fun _=>True) v tab
theorem Gr.below {B:Nat} {w w':World} {k:RR} {v:Value} (h:Gr B w k v) (hB:Below w.heap.size w w'):Gr B w' k v:=by
 cases k with
 | wd l=>exact Kd.R_below h hB
 | un a b=>exact h
 | ro x=>obtain ⟨cs,h1,h2⟩:=h;exact ⟨cs,h1,Kd.M_below h2 hB⟩
 | fin=>exact Kd.R_below h hB
def KRL:List RR:=[
 .wd [⟨#[83,84,65,78,68,65,82,68]⟩,⟨#[69,88,84,69,78,68,69,68]⟩],
 .ro (tab.getD 0 zRow),
 .wd [⟨#[84,82,85,69]⟩,⟨#[70,65,76,83,69]⟩],
 .ro (tab.getD 1 zRow),
 .wd [⟨#[84,82,85,69]⟩,⟨#[70,65,76,83,69]⟩],
 .ro (tab.getD 2 zRow),
 .wd [⟨#[84,82,85,69]⟩,⟨#[70,65,76,83,69]⟩],
 .ro (tab.getD 3 zRow),
 .wd [⟨#[84,82,85,69]⟩,⟨#[70,65,76,83,69]⟩],
 .ro (tab.getD 4 zRow),
 .wd [⟨#[84,82,85,69]⟩,⟨#[70,65,76,83,69]⟩],
 .ro (tab.getD 5 zRow),
 .wd [⟨#[84,82,85,69]⟩,⟨#[70,65,76,83,69]⟩],
 .ro (tab.getD 6 zRow),
 .wd [⟨#[84,82,85,69]⟩,⟨#[70,65,76,83,69]⟩],
 .ro (tab.getD 7 zRow),
 .wd [⟨#[84,82,85,69]⟩,⟨#[70,65,76,83,69]⟩],
 .ro (tab.getD 8 zRow),
 .ro (tab.getD 9 zRow),
 .wd [⟨#[78,79,78]⟩,⟨#[70,85,76,76]⟩],
 .ro (tab.getD 10 zRow),
 .ro (tab.getD 11 zRow),
 .wd [⟨#[84,82,85,69]⟩,⟨#[70,65,76,83,69]⟩],
 .ro (tab.getD 12 zRow),
 .un ⟨#[65,85,84,79,83,84,65,82,84]⟩ ⟨#[84,82,85,69]⟩,
 .ro (tab.getD 13 zRow),
 .ro (tab.getD 14 zRow),
 .ro (tab.getD 15 zRow),
 .ro (tab.getD 16 zRow),
 .ro (tab.getD 17 zRow),
 .ro (tab.getD 18 zRow),
 .ro (tab.getD 19 zRow),
 .ro (tab.getD 20 zRow),
 .wd [⟨#[83,84,65,78,68,65,82,68]⟩,⟨#[76,73,78,75,69,68]⟩,⟨#[73,78,84,69,82,78,65,76]⟩],
 .ro (tab.getD 21 zRow),
 .un ⟨#[82,69,83,79,85,82,67,69,80,82,79,80,69,82,84,89]⟩ ⟨#[76,73,78,75,69,68]⟩,
 .ro (tab.getD 22 zRow),
 .ro (tab.getD 23 zRow),
 .ro (tab.getD 24 zRow),
 .ro (tab.getD 25 zRow),
 .ro (tab.getD 26 zRow),
 .ro (tab.getD 27 zRow),
 .wd [⟨#[65,67,84,73,86,65,84,69,84,65,83,75]⟩,⟨#[83,69,84,69,86,69,78,84]⟩,⟨#[65,76,65,82,77,67,65,76,76,66,65,67,75]⟩],
 .ro (tab.getD 28 zRow),
 .un ⟨#[65,67,84,73,79,78]⟩ ⟨#[65,67,84,73,86,65,84,69,84,65,83,75]⟩,
 .ro (tab.getD 29 zRow),
 .un ⟨#[65,67,84,73,79,78]⟩ ⟨#[83,69,84,69,86,69,78,84]⟩,
 .ro (tab.getD 30 zRow),
 .un ⟨#[65,67,84,73,79,78]⟩ ⟨#[83,69,84,69,86,69,78,84]⟩,
 .ro (tab.getD 31 zRow),
 .un ⟨#[65,67,84,73,79,78]⟩ ⟨#[65,76,65,82,77,67,65,76,76,66,65,67,75]⟩,
 .ro (tab.getD 32 zRow),
 .wd [⟨#[84,82,85,69]⟩,⟨#[70,65,76,83,69]⟩],
 .ro (tab.getD 33 zRow),
 .un ⟨#[65,85,84,79,83,84,65,82,84]⟩ ⟨#[84,82,85,69]⟩,
 .ro (tab.getD 34 zRow),
 .un ⟨#[65,85,84,79,83,84,65,82,84]⟩ ⟨#[84,82,85,69]⟩,
 .ro (tab.getD 35 zRow),
 .un ⟨#[65,85,84,79,83,84,65,82,84]⟩ ⟨#[84,82,85,69]⟩,
 .ro (tab.getD 36 zRow),
 .wd [⟨#[83,69,78,68,95,83,84,65,84,73,67,95,73,78,84,69,82,78,65,76]⟩,⟨#[82,69,67,69,73,86,69,95,85,78,81,85,69,85,69,68,95,73,78,84,69,82,78,65,76]⟩,⟨#[82,69,67,69,73,86,69,95,81,85,69,85,69,68,95,73,78,84,69,82,78,65,76]⟩],
 .ro (tab.getD 37 zRow),
 .un ⟨#[77,69,83,83,65,71,69,80,82,79,80,69,82,84,89]⟩ ⟨#[83,69,78,68,95,83,84,65,84,73,67,95,73,78,84,69,82,78,65,76]⟩,
 .wd [⟨#[117,105,110,116,56]⟩,⟨#[117,105,110,116,49,54]⟩,⟨#[117,105,110,116,51,50]⟩,⟨#[117,105,110,116,54,52]⟩],
 .ro (tab.getD 38 zRow),
 .un ⟨#[77,69,83,83,65,71,69,80,82,79,80,69,82,84,89]⟩ ⟨#[82,69,67,69,73,86,69,95,85,78,81,85,69,85,69,68,95,73,78,84,69,82,78,65,76]⟩,
 .ro (tab.getD 39 zRow),
 .un ⟨#[77,69,83,83,65,71,69,80,82,79,80,69,82,84,89]⟩ ⟨#[82,69,67,69,73,86,69,95,85,78,81,85,69,85,69,68,95,73,78,84,69,82,78,65,76]⟩,
 .ro (tab.getD 40 zRow),
 .un ⟨#[77,69,83,83,65,71,69,80,82,79,80,69,82,84,89]⟩ ⟨#[82,69,67,69,73,86,69,95,81,85,69,85,69,68,95,73,78,84,69,82,78,65,76]⟩,
 .ro (tab.getD 41 zRow),
 .un ⟨#[77,69,83,83,65,71,69,80,82,79,80,69,82,84,89]⟩ ⟨#[82,69,67,69,73,86,69,95,81,85,69,85,69,68,95,73,78,84,69,82,78,65,76]⟩,
 .ro (tab.getD 42 zRow),
 .wd [⟨#[78,79,78,69]⟩,⟨#[65,67,84,73,86,65,84,69,84,65,83,75]⟩,⟨#[83,69,84,69,86,69,78,84]⟩,⟨#[67,79,77,67,65,76,76,66,65,67,75]⟩,⟨#[70,76,65,71]⟩],
 .ro (tab.getD 43 zRow),
 .un ⟨#[78,79,84,73,70,73,67,65,84,73,79,78]⟩ ⟨#[65,67,84,73,86,65,84,69,84,65,83,75]⟩,
 .ro (tab.getD 44 zRow),
 .un ⟨#[78,79,84,73,70,73,67,65,84,73,79,78]⟩ ⟨#[83,69,84,69,86,69,78,84]⟩,
 .ro (tab.getD 45 zRow),
 .un ⟨#[78,79,84,73,70,73,67,65,84,73,79,78]⟩ ⟨#[83,69,84,69,86,69,78,84]⟩,
 .ro (tab.getD 46 zRow),
 .un ⟨#[78,79,84,73,70,73,67,65,84,73,79,78]⟩ ⟨#[67,79,77,67,65,76,76,66,65,67,75]⟩,
 .ro (tab.getD 47 zRow),
 .un ⟨#[78,79,84,73,70,73,67,65,84,73,79,78]⟩ ⟨#[70,76,65,71]⟩,
 .ro (tab.getD 48 zRow),
 .fin]
def kr (i:Nat):RR:=KRL.getD (i - 1) .fin
def SLR:List Nat:=[2,4,6,8,10,12,14,16,18,19,21,22,24,26,27,28,29,30,31,32,33,35,37,38,39,40,41,42,44,46,48,50,52,54,56,58,60,62,65,67,69,71,73,75,77,79,81,83,85]
def rrOf:RR->SR
 | .ro x=>x
 | _=>zRow
def isRr:RR->Bool
 | .ro _=>true
 | _=>false
structure JR (B:Nat) (w0:World) (i:Nat) (a:Act) (w:World):Prop where
 df:a.defers=[]
 sz:a.tmps.size=87
 bel:Below B w0 w
 bas:B<=w0.heap.size
 gd:∀ j,0<j->j<i->j<87->Gr B w (kr j) (a.tmps.getD j undef)
 fn:i=88->Kd.R kRow 60 w B (fun _=>True) (a.tmps.getD 0 undef) tab
theorem JR.put {B:Nat} {w0:World} {i:Nat} {a:Act} {w w':World} {v:Value} (h:JR B w0 i a w) (h0:0<i) (hi:i<87) (hB:Below w.heap.size w w') (hnew:Gr B w' (kr i) v):JR B w0 (i + 1) (a.put (some i) v) w' where
 df:=h.df
 sz:=by show (a.tmps.setIfInBounds i v).size=87;simp [h.sz]
 bel:=h.bel.trans (hB.mono (Nat.le_trans h.bas h.bel.size))
 bas:=h.bas
 gd:=fun j h1 h2 h3=>by
  rw [put_getD a _ _ _ (by rw [h.sz];exact hi)]
  by_cases e:i=j
  ·subst e;rw [if_pos rfl];exact hnew
  ·rw [if_neg e]
   exact (h.gd j h1 (by omega) h3).below hB
 fn:=fun e=>by omega
section
variable {Q:Exit->Act->World->Prop} {B:Nat} {w0:World} {a:Act} {w:World} {i:Nat}
theorem jr_below (h:JR B w0 i a w):B<=w.heap.size:=Nat.le_trans h.bas h.bel.size
theorem rstep_value {K:Act->World->Prop} {d:Nat} {op:Op} {v:Value} {w1:World} (ho:(OPR[i - 1]?).map (fun o=>(o.op,o.dst,o.guard))=some (op,some d,none))
  (hrun:∀ o:Oper,o.op=op->(execOp a.eval o).run Tryz.prog w=.ok (.value v) w1) (h:K (a.put (some d) v) w1):wpOp Tryz.prog OPR Q (i - 1) K a w:=by
 cases hO:OPR[i - 1]? with
 | none=>rw [hO] at ho;cases ho
 | some o =>
  rw [hO] at ho;simp only [Option.map_some,Option.some.injEq,Prod.mk.injEq] at ho;have h3:Region.wanted o (yielded OPR a.tmps)=true:=by unfold Region.wanted;rw [ho.2.2]
  refine wpOp_step hO (fun K' hK=>?_)
  rw [ho.2.1];exact value_ h3 ho.2.1 (hrun o ho.1) (hK _ _ h)
theorem rop_87 (h:JR B w0 87 a w):wpOp Tryz.prog OPR Q 86 (JR B w0 88) a w :=
 rstep_value (i:=87) (d:=0) (op:=.assign (.tmp 86)) (v:=a.tmps.getD 86 undef) (w1:=w) (by kernel_rfl) (fun o ho=>by unfold execOp;rw [ho];rfl)
  ⟨h.df,by show (a.tmps.setIfInBounds 0 _).size=87;simp [h.sz],h.bel,h.bas,fun j h1 h2 h3=>by
   rw [put_getD a _ _ _ (by rw [h.sz];decide),if_neg (by omega)];exact h.gd j h1 (by omega) h3,fun _=>by
   rw [put_getD a _ _ _ (by rw [h.sz];decide),if_pos rfl]
   exact h.gd 86 (by decide) (by decide) (by decide)⟩
noncomputable def opR (i:Nat):Op:=match OPR[i - 1]? with
 | some o=>o.op
 | none=>.move (.tmp 0)
noncomputable def PPR (i:Nat):Array (Nat × Operand):=match opR i with
 | .build _ P=>P
 | _=>#[]
def okW (s u:Nat):Operand->Bool
 | .const _=>true
 | .tmp j=>j == s||j == u
 | _=>false
def evW (s:Nat) (X:Value) (u:Nat) (Y:Value):Operand->Value
 | .const v=>v
 | .tmp j=>if j=s then X else Y
 | _=>undef
theorem hpW {P:Array (Nat × Operand)} {s u:Nat} {X Y:Value} (hP:(P.toList.all fun p=>okW s u p.2)=true) (h1:a.tmps.getD s undef=X) (h2:a.tmps.getD u undef=Y):P.map (fun p=>(p.1,a.eval p.2))=P.map (fun p=>(p.1,evW s X u Y p.2)):=by
 refine Array.map_congr_left fun p hp=>?_
 have h:=List.all_eq_true.1 hP p (by simpa using hp);obtain ⟨n,o⟩:=p;cases o with
 | const v=>rfl
 | tmp j =>
  have h2':j=s∨j=u:=by simpa [okW] using h
  show (n,a.tmps.getD j undef)=(n,if j=s then X else Y)
  by_cases e:j=s
  ·rw [if_pos e,e,h1]
  ·rw [if_neg e,h2'.resolve_left e,h2]
 | _=>cases h
theorem rstep_wd (h0:0<i) (hi:i<87) {ws:List ByteArray} (ho:(OPR[i - 1]?).map (fun o=>(o.op,o.dst,o.guard))=some (opR i,some i,none)) (hk:kr i=.wd ws) (hm:ws.length<=1000)
  (hrun:∀ o:Oper,o.op=opR i->(execOp a.eval o).run Tryz.prog w=.ok (.value (.slice (some ⟨w.heap.size,0,none⟩) ws.length ws.length)) (w.alloc (.cells (encs Value.string ws).toArray 9)))
  (h:JR B w0 i a w):wpOp Tryz.prog OPR Q (i - 1) (JR B w0 (i + 1)) a w :=
 rstep_value ho hrun (h.put h0 hi (alloc_below _ _) (by
  rw [hk]
  exact words_lit w ws B _ (jr_below h) trivial hm))
theorem rstep_un (h0:0<i) (hi:i<87) {s t:ByteArray} (ho:(OPR[i - 1]?).map (fun o=>(o.op,o.dst,o.guard))=some (.build 56 #[(0,.const (.string s)),(1,.const (.string t))],some i,none)) (hk:kr i=.un s t)
  (h:JR B w0 i a w):wpOp Tryz.prog OPR Q (i - 1) (JR B w0 (i + 1)) a w :=
 rstep_value (v:=.agg #[.string s,.string t]) (w1:=w) ho (by intro o ho;cases o;cases ho;kernel_rfl) (h.put h0 hi (Below.refl _ _) (by
  rw [hk]
  exact rfl))
def rowA (x:SR) (v5:Value):Value:=.agg #[.string x.obj,.string x.un,.string x.uw,.string x.name,.int .i64 x.want,v5,.int .u32 x.lo,.int .u32 x.hi,.bool x.auto,.int .i64 x.times,.string x.dflt]
theorem rstep_gen (h0:0<i) (hi:i<87) (P:Array (Nat × Operand)) (VV:Array (Nat × Value)) {x:SR} {v5:Value} (ho:(OPR[i - 1]?).map (fun o=>(o.op,o.dst,o.guard))=some (.build 60 P,some i,none)) (hk:kr i=.ro x)
  (hp:P.map (fun p=>(p.1,a.eval p.2))=VV) (hrun:(Instr.build 60 VV).run Tryz.prog w=.ok (rowA x v5) w) (hR:Kd.R Kd.string 9 w B (fun _=>True) v5 x.words) (h:JR B w0 i a w):wpOp Tryz.prog OPR Q (i - 1) (JR B w0 (i + 1)) a w :=
 rstep_value (v:=rowA x v5) (w1:=w) ho (fun o hop=>by
  unfold execOp;rw [hop];simp only [hp]
  simp [hrun]) (h.put h0 hi (Below.refl _ _) (by
  rw [hk]
  exact ⟨_,rfl,kRow_mkM w B _ x hR⟩))
theorem rstep_ro (h0:0<i) (hi:i<87) {x:SR} (ho:(OPR[i - 1]?).map (fun o=>(o.op,o.dst,o.guard))=some (.build 60 (PPR i),some i,none)) (hk:kr i=.ro x) (hw:x.words=[]) (hp:((PPR i).toList.all fun p=>okW 0 0 p.2)=true)
  (hrun:∀ (X:Value) w,(Instr.build 60 ((PPR i).map fun p=>(p.1,evW 0 X 0 X p.2))).run Tryz.prog w=.ok (rowA x (.slice none 0 0)) w) (h:JR B w0 i a w):wpOp Tryz.prog OPR Q (i - 1) (JR B w0 (i + 1)) a w :=
 rstep_gen h0 hi (PPR i) _ ho hk (hpW hp rfl rfl) (hrun _ w) (by rw [hw];exact Kd.R_nil _ _ _ _ _) h
theorem rstep_row (h0:0<i) (hi:i<87) (s:Nat) (hs:0<s/\s<i) {ws:List ByteArray} {x:SR} (ho:(OPR[i - 1]?).map (fun o=>(o.op,o.dst,o.guard))=some (.build 60 (PPR i),some i,none)) (hk:kr i=.ro x) (hks:kr s=.wd ws) (hw:x.words=ws) (hp:((PPR i).toList.all fun p=>okW s s p.2)=true)
  (hrun:∀ A5 c5 w,(Instr.build 60 ((PPR i).map fun p=>(p.1,evW s (.slice A5 ws.length c5) s (.slice A5 ws.length c5) p.2))).run Tryz.prog w=.ok (rowA x (.slice A5 ws.length c5)) w) (h:JR B w0 i a w):wpOp Tryz.prog OPR Q (i - 1) (JR B w0 (i + 1)) a w:=by
 have hg:=h.gd s hs.1 hs.2 (by omega);rw [hks] at hg;obtain ⟨A,c,hv⟩:=RForm (show Kd.R Kd.string 9 w B (fun _=>True) _ ws from hg);have hg2:Kd.R Kd.string 9 w B (fun _=>True) (a.tmps.getD s undef) ws:=hg;rw [hv] at hg2;exact rstep_gen h0 hi (PPR i) _ ho hk (hpW hp hv hv) (hrun A c w) (by rw [hw];exact hg2) h
theorem rstep_rou (h0:0<i) (hi:i<87) (u:Nat) (hu:0<u/\u<i) {s1 t1:ByteArray} {x:SR} (ho:(OPR[i - 1]?).map (fun o=>(o.op,o.dst,o.guard))=some (.build 60 (PPR i),some i,none)) (hk:kr i=.ro x) (hku:kr u=.un s1 t1) (hw:x.words=[]) (hp:((PPR i).toList.all fun p=>okW u u p.2)=true)
  (hrun:∀ w,(Instr.build 60 ((PPR i).map fun p=>(p.1,evW u (.agg #[.string s1,.string t1]) u (.agg #[.string s1,.string t1]) p.2))).run Tryz.prog w=.ok (rowA x (.slice none 0 0)) w) (h:JR B w0 i a w):wpOp Tryz.prog OPR Q (i - 1) (JR B w0 (i + 1)) a w:=by
 have hg:=h.gd u hu.1 hu.2 (by omega);rw [hku] at hg;exact rstep_gen h0 hi (PPR i) _ ho hk (hpW hp hg hg) (hrun w) (by rw [hw];exact Kd.R_nil _ _ _ _ _) h
theorem rstep_ro2 (h0:0<i) (hi:i<87) (u s:Nat) (hu:0<u/\u<i) (hs:0<s/\s<i) {s1 t1:ByteArray} {ws:List ByteArray} {x:SR} (ho:(OPR[i - 1]?).map (fun o=>(o.op,o.dst,o.guard))=some (.build 60 (PPR i),some i,none)) (hk:kr i=.ro x) (hku:kr u=.un s1 t1) (hks:kr s=.wd ws) (hw:x.words=ws) (hp:((PPR i).toList.all fun p=>okW s u p.2)=true)
  (hrun:∀ A5 c5 w,(Instr.build 60 ((PPR i).map fun p=>(p.1,evW s (.slice A5 ws.length c5) u (.agg #[.string s1,.string t1]) p.2))).run Tryz.prog w=.ok (rowA x (.slice A5 ws.length c5)) w) (h:JR B w0 i a w):wpOp Tryz.prog OPR Q (i - 1) (JR B w0 (i + 1)) a w:=by
 have hgu:=h.gd u hu.1 hu.2 (by omega);rw [hku] at hgu;have hg:=h.gd s hs.1 hs.2 (by omega);rw [hks] at hg;obtain ⟨A,c,hv⟩:=RForm (show Kd.R Kd.string 9 w B (fun _=>True) _ ws from hg);have hg2:Kd.R Kd.string 9 w B (fun _=>True) (a.tmps.getD s undef) ws:=hg;rw [hv] at hg2;exact rstep_gen h0 hi (PPR i) _ ho hk (hpW hp hv hgu) (hrun A c w) (by rw [hw];exact hg2) h
theorem pick_rr:∀ (js:List Nat) (ok:Nat->Prop),(∀ j ∈ js,∃ cs:List Value,a.tmps.getD j undef=.agg cs.toArray/\kRow.M w B ok (rrOf (kr j)) cs)->(∀ s ∈ js,(a.tmps.getD s undef).cells.size=11)/\Reps (kRow.M w B ok) 11 (js.map (fun j=>rrOf (kr j))) (js.map (fun s=>(a.tmps.getD s undef).cells.toList)).flatten
 | [],ok,_=>⟨(fun s hs=>by cases hs),Reps.none _ _⟩
 | j :: js,ok,hj=>by
  obtain ⟨h1,h2⟩:=pick_rr js ok (fun j' h'=>hj j' (List.mem_cons_of_mem _ h'));obtain ⟨cs,hv,hM⟩:=hj j List.mem_cons_self;have hcl:cs.length=11:=kRow.K_len (kRow.K_of_M hM);have hcc:(a.tmps.getD j undef).cells.toList=cs:=by rw [hv];rfl
  refine ⟨fun s hs=>?_,?_⟩
  ·rcases List.mem_cons.1 hs with e | e
   ·rw [e,<- Array.length_toList,hcc,hcl]
   ·exact h1 s e
  ·rw [List.map_cons,List.map_cons,List.flatten_cons,hcc]
   exact reps_cons h2 hM hcl
theorem rstep_fin (ho:(OPR[85]?).map (fun o=>(o.op,o.dst,o.guard))=some (.buildSlice 53 SLR.length (SLR.zipIdx.map fun p=>(p.2,Operand.tmp p.1)).toArray,some 86,none))
  (hjs:(SLR.all fun j=>isRr (kr j)&&decide (0<j)&&decide (j<86))=true) (htab:SLR.map (fun j=>rrOf (kr j))=tab) (h0:0<SLR.length) (hn:SLR.length<=100) (hk:kr 86=.fin) (hlen:SLR.length=tab.length)
  (h:JR B w0 86 a w):wpOp Tryz.prog OPR Q 85 (JR B w0 87) a w:=by
 have hall:∀ j ∈ SLR,∃ cs:List Value,a.tmps.getD j undef=.agg cs.toArray/\kRow.M w B (fun _=>True) (rrOf (kr j)) cs:=fun j hj=>by
  have hb:=List.all_eq_true.1 hjs j hj;simp only [Bool.and_eq_true,decide_eq_true_eq] at hb;obtain ⟨⟨b1,b2⟩,b3⟩:=hb;have hg:=h.gd j b2 b3 (by omega);cases hkj:kr j with
  | ro x=>rw [hkj] at hg;exact hg
  | _=>rw [hkj] at b1;cases b1
 obtain ⟨hl,hreps⟩:=pick_rr (a:=a) SLR _ hall;rw [htab] at hreps
 refine rstep_value (i:=86) ho (fun o hop=>run_vals (T:=53) (e:=60) (sz:=11) Tryz.underlying53 infoRow rfl (by decide) (by decide) SLR hop hl h0 hn) (h.put (by decide) (by decide) (alloc_below _ _) ?_)
 rw [hk,hlen];exact R_made kRow B 60 hreps (fun _ _ _=>trivial) trivial (jr_below h) (by rw [<- hlen];omega)
set_option maxHeartbeats 64000000 in
theorem rop_all:∀ i,i<87->JR B w0 (i + 1) a w->wpOp Tryz.prog OPR Q i (JR B w0 (i + 2)) a w
 | 0,_,h=>rstep_wd (i:=1) (by decide) (by decide) (by kernel_rfl) rfl (by decide) (by intro o ho;unfold execOp;rw [ho];kernel_rfl) h
 | 1,_,h=>rstep_row (i:=2) (by decide) (by decide) 1 (by decide) (by kernel_rfl) rfl rfl rfl (by kernel_rfl) (fun A5 c5 w=>by kernel_rfl) h
 | 2,_,h=>rstep_wd (i:=3) (by decide) (by decide) (by kernel_rfl) rfl (by decide) (by intro o ho;unfold execOp;rw [ho];kernel_rfl) h
 | 3,_,h=>rstep_row (i:=4) (by decide) (by decide) 3 (by decide) (by kernel_rfl) rfl rfl rfl (by kernel_rfl) (fun A5 c5 w=>by kernel_rfl) h
 | 4,_,h=>rstep_wd (i:=5) (by decide) (by decide) (by kernel_rfl) rfl (by decide) (by intro o ho;unfold execOp;rw [ho];kernel_rfl) h
 | 5,_,h=>rstep_row (i:=6) (by decide) (by decide) 5 (by decide) (by kernel_rfl) rfl rfl rfl (by kernel_rfl) (fun A5 c5 w=>by kernel_rfl) h
 | 6,_,h=>rstep_wd (i:=7) (by decide) (by decide) (by kernel_rfl) rfl (by decide) (by intro o ho;unfold execOp;rw [ho];kernel_rfl) h
 | 7,_,h=>rstep_row (i:=8) (by decide) (by decide) 7 (by decide) (by kernel_rfl) rfl rfl rfl (by kernel_rfl) (fun A5 c5 w=>by kernel_rfl) h
 | 8,_,h=>rstep_wd (i:=9) (by decide) (by decide) (by kernel_rfl) rfl (by decide) (by intro o ho;unfold execOp;rw [ho];kernel_rfl) h
 | 9,_,h=>rstep_row (i:=10) (by decide) (by decide) 9 (by decide) (by kernel_rfl) rfl rfl rfl (by kernel_rfl) (fun A5 c5 w=>by kernel_rfl) h
 | 10,_,h=>rstep_wd (i:=11) (by decide) (by decide) (by kernel_rfl) rfl (by decide) (by intro o ho;unfold execOp;rw [ho];kernel_rfl) h
 | 11,_,h=>rstep_row (i:=12) (by decide) (by decide) 11 (by decide) (by kernel_rfl) rfl rfl rfl (by kernel_rfl) (fun A5 c5 w=>by kernel_rfl) h
 | 12,_,h=>rstep_wd (i:=13) (by decide) (by decide) (by kernel_rfl) rfl (by decide) (by intro o ho;unfold execOp;rw [ho];kernel_rfl) h
 | 13,_,h=>rstep_row (i:=14) (by decide) (by decide) 13 (by decide) (by kernel_rfl) rfl rfl rfl (by kernel_rfl) (fun A5 c5 w=>by kernel_rfl) h
 | 14,_,h=>rstep_wd (i:=15) (by decide) (by decide) (by kernel_rfl) rfl (by decide) (by intro o ho;unfold execOp;rw [ho];kernel_rfl) h
 | 15,_,h=>rstep_row (i:=16) (by decide) (by decide) 15 (by decide) (by kernel_rfl) rfl rfl rfl (by kernel_rfl) (fun A5 c5 w=>by kernel_rfl) h
 | 16,_,h=>rstep_wd (i:=17) (by decide) (by decide) (by kernel_rfl) rfl (by decide) (by intro o ho;unfold execOp;rw [ho];kernel_rfl) h
 | 17,_,h=>rstep_row (i:=18) (by decide) (by decide) 17 (by decide) (by kernel_rfl) rfl rfl rfl (by kernel_rfl) (fun A5 c5 w=>by kernel_rfl) h
 | 18,_,h=>rstep_ro (i:=19) (by decide) (by decide) (by kernel_rfl) rfl rfl (by kernel_rfl) (fun X w=>by kernel_rfl) h
 | 19,_,h=>rstep_wd (i:=20) (by decide) (by decide) (by kernel_rfl) rfl (by decide) (by intro o ho;unfold execOp;rw [ho];kernel_rfl) h
 | 20,_,h=>rstep_row (i:=21) (by decide) (by decide) 20 (by decide) (by kernel_rfl) rfl rfl rfl (by kernel_rfl) (fun A5 c5 w=>by kernel_rfl) h
 | 21,_,h=>rstep_ro (i:=22) (by decide) (by decide) (by kernel_rfl) rfl rfl (by kernel_rfl) (fun X w=>by kernel_rfl) h
 | 22,_,h=>rstep_wd (i:=23) (by decide) (by decide) (by kernel_rfl) rfl (by decide) (by intro o ho;unfold execOp;rw [ho];kernel_rfl) h
 | 23,_,h=>rstep_row (i:=24) (by decide) (by decide) 23 (by decide) (by kernel_rfl) rfl rfl rfl (by kernel_rfl) (fun A5 c5 w=>by kernel_rfl) h
 | 24,_,h=>rstep_un (i:=25) (by decide) (by decide) (by kernel_rfl) rfl h
 | 25,_,h=>rstep_rou (i:=26) (by decide) (by decide) 25 (by decide) (by kernel_rfl) rfl rfl rfl (by kernel_rfl) (fun w=>by kernel_rfl) h
 | 26,_,h=>rstep_ro (i:=27) (by decide) (by decide) (by kernel_rfl) rfl rfl (by kernel_rfl) (fun X w=>by kernel_rfl) h
 | 27,_,h=>rstep_ro (i:=28) (by decide) (by decide) (by kernel_rfl) rfl rfl (by kernel_rfl) (fun X w=>by kernel_rfl) h
 | 28,_,h=>rstep_ro (i:=29) (by decide) (by decide) (by kernel_rfl) rfl rfl (by kernel_rfl) (fun X w=>by kernel_rfl) h
 | 29,_,h=>rstep_ro (i:=30) (by decide) (by decide) (by kernel_rfl) rfl rfl (by kernel_rfl) (fun X w=>by kernel_rfl) h
 | 30,_,h=>rstep_ro (i:=31) (by decide) (by decide) (by kernel_rfl) rfl rfl (by kernel_rfl) (fun X w=>by kernel_rfl) h
 | 31,_,h=>rstep_ro (i:=32) (by decide) (by decide) (by kernel_rfl) rfl rfl (by kernel_rfl) (fun X w=>by kernel_rfl) h
 | 32,_,h=>rstep_ro (i:=33) (by decide) (by decide) (by kernel_rfl) rfl rfl (by kernel_rfl) (fun X w=>by kernel_rfl) h
 | 33,_,h=>rstep_wd (i:=34) (by decide) (by decide) (by kernel_rfl) rfl (by decide) (by intro o ho;unfold execOp;rw [ho];kernel_rfl) h
 | 34,_,h=>rstep_row (i:=35) (by decide) (by decide) 34 (by decide) (by kernel_rfl) rfl rfl rfl (by kernel_rfl) (fun A5 c5 w=>by kernel_rfl) h
 | 35,_,h=>rstep_un (i:=36) (by decide) (by decide) (by kernel_rfl) rfl h
 | 36,_,h=>rstep_rou (i:=37) (by decide) (by decide) 36 (by decide) (by kernel_rfl) rfl rfl rfl (by kernel_rfl) (fun w=>by kernel_rfl) h
 | 37,_,h=>rstep_ro (i:=38) (by decide) (by decide) (by kernel_rfl) rfl rfl (by kernel_rfl) (fun X w=>by kernel_rfl) h
 | 38,_,h=>rstep_ro (i:=39) (by decide) (by decide) (by kernel_rfl) rfl rfl (by kernel_rfl) (fun X w=>by kernel_rfl) h
 | 39,_,h=>rstep_ro (i:=40) (by decide) (by decide) (by kernel_rfl) rfl rfl (by kernel_rfl) (fun X w=>by kernel_rfl) h
 | 40,_,h=>rstep_ro (i:=41) (by decide) (by decide) (by kernel_rfl) rfl rfl (by kernel_rfl) (fun X w=>by kernel_rfl) h
 | 41,_,h=>rstep_ro (i:=42) (by decide) (by decide) (by kernel_rfl) rfl rfl (by kernel_rfl) (fun X w=>by kernel_rfl) h
 | 42,_,h=>rstep_wd (i:=43) (by decide) (by decide) (by kernel_rfl) rfl (by decide) (by intro o ho;unfold execOp;rw [ho];kernel_rfl) h
 | 43,_,h=>rstep_row (i:=44) (by decide) (by decide) 43 (by decide) (by kernel_rfl) rfl rfl rfl (by kernel_rfl) (fun A5 c5 w=>by kernel_rfl) h
 | 44,_,h=>rstep_un (i:=45) (by decide) (by decide) (by kernel_rfl) rfl h
 | 45,_,h=>rstep_rou (i:=46) (by decide) (by decide) 45 (by decide) (by kernel_rfl) rfl rfl rfl (by kernel_rfl) (fun w=>by kernel_rfl) h
 | 46,_,h=>rstep_un (i:=47) (by decide) (by decide) (by kernel_rfl) rfl h
 | 47,_,h=>rstep_rou (i:=48) (by decide) (by decide) 47 (by decide) (by kernel_rfl) rfl rfl rfl (by kernel_rfl) (fun w=>by kernel_rfl) h
 | 48,_,h=>rstep_un (i:=49) (by decide) (by decide) (by kernel_rfl) rfl h
 | 49,_,h=>rstep_rou (i:=50) (by decide) (by decide) 49 (by decide) (by kernel_rfl) rfl rfl rfl (by kernel_rfl) (fun w=>by kernel_rfl) h
 | 50,_,h=>rstep_un (i:=51) (by decide) (by decide) (by kernel_rfl) rfl h
 | 51,_,h=>rstep_rou (i:=52) (by decide) (by decide) 51 (by decide) (by kernel_rfl) rfl rfl rfl (by kernel_rfl) (fun w=>by kernel_rfl) h
 | 52,_,h=>rstep_wd (i:=53) (by decide) (by decide) (by kernel_rfl) rfl (by decide) (by intro o ho;unfold execOp;rw [ho];kernel_rfl) h
 | 53,_,h=>rstep_row (i:=54) (by decide) (by decide) 53 (by decide) (by kernel_rfl) rfl rfl rfl (by kernel_rfl) (fun A5 c5 w=>by kernel_rfl) h
 | 54,_,h=>rstep_un (i:=55) (by decide) (by decide) (by kernel_rfl) rfl h
 | 55,_,h=>rstep_rou (i:=56) (by decide) (by decide) 55 (by decide) (by kernel_rfl) rfl rfl rfl (by kernel_rfl) (fun w=>by kernel_rfl) h
 | 56,_,h=>rstep_un (i:=57) (by decide) (by decide) (by kernel_rfl) rfl h
 | 57,_,h=>rstep_rou (i:=58) (by decide) (by decide) 57 (by decide) (by kernel_rfl) rfl rfl rfl (by kernel_rfl) (fun w=>by kernel_rfl) h
 | 58,_,h=>rstep_un (i:=59) (by decide) (by decide) (by kernel_rfl) rfl h
 | 59,_,h=>rstep_rou (i:=60) (by decide) (by decide) 59 (by decide) (by kernel_rfl) rfl rfl rfl (by kernel_rfl) (fun w=>by kernel_rfl) h
 | 60,_,h=>rstep_wd (i:=61) (by decide) (by decide) (by kernel_rfl) rfl (by decide) (by intro o ho;unfold execOp;rw [ho];kernel_rfl) h
 | 61,_,h=>rstep_row (i:=62) (by decide) (by decide) 61 (by decide) (by kernel_rfl) rfl rfl rfl (by kernel_rfl) (fun A5 c5 w=>by kernel_rfl) h
 | 62,_,h=>rstep_un (i:=63) (by decide) (by decide) (by kernel_rfl) rfl h
 | 63,_,h=>rstep_wd (i:=64) (by decide) (by decide) (by kernel_rfl) rfl (by decide) (by intro o ho;unfold execOp;rw [ho];kernel_rfl) h
 | 64,_,h=>rstep_ro2 (i:=65) (by decide) (by decide) 63 64 (by decide) (by decide) (by kernel_rfl) rfl rfl rfl rfl (by kernel_rfl) (fun A5 c5 w=>by kernel_rfl) h
 | 65,_,h=>rstep_un (i:=66) (by decide) (by decide) (by kernel_rfl) rfl h
 | 66,_,h=>rstep_rou (i:=67) (by decide) (by decide) 66 (by decide) (by kernel_rfl) rfl rfl rfl (by kernel_rfl) (fun w=>by kernel_rfl) h
 | 67,_,h=>rstep_un (i:=68) (by decide) (by decide) (by kernel_rfl) rfl h
 | 68,_,h=>rstep_rou (i:=69) (by decide) (by decide) 68 (by decide) (by kernel_rfl) rfl rfl rfl (by kernel_rfl) (fun w=>by kernel_rfl) h
 | 69,_,h=>rstep_un (i:=70) (by decide) (by decide) (by kernel_rfl) rfl h
 | 70,_,h=>rstep_rou (i:=71) (by decide) (by decide) 70 (by decide) (by kernel_rfl) rfl rfl rfl (by kernel_rfl) (fun w=>by kernel_rfl) h
 | 71,_,h=>rstep_un (i:=72) (by decide) (by decide) (by kernel_rfl) rfl h
 | 72,_,h=>rstep_rou (i:=73) (by decide) (by decide) 72 (by decide) (by kernel_rfl) rfl rfl rfl (by kernel_rfl) (fun w=>by kernel_rfl) h
 | 73,_,h=>rstep_wd (i:=74) (by decide) (by decide) (by kernel_rfl) rfl (by decide) (by intro o ho;unfold execOp;rw [ho];kernel_rfl) h
 | 74,_,h=>rstep_row (i:=75) (by decide) (by decide) 74 (by decide) (by kernel_rfl) rfl rfl rfl (by kernel_rfl) (fun A5 c5 w=>by kernel_rfl) h
 | 75,_,h=>rstep_un (i:=76) (by decide) (by decide) (by kernel_rfl) rfl h
 | 76,_,h=>rstep_rou (i:=77) (by decide) (by decide) 76 (by decide) (by kernel_rfl) rfl rfl rfl (by kernel_rfl) (fun w=>by kernel_rfl) h
 | 77,_,h=>rstep_un (i:=78) (by decide) (by decide) (by kernel_rfl) rfl h
 | 78,_,h=>rstep_rou (i:=79) (by decide) (by decide) 78 (by decide) (by kernel_rfl) rfl rfl rfl (by kernel_rfl) (fun w=>by kernel_rfl) h
 | 79,_,h=>rstep_un (i:=80) (by decide) (by decide) (by kernel_rfl) rfl h
 | 80,_,h=>rstep_rou (i:=81) (by decide) (by decide) 80 (by decide) (by kernel_rfl) rfl rfl rfl (by kernel_rfl) (fun w=>by kernel_rfl) h
 | 81,_,h=>rstep_un (i:=82) (by decide) (by decide) (by kernel_rfl) rfl h
 | 82,_,h=>rstep_rou (i:=83) (by decide) (by decide) 82 (by decide) (by kernel_rfl) rfl rfl rfl (by kernel_rfl) (fun w=>by kernel_rfl) h
 | 83,_,h=>rstep_un (i:=84) (by decide) (by decide) (by kernel_rfl) rfl h
 | 84,_,h=>rstep_rou (i:=85) (by decide) (by decide) 84 (by decide) (by kernel_rfl) rfl rfl rfl (by kernel_rfl) (fun w=>by kernel_rfl) h
 | 85,_,h=>rstep_fin (by kernel_rfl) (by kernel_rfl) (by kernel_rfl) (by decide) (by decide) rfl (by kernel_rfl) h
 | 86,_,h=>rop_87 h
 | n + 87,hn,_=>absurd hn (by omega)
end
theorem region_seq {P : Program} {ops : Array Oper} {Q : Exit -> Act -> World -> Prop} (I : Nat -> Act -> World -> Prop) (hstep : ∀ i a w, i < ops.size -> I i a w -> wpOp P ops Q i (fun a' w' => I (i + 1) a' w') a w) (hfin : ∀ a w, I ops.size a w -> Q .normal a w) {id : Nat} {a : Act} {w : World} (h : I 0 a w) : (Code.region id ops false).wp P Q a w := by
  refine wp_region ?_
  have key : ∀ n k a w, k + n = ops.size -> I k a w -> wpOps P ops Q (List.range' k n) a w := by
    intro n
    induction n with
    | zero => intro k a w hk h; obtain rfl : k = ops.size := by omega
              exact hfin a w h
    | succ n ih =>
      intro k a w hk h;have hs := hstep k a w (by omega) h;have h2 := wpOp_mono (K' := wpOps P ops Q (List.range' (k + 1) n)) (fun a' w' h' => ih (k + 1) a' w' (by omega) h') hs;rw [List.range'_succ];unfold wpOp at h2;show wpOps P ops Q (k :: List.range' (k + 1) n) a w;unfold wpOps;cases ho : ops[k]? with
      | none => rw [Array.getElem?_eq_getElem (by omega)] at ho; cases ho
      | some o => rw [ho] at h2; exact h2
  rw [List.range_eq_range'];exact key ops.size 0 a w (by omega) h
theorem region_rrows {P:Program} {Q:Exit->Act->World->Prop} {ops:Array Oper} (ho:ops=OPR) (hP:P=Tryz.prog) {id:Nat} {a:Act} {w:World} (hd:a.defers=[]) (hz:a.tmps.size=87)
  (hfin:∀ a' w' v,a'.defers=[]->a'.tmps.getD 0 undef=v->Below w.heap.size w w'->Kd.R kRow 60 w' w.heap.size (fun _=>True) v tab->Q .normal a' w'):(Code.region id ops false).wp P Q a w:=by
 subst ho;subst hP
 refine region_seq (fun i a' w'=>JR w.heap.size w (i + 1) a' w') (fun i a' w' hi hI=>rop_all i (by rw [opr_size] at hi;exact hi) hI) (fun a' w' hI=>?_) ⟨hd,hz,Below.refl _ _,Nat.le_refl _,fun j h1 h2 _=>by omega,fun e=>by omega⟩
 rw [opr_size] at hI;exact hfin a' w' _ hI.df rfl hI.bel (hI.fn rfl)
theorem rrows_calls (w:World):Calls Tryz.prog 26 #[] w fun e w'=>(∃ v,e=.returned v/\Kd.R kRow 60 w' w.heap.size (fun _=>True) v tab)/\Below w.heap.size w w':=by
 go_enter Tryz.func26,Tryz.ntmps26
 go_upto_region 1 with fail
 refine region_rrows (by kernel_rfl) rfl rfl (by rfl) ?_
 intro a' w' v hd hv hB hR
 have hR2:bodyPost Tryz.prog Tryz.f26 (fun e w'=>(∃ v,e=.returned v/\Kd.R kRow 60 w' w.heap.size (fun _=>True) v tab)/\Below w.heap.size w w') .ret a' w' :=
  bodyPost_ret (v:=v) (by simp [results,Tryz.results26,go_sem];rw [Array.getD_eq_getD_getElem?] at hv;exact hv) hd ⟨⟨v,rfl,hR⟩,hB⟩
 first
  | (rename_i hK;exact hK a' w' (wp_ret hR2))
  | exact wp_ret hR2
end Go.Proofs.YtmfejjlmflgnbaaGreatDoor.Sc

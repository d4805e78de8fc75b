/- CONTRACT: the document's listed: attributes read by rows, in the rows' order. -/
import Derived.Test.YtmfejjlmflgnbaaGreatDoorVRef
import Derived.BigQuiet
import Derived.Deep.CutRange
set_option linter.unusedVariables false
set_option linter.unusedSimpArgs false
set_option maxRecDepth 100000
set_option maxHeartbeats 64000000
namespace Go.Proofs.YtmfejjlmflgnbaaGreatDoor.Sc
open RowKit PA YtmfejjlmflgnbaaGreatDoorW.PrintWords YtmfejjlmflgnbaaGreatDoorW.PrintLast YtmfejjlmflgnbaaGreatDoorW.PrintMore Sp Tr Tok
open Go.Lib (hid)
structure RlSplit (M:Prop) where
 P1:Prop
 P2:Prop
 P3:Prop
 go:Hid P1->Hid P2->Hid P3->M
noncomputable def rlSplit (rs:List SR) (m:Nat) (ih:∀ m',m'<m->RLC rs m'):RlSplit (RLC rs m):=by
 apply RlSplit.mk
 case go =>
 intro K1 K2 K3;intro ats obj l sp A c Al cl As ca w hm hm2 hA hA9 hL hL9 hS;have IH:=hid ih;have HA:=hid hA;have HA9:=hid hA9;have HL:=hid hL;have HL9:=hid hL9;have HS:=hid hS;have HSZ:=hid (And.intro hm hm2);have hn9:ats.length<=1073741824:=Nat.le_trans (sz_len ats) hm2;clear hA hA9 hL hL9 hS hm hm2;obtain ⟨RES,hRES⟩:∃ RES,RES=listedR rs obj l ats sp:=⟨_,rfl⟩;rw [<- hRES];have HRES:=hid hRES;clear hRES;obtain ⟨nr,hnr⟩:∃ nr,rs.length=nr:=⟨_,rfl⟩;obtain ⟨nl,hnl⟩:∃ nl,l.length=nl:=⟨_,rfl⟩;obtain ⟨n,hn⟩:∃ n,ats.length=n:=⟨_,rfl⟩;rw [hnr] at HA HA9 ⊢;rw [hnl] at HL HL9 ⊢;rw [hn] at HS hn9 ⊢;have HNR:=hid hnr;have HNL:=hid hnl;have HN:=hid hn;clear hnr hnl hn;have tk1:True:=trivial
 go_enter Tryz.func72,Tryz.ntmps72
 go_upto_region 1 with (first
  | (have _t:=tk1;refine run_event rfl (.box 41 _) rfl (.pointer (some ⟨w.heap.size,0,none⟩)) (w.alloc (.cells #[.int .i64 sp.f0,.int .i64 sp.f1,.int .i64 sp.f2] 41)) (by kernel_rfl) ?_;intro w1 hw1;have B1:Hid (Below w.heap.size w w1):=hid (by rw [hw1];exact alloc_below _ _);have E1:Hid (w1.heap[w.heap.size]?=some (.cells #[.int .i64 sp.f0,.int .i64 sp.f1,.int .i64 sp.f2] 41 (0,0))):=hid (by rw [hw1];exact heap_alloc_new _ _);clear hw1 tk1 _t;have tk2:True:=trivial)
  | (have _t:=tk2;refine run_event rfl (.alloc 66) rfl (.pointer (some ⟨w1.heap.size,0,none⟩)) (w1.alloc (.cells fa0 66)) (by kernel_rfl) ?_;intro w2 hw2;have Bw2:Hid (Below w1.heap.size w1 w2):=hid (by rw [hw2];exact alloc_below _ _);have Ew2:Hid (w2.heap[w1.heap.size]?=some (.cells fa0 66 (0,0))):=hid (by rw [hw2];exact heap_alloc_new _ _);clear hw2 tk2 _t))
 have GS:=hid (blk_b E1.out Bw2.out);have GF:=Ew2;have BW:Hid (Below w.heap.size w w2):=hid (B1.out.trans (Bw2.out.mono B1.out.size));have HZ1:Hid (w.heap.size<=w1.heap.size):=hid B1.out.size;clear B1 E1 Bw2 Ew2
 go_wp2_with fail
 go_loopw [12,13] (fun vg v wq=>∃ (i:Nat) (G:List SE),v=.int .i64 (i:Int)/\i<=n/\Hid (listTo rs obj l sp G (ats.drop i)=RES)/\Hid (Kd.R kEnt 80 wq w2.heap.size (fun _=>True) vg G)/\Hid (G.length<=i)/\Hid (Below w2.heap.size w2 wq)) (fun _ v _=>n - (intOf v).toNat)
 case atStart=>exact ⟨0,[],by go_num,by omega,hid HRES.out.symm,hid (Kd.R_nil _ _ _ _ (fun _=>True)),hid (Nat.le_refl _),hid (Below.refl _ _)⟩
 case round =>
  obtain ⟨i,G,rfl,hi,HRD,RG,HGL,BL⟩:=hrel;obtain ⟨Ag,cg,hvg⟩:=RForm RG.out;subst hvg;obtain ⟨ng,hng⟩:∃ ng,G.length=ng:=⟨_,rfl⟩;rw [hng] at RG HGL ⊢;have HNG:=hid hng;clear hng;have hb1:=hn9;have hb2:=HL9.out;have hb3:=HGL.out;have BWR:Hid (Below w.heap.size w wr):=hid (BW.out.trans (BL.out.mono BW.out.size))
  by_cases hin:i<n
  ·have hit:i<ats.length:=by rw [HN.out];exact hin
   have hx:ats[i]?=some ats[i]:=List.getElem?_eq_getElem hit;obtain ⟨ad,A9,c9,eA,x0,x1,x2,x3,x4,x5,x6,x7,x8,x9,x10,x11,l9,C9⟩:=at_T50 (Kd.C_below HS.out BWR.out) (i:Int) (by omega) (by omega);rw [att_at ats i _ hx] at x0 x1 x2 x3 x4 x5 x6 x7 x8 x9 x10 x11 l9 C9;have hsz:=sz_get ats i _ hx;generalize ats[i]=a at hx x0 x1 x2 x3 x4 x5 x6 x7 x8 x9 x10 x11 l9 C9 hsz;have HSA:Hid (szL a.f4<m/\szL a.f4<=1073741824):=hid (by have:=sz_eq a;have:=HSZ.out;omega);subst eA;simp only [Int.toNat_natCast] at x0 x1 x2 x3 x4 x5 x6 x7 x8 x9 x10 x11;have HX:=hid hx;have HC9:=hid C9;clear hx C9 hsz l9 hit;obtain ⟨n9,hn9'⟩:∃ n9,a.f4.length=n9:=⟨_,rfl⟩;rw [hn9'] at x9 HC9;have HN9:=hid hn9';clear hn9';have tk3:True:=trivial
   go_upto_region 6 with (first
    | (have _t:=tk3;refine run_event rfl (.alloc 50) rfl (.pointer (some ⟨wr.heap.size,0,none⟩)) (wr.alloc (.cells #[.string ⟨#[]⟩,.int .i64 0,.int .i64 0,.int .i64 0,.int .i64 0,.string ⟨#[]⟩,.int .u32 0,.bool false,.bool false,.slice none 0 0,.bool false,.string ⟨#[]⟩] 50)) (by kernel_rfl) ?_;intro w3 hw3;have Bw3:Hid (Below wr.heap.size wr w3):=hid (by rw [hw3];exact alloc_below _ _);have Ew3:Hid (w3.heap[wr.heap.size]?=some (.cells #[.string ⟨#[]⟩,.int .i64 0,.int .i64 0,.int .i64 0,.int .i64 0,.string ⟨#[]⟩,.int .u32 0,.bool false,.bool false,.slice none 0 0,.bool false,.string ⟨#[]⟩] 50 (0,0))):=hid (by rw [hw3];exact heap_alloc_new _ _);clear hw3 tk3 _t)
    | ((with_reducible refine gate_store (t:=50) (p:=14) rfl ?_);refine put_event rfl 50 _ _ rfl wr.heap.size #[.string a.f0,.int .i64 a.f1.f0,.int .i64 a.f1.f1,.int .i64 a.f1.f2,.int .i64 a.f2.f0,.string a.f2.f1,.int .u32 a.f2.f2,.bool a.f2.f3,.bool a.f3,.slice A9 n9 c9,.bool a.f5,.string a.f6] rfl rfl 50 #[.string ⟨#[]⟩,.int .i64 0,.int .i64 0,.int .i64 0,.int .i64 0,.string ⟨#[]⟩,.int .u32 0,.bool false,.bool false,.slice none 0 0,.bool false,.string ⟨#[]⟩] Ew3.out (by kernel_rfl) rfl (by simp [Value.oneCell']) wr.heap.size (Nat.le_refl _) ?_;intro w4 hbw4 hBw4 hsw4 how4;have Gw4:Hid (w4.heap[wr.heap.size]?=some (.cells #[.string a.f0,.int .i64 a.f1.f0,.int .i64 a.f1.f1,.int .i64 a.f1.f2,.int .i64 a.f2.f0,.string a.f2.f1,.int .u32 a.f2.f2,.bool a.f2.f3,.bool a.f3,.slice A9 n9 c9,.bool a.f5,.string a.f6] 50 (0,0))):=hid hbw4;have Dw4:Hid (Below wr.heap.size wr w4):=hid (Bw3.out.trans hBw4);clear hbw4 hBw4 hsw4 how4;clear x0 x1 x2 x3 x4 x5 x6 x7 x8 x9 x10 x11 Bw3 Ew3))
   have GAw4:=Gw4;have GFw4:=hid (blk_b GF.out (BL.out.trans (Dw4.out.mono BL.out.size)));have BWw4:Hid (Below w.heap.size w w4):=hid (BWR.out.trans (Dw4.out.mono BWR.out.size))
   have HFC:Hid (Calls Tryz.prog 111 #[.slice Al nl cl,.string a.f0] w4 fun e w'=>e=.returned (.int .i64 (idxF (fun x=>decide (x.name=a.f0)) l 0))/\w4=w'):=hid (by
    have hC:=Kd.C_below HL.out BWw4.out;have h:=rfind_calls l a.f0 Al cl w4 (by rw [HNL.out];exact hC) (by rw [HNL.out];exact HL9.out);rw [HNL.out] at h
    exact h.mono (fun e w' hp=>⟨hp.1,hp.2.symm⟩))
   have hfi:=find_idx l a.f0 0;obtain ⟨a0,a1,a2,a3,a4,a5,a6,a7,a8,a9,a10,a11⟩:=att_cells GAw4.out;clear a1 a2 a3 a4 a5 a6 a7 a8 a9 a10 a11 Gw4;cases hf:findR l a.f0 with
   | none =>
    rw [hf] at hfi;dsimp only at hfi;rw [hfi] at HFC
    have HBAD:Hid (RES=.error ⟨51,a.f1,a.f0⟩):=hid (by
     rw [<- HRD.out]
     exact listTo_bad HX.out (by rw [readA_eq,hf]))
    clear hfi hf
    go_upto_region 8 with (first
     | (go_at_call 111;refine HFC.out.mono ?_;rintro e wq ⟨rfl,rfl⟩))
    clear a0;obtain ⟨a0,a1,a2,a3,a4,a5,a6,a7,a8,a9,a10,a11⟩:=att_cells GAw4.out;clear a4 a5 a6 a7 a8 a9 a10 a11
    go_wp2_with (first
     | (go_at_call 71;refine (rfault_calls (51) a.f1 a.f0 w4).mono ?_;rintro e y1 ⟨rfl,hB⟩;have BY1:Hid (Below w4.heap.size w4 y1):=hid hB;have FY1:=hid (blk_b GFw4.out hB);clear hB a0 a1 a2 a3)
     | ((with_reducible refine gate_store (t:=66) (p:=11) rfl ?_);refine put_event rfl 66 _ _ rfl w1.heap.size (faC (51) a.f1 a.f0) rfl rfl 66 fa0 FY1.out (by kernel_rfl) rfl (by simp [Value.oneCell']) w.heap.size HZ1.out ?_;intro y2 hb9 hB9 hs9 ho9;have G9:=hid hb9;have B9:Hid (Below w.heap.size w y2):=hid ((BWw4.out.trans (BY1.out.mono BWw4.out.size)).trans hB9);clear hb9 hB9 hs9 ho9))
    refine bodyPost_ret (results_list (rs:=[.tmp 10,.cell 11 66]) rfl (by simp) (.tmp (.cell w1.heap.size 66 (faC (51) a.f1 a.f0) (0,0) _ rfl G9.out Tryz.underlying66 rfl (by kernel_rfl) .nil))) rfl ?_
    rw [HBAD.out];exact ⟨B9.out,rfl⟩
   | some x =>
    rw [hf] at hfi;dsimp only at hfi;obtain ⟨q,hq,hlq,hxn⟩:=hfi;rw [hq] at HFC;rw [Nat.zero_add] at HFC;have HF:=hid hf;have HLQ:=hid hlq;have HXN:=hid hxn;have hql:q<nl:=by have:=(List.getElem?_eq_some_iff.1 hlq).1;rw [HNL.out] at this;exact this
    clear hf hq hlq hxn
    go_upto_region 10 with (first
     | (go_at_call 111;refine HFC.out.mono ?_;rintro e wq ⟨rfl,rfl⟩))
    clear a0;obtain ⟨wi,hwi⟩:∃ wi,wi=wr:=⟨_,rfl⟩;subst hwi;obtain ⟨ad2,A5,c5,eL,y0,y1,y2,y3,y4,y5,y6,y7,y8,y9,y10,l5,C5⟩:=at_Row HL.out (q:Int) (by omega) (by omega);rw [row_at l q _ HLQ.out] at y0 y1 y2 y3 y4 y5 y6 y7 y8 y9 y10 l5 C5;subst eL;simp only [Int.toNat_natCast] at y0 y1 y2 y3 y4 y5 y6 y7 y8 y9 y10;have HC5:=hid C5;have HROW:=hid (And.intro y0 (And.intro y1 (And.intro y2 (And.intro y3 (And.intro y4 (And.intro y5 (And.intro y6 (And.intro y7 (And.intro y8 (And.intro y9 y10))))))))));clear y0 y1 y2 y3 y4 y5 y6 y7 y8 y9 y10 l5 C5
    go_wp2_with fail
    go_loopw [16] (fun v wq=>∃ j:Nat,v=.int .i64 (j:Int)/\j<=ng/\Hid (x.times=3∨∀ e ∈ G.take j,¬ e.name=a.f0)/\Hid (Below w4.heap.size w4 wq)) (fun v _=>ng - (intOf v).toNat)
    case atStart=>exact ⟨0,by go_num,by omega,hid (Or.inr (fun e he=>by simp at he)),hid (Below.refl _ _)⟩
    case round =>
     obtain ⟨j,rfl,hj,HNO,BQ⟩:=hrel;have hbg:=hb3
     by_cases hjn:j<ng
     ·have hjG:j<G.length:=by rw [HNG.out];exact hjn
      have he:G[j]?=some G[j]:=List.getElem?_eq_getElem hjG;have BIR:Hid (Below wi.heap.size wi wr):=hid (Dw4.out.trans (BQ.out.mono Dw4.out.size));obtain ⟨ad3,A7,c7,eE,x0,x1,x2,x3,x4,x5,x6,x7,l7,C7⟩:=at_Ent (Kd.C_below (Kd.R_reads' RG.out).2.2 BIR.out) (j:Int) (by omega) (by omega);rw [ent_at' G j _ he] at x0;clear x1 x2 x3 x4 x5 x6 x7 l7 C7;have hmem:G[j] ∈ G:=List.getElem_mem hjG
      have htk:∀ e ∈ G.take (j + 1),e ∈ G.take j∨e=G[j]:=fun e h=>by
       rw [List.take_add_one] at h;rcases List.mem_append.1 h with h | h
       ·exact Or.inl h
       ·rw [he] at h
        exact Or.inr (List.mem_singleton.1 h)
      generalize G[j]=e at he x0 hmem htk;subst eE;simp only [Int.toNat_natCast] at x0;have HTK:=hid htk;have HME:=hid hmem;clear he hmem htk hjG;obtain ⟨a0,a1,a2,a3,a4,a5,a6,a7,a8,a9,a10,a11⟩:=att_cells (blk_b GAw4.out BQ.out);clear a1 a2 a3 a4 a5 a6 a7 a8 a9 a10 a11;obtain ⟨y0,y1,y2,y3,y4,y5,y6,y7,y8,y9,y10⟩:=HROW.out;clear y0 y1 y2 y3 y4 y5 y6 y7 y8 y10;replace y9:=((BWw4.out.trans (BQ.out.mono BWw4.out.size)).cell (lC w _ y9)).trans y9
      by_cases hen:e.name=a.f0
      ·have hen1:(e.name.toList == a.f0.toList)=true:=by rw [beq_str];simp [hen]
       by_cases ht:x.times=3
       ·rw [ht] at y9
        have HN2:Hid (x.times=3∨∀ e ∈ G.take (j + 1),¬ e.name=a.f0):=hid (Or.inl ht);clear hen ht
        go_upto_region 12 with fail
        go_quiet (fail)
        obtain ⟨wd,hwd⟩:∃ wd,wd=wr.drewN nq:=⟨_,rfl⟩;rw [<- hwd];have BD:Hid (Below w4.heap.size w4 wd):=hid (by rw [hwd];exact BQ.out.trans (pw_below_drewN (Below.refl _ _) _));clear hwd x0 a0 y9 hen1
        go_wp2_with fail
        exact ⟨⟨j + 1,by go_num,by omega,HN2,BD⟩,by simp [intOf];omega⟩
       ·have ht1:(x.times != 3)=true:=by simp [ht]
        have ht2:(x.times == 3)=false:=by simp [ht]
        have HBAD:Hid (RES=.error ⟨55,a.f1,a.f0⟩):=hid (by
         rw [<- HRD.out]
         refine listTo_bad HX.out ?_
         rw [readA_eq,HF.out];dsimp only;rw [named_hit HME.out hen,decide_eq_true ht]
         rfl)
        clear hen ht
        go_upto_region 12 with fail
        go_quiet (fail)
        obtain ⟨wd,hwd⟩:∃ wd,wd=wr.drewN nq:=⟨_,rfl⟩;rw [<- hwd];have BD:Hid (Below w4.heap.size w4 wd):=hid (by rw [hwd];exact BQ.out.trans (pw_below_drewN (Below.refl _ _) _));have GAwd:=hid (blk_b GAw4.out BD.out);have GFwd:=hid (blk_b GFw4.out BD.out);have BWwd:Hid (Below w.heap.size w wd):=hid (BWw4.out.trans (BD.out.mono BWw4.out.size));clear hwd x0 a0 y9 hen1 ht1 ht2;obtain ⟨a0,a1,a2,a3,a4,a5,a6,a7,a8,a9,a10,a11⟩:=att_cells GAwd.out;clear a4 a5 a6 a7 a8 a9 a10 a11
        go_wp2_with (first
         | (go_at_call 71;refine (rfault_calls (55) a.f1 a.f0 wd).mono ?_;rintro e y1 ⟨rfl,hB⟩;have BY1:Hid (Below wd.heap.size wd y1):=hid hB;have FY1:=hid (blk_b GFwd.out hB);clear hB a0 a1 a2 a3)
         | ((with_reducible refine gate_store (t:=66) (p:=11) rfl ?_);refine put_event rfl 66 _ _ rfl w1.heap.size (faC (55) a.f1 a.f0) rfl rfl 66 fa0 FY1.out (by kernel_rfl) rfl (by simp [Value.oneCell']) w.heap.size HZ1.out ?_;intro y2 hb9 hB9 hs9 ho9;have G9:=hid hb9;have B9:Hid (Below w.heap.size w y2):=hid ((BWwd.out.trans (BY1.out.mono BWwd.out.size)).trans hB9);clear hb9 hB9 hs9 ho9))
        refine bodyPost_ret (results_list (rs:=[.tmp 10,.cell 11 66]) rfl (by simp) (.tmp (.cell w1.heap.size 66 (faC (55) a.f1 a.f0) (0,0) _ rfl G9.out Tryz.underlying66 rfl (by kernel_rfl) .nil))) rfl ?_
        rw [HBAD.out];exact ⟨B9.out,rfl⟩
      ·have hen1:(e.name.toList == a.f0.toList)=false:=by rw [beq_str];simp [hen]
       have HN2:Hid (x.times=3∨∀ e ∈ G.take (j + 1),¬ e.name=a.f0):=hid (HNO.out.imp id (fun h e' he'=>(HTK.out e' he').elim (h e') (fun h2=>by rw [h2];exact hen)));clear hen y9
       go_upto_region 12 with fail
       go_quiet (fail)
       obtain ⟨wd,hwd⟩:∃ wd,wd=wr.drewN nq:=⟨_,rfl⟩;rw [<- hwd];have BD:Hid (Below w4.heap.size w4 wd):=hid (by rw [hwd];exact BQ.out.trans (pw_below_drewN (Below.refl _ _) _));clear hwd x0 a0 hen1
       go_wp2_with fail
       exact ⟨⟨j + 1,by go_num,by omega,HN2,BD⟩,by simp [intOf];omega⟩
     ·obtain rfl:ng=j:=by omega
      have HREP:Hid ((!(named G a.f0).isEmpty&&decide (x.times≠3))=false):=hid (by
       rcases HNO.out with h | h
       ·rw [h];simp
       ·rw [List.take_of_length_le (by rw [HNG.out];exact Nat.le_refl _)] at h
        rw [named_take h]
        rfl)
      have HRA:Hid (readA rs obj l G a=attrR rs obj x a):=hid (by
       rw [readA_eq,HF.out];dsimp only;rw [HREP.out]
       rfl)
      clear HNO HREP hjn hj;obtain ⟨wb,hwb⟩:∃ wb,wb=wr:=⟨_,rfl⟩;subst hwb;have BWB:Hid (Below w.heap.size w wb):=hid (BWw4.out.trans (BQ.out.mono BWw4.out.size));have GAwb:=hid (blk_b GAw4.out BQ.out);have GFwb:=hid (blk_b GFw4.out BQ.out);obtain ⟨n5,hn5⟩:∃ n5,x.words.length=n5:=⟨_,rfl⟩
      have HVC:Hid (∀ W,Below wb.heap.size wb W->Calls Tryz.prog 112 #[.agg #[.string x.obj,.string x.un,.string x.uw,.string x.name,.int .i64 x.want,.slice A5 n5 c5,.int .u32 x.lo,.int .u32 x.hi,.bool x.auto,.int .i64 x.times,.string x.dflt],.agg #[.string a.f0,.int .i64 a.f1.f0,.int .i64 a.f1.f1,.int .i64 a.f1.f2,.int .i64 a.f2.f0,.string a.f2.f1,.int .u32 a.f2.f2,.bool a.f2.f3,.bool a.f3,.slice A9 n9 c9,.bool a.f5,.string a.f6]] W (RVal a.f0 a.f1 (valR x a.f2 a.f0 a.f1) W)):=hid (fun W hB=>by
       have h:=rvalued_calls x A5 c5 a A9 c9 W (Kd.C_below HC5.out (BWB.out.trans (hB.mono BWB.out.size)));unfold rowV rowC attV attC at h;rw [hn5,HN9.out] at h
       exact h)
      obtain ⟨y0,y1,y2,y3,y4,y5,y6,y7,y8,y9,y10⟩:=HROW.out;rw [hn5] at y5;have HN5:=hid hn5;clear hn5;replace y0:=(BWB.out.cell (lC w _ y0)).trans y0;replace y1:=(BWB.out.cell (lC w _ y1)).trans y1;replace y2:=(BWB.out.cell (lC w _ y2)).trans y2;replace y3:=(BWB.out.cell (lC w _ y3)).trans y3;replace y4:=(BWB.out.cell (lC w _ y4)).trans y4;replace y5:=(BWB.out.cell (lC w _ y5)).trans y5;replace y6:=(BWB.out.cell (lC w _ y6)).trans y6;replace y7:=(BWB.out.cell (lC w _ y7)).trans y7;replace y8:=(BWB.out.cell (lC w _ y8)).trans y8;replace y9:=(BWB.out.cell (lC w _ y9)).trans y9;replace y10:=(BWB.out.cell (lC w _ y10)).trans y10;obtain ⟨a0,a1,a2,a3,a4,a5,a6,a7,a8,a9,a10,a11⟩:=att_cells GAwb.out;have hb4:=hb3
      go_upto_region 14 with fail
      have HPK:=hid (And.intro y0 (And.intro y1 (And.intro y2 (And.intro y3 (And.intro y4 (And.intro y5 (And.intro y6 (And.intro y7 (And.intro y8 (And.intro y9 (And.intro y10 (And.intro a0 (And.intro a1 (And.intro a2 (And.intro a3 (And.intro a4 (And.intro a5 (And.intro a6 (And.intro a7 (And.intro a8 (And.intro a9 (And.intro a10 (a11)))))))))))))))))))))));clear y0 y1 y2 y3 y4 y5 y6 y7 y8 y9 y10 a0 a1 a2 a3 a4 a5 a6 a7 a8 a9 a10 a11
      apply once
      case h1 =>
       intro key;obtain ⟨y0,y1,y2,y3,y4,y5,y6,y7,y8,y9,y10,a0,a1,a2,a3,a4,a5,a6,a7,a8,a9,a10,a11⟩:=HPK.out;have hq1:=lC wb _ a0;have hq2:=lC wb _ y0
       go_region_with (first
        | (go_at_call 112;refine (HVC.out _ (by first | exact (alloc_below wb _).drew | exact alloc_below wb.drew _)).mono ?_;rintro ev w8 hq8;obtain ⟨y,code,rfl,hB8,hV8⟩:=val_out hq8;have h16:=(hB8.block wb.heap.size (by simp)).trans (heap_alloc_new wb (.cells #[.string ⟨#[]⟩,.int .i64 0,.int .i64 0,.int .i64 0,.int .u32 0,.bool false,.string ⟨#[]⟩,.slice none 0 0] 80));obtain ⟨g0,g1,g2,g3,g4,g5,g6,g7⟩:=ent_cells h16;have gf:∀ k,w8.frozen? ⟨wb.heap.size,k,none⟩=false:=fun k=>frozen_row h16 k;have H16:=hid h16;have B8:=hid (alloc_first (w:=wb) hB8 (by simp) (by first | exact (alloc_below wb _).drew | exact alloc_below wb.drew _));have V8:=hid hV8;clear hB8 hV8 h16 hq8)
        | (go_at_call 112;refine (HVC.out _ (by exact (Below.refl _ wb).drew)).mono ?_;rintro ev w8 hq8;obtain ⟨y,code,rfl,hB8,hV8⟩:=val_out hq8;have B8:Hid (Below wb.heap.size wb w8):=hid ((Below.refl _ wb).drew.trans hB8);have V8:=hid hV8;clear hB8 hV8 hq8))
       all_goals
        clear y0 y1 y2 y3 y4 y5 y6 y7 y8 y9 y10 a0 a1 a2 a3 a4 a5 a6 a7 a8 a9 a10 a11 hq1 hq2
        try clear g0 g1 g2 g3 g4 g5 g6 g7 gf
        first
         | (obtain ⟨w9,hw9⟩:∃ w9:World,w9=w8.alloc (.cells #[.string y.name,.int .i64 y.spot.f0,.int .i64 y.spot.f1,.int .i64 y.spot.f2,.int .u32 y.num,.bool y.auto,.string y.word,.slice none 0 0] 80):=⟨_,rfl⟩
            rw [<- hw9];have F1:Hid (w9.heap[w8.heap.size]?=some (.cells #[.string y.name,.int .i64 y.spot.f0,.int .i64 y.spot.f1,.int .i64 y.spot.f2,.int .u32 y.num,.bool y.auto,.string y.word,.slice none 0 0] 80 (0,0))):=hid (by rw [hw9];exact heap_alloc_new _ _);have F2:Hid (Below wb.heap.size wb w9):=hid (by rw [hw9];exact B8.out.trans ((alloc_below _ _).mono B8.out.size));have F3:Hid (wb.heap.size<=w8.heap.size):=hid B8.out.size;clear hw9 B8;obtain ⟨g16,hg16⟩:∃ g16,g16=w8.heap.size:=⟨_,rfl⟩;rw [<- hg16] at F1 F3 ⊢
            clear hg16)
         | (generalize hw9:World.setCell _ _ (.slice none 0 0)=w9
            obtain ⟨hb5,hg5,hz5⟩:=put8 H16.out hw9;have F2:Hid (Below wb.heap.size wb w9):=hid (B8.out.trans (Below.grown (Below.refl _ _) hg5 B8.out.size (fun k hk=>by injection hk with hk;omega)));have F1:=hid hb5;have F3:Hid (wb.heap.size<=wb.heap.size):=hid (Nat.le_refl _);clear hw9 B8 H16 hb5 hg5 hz5;obtain ⟨g16,hg16⟩:∃ g16,g16=wb.heap.size:=⟨_,rfl⟩;replace F1:Hid (w9.heap[g16]?=some (.cells #[.string y.name,.int .i64 y.spot.f0,.int .i64 y.spot.f1,.int .i64 y.spot.f2,.int .u32 y.num,.bool y.auto,.string y.word,.slice none 0 0] 80 (0,0))):=hid (by rw [hg16];exact F1.out);replace F3:Hid (wb.heap.size<=g16):=hid (by rw [hg16];exact F3.out);rw [<- hg16]
            clear hg16)
        revert F3;revert F2;revert F1;revert g16;revert w9;revert V8;revert code;revert y;exact key.out
      case h2 =>
       intro y code VO w9 g16 F1 F2 F3;have GAw9:=hid (blk_b GAwb.out F2.out);have GFw9:=hid (blk_b GFwb.out F2.out);have BWw9:Hid (Below w.heap.size w w9):=hid (BWB.out.trans (F2.out.mono BWB.out.size));cases hv:valR x a.f2 a.f0 a.f1 with
       | error cc =>
        have hvo:=VO.out;rw [hv] at hvo;obtain ⟨hy,hcd⟩:=hvo;subst hy hcd;have hc0:¬ code=0:=by rcases val_code hv with h | h <;> (rw [h];decide)
        have hc1:(code != 0)=true:=by simp [hc0]
        have hc2:(code == 0)=false:=by simp [hc0]
        have HBAD:Hid (RES=.error ⟨code,a.f1,a.f0⟩):=hid (by
         rw [<- HRD.out]
         exact listTo_bad HX.out (by rw [HRA.out];exact attr_err hv))
        clear hc0 hv
        go_upto_region 16 with fail
        clear hc1 hc2;obtain ⟨a0,a1,a2,a3,a4,a5,a6,a7,a8,a9,a10,a11⟩:=att_cells GAw9.out;clear a4 a5 a6 a7 a8 a9 a10 a11
        go_wp2_with (first
         | (go_at_call 71;refine (rfault_calls (code) a.f1 a.f0 w9).mono ?_;rintro e y1 ⟨rfl,hB⟩;have BY1:Hid (Below w9.heap.size w9 y1):=hid hB;have FY1:=hid (blk_b GFw9.out hB);clear hB a0 a1 a2 a3)
         | ((with_reducible refine gate_store (t:=66) (p:=11) rfl ?_);refine put_event rfl 66 _ _ rfl w1.heap.size (faC (code) a.f1 a.f0) rfl rfl 66 fa0 FY1.out (by kernel_rfl) rfl (by simp [Value.oneCell']) w.heap.size HZ1.out ?_;intro y2 hb9 hB9 hs9 ho9;have G9:=hid hb9;have B9:Hid (Below w.heap.size w y2):=hid ((BWw9.out.trans (BY1.out.mono BWw9.out.size)).trans hB9);clear hb9 hB9 hs9 ho9))
        refine bodyPost_ret (results_list (rs:=[.tmp 10,.cell 11 66]) rfl (by simp) (.tmp (.cell w1.heap.size 66 (faC (code) a.f1 a.f0) (0,0) _ rfl G9.out Tryz.underlying66 rfl (by kernel_rfl) .nil))) rfl ?_
        rw [HBAD.out];exact ⟨B9.out,rfl⟩
       | ok e0 =>
        have hvo:=VO.out;rw [hv] at hvo;obtain ⟨hy,hcd⟩:=hvo;subst hy hcd;have hpar:=val_par hv;have HPN:=hid hpar.2.1;have HEN:=hid hpar.1;rw [hpar.1] at F1;obtain ⟨I,hI⟩:∃ I,innerR rs obj x a.f0 y.word=I:=⟨_,rfl⟩;have HAO:=hid (attr_ok (rows:=rs) (obj:=obj) hv);rw [hI] at HAO;have HII:=hid hI;have hil:I.length<=1000:=by rw [<- hI];exact inner_len (by rw [HNR.out];exact HA9.out) _ _ _ _
        have HIL:=hid hil;clear hv hpar hI hil VO;obtain ⟨y0,y1,y2,y3,y4,y5,y6,y7,y8,y9,y10⟩:=HROW.out;clear y0 y2 y3 y5 y6 y7 y8 y9 y10;replace y1:=(BWw9.out.cell (lC w _ y1)).trans y1;replace y4:=(BWw9.out.cell (lC w _ y4)).trans y4
        go_upto_region 18 with fail
        obtain ⟨cnd,hcnd⟩:∃ cnd:Bool,cnd=(decide (x.want=2)&&decide (x.un=⟨#[]⟩)):=⟨_,rfl⟩;have HCN:=hid hcnd;clear hcnd
        go_cut [108] from 94 to 108 (fun v108 wx=>v108=.bool cnd/\wx=w9)
        case first =>
         by_cases hw:x.want=2
         ·have hw1:(x.want == 2)=true:=by simp [hw]
          by_cases hu:x.un=⟨#[]⟩
          ·have HB:Hid (cnd=true):=hid (by rw [HCN.out,hw,hu];rfl)
           rw [hu] at y1;clear hw hu
           go_wp2_with fail
           go_meet
           exact ⟨by rw [HB.out],rfl⟩
          ·have hu1:=(str_some hu).1
           have hu2:=(str_some hu).2;have HB:Hid (cnd=false):=hid (by rw [HCN.out,decide_eq_false hu,Bool.and_false]);clear hw hu
           go_wp2_with fail
           go_meet
           exact ⟨by rw [HB.out],rfl⟩
         ·have hw1:(x.want == 2)=false:=by simp [hw]
          have HB:Hid (cnd=false):=hid (by rw [HCN.out,decide_eq_false hw,Bool.false_and]);clear hw y1
          go_wp2_with fail
          go_meet
          exact ⟨by rw [HB.out],rfl⟩
        case rest =>
        obtain ⟨hc1,hc2⟩:=hcut;replace hc2:=hc2.symm;subst hc1 hc2;clear y1 y4
        go_upto_if 108 with fail
        go_cut [19] from 109 to 115 (fun v19 wx=>∃ (Ai:Option Addr) (ci:Nat),v19=.slice Ai I.length ci/\Hid (Kd.C kRow wx Ai I.length I)/\Hid (Below w9.heap.size w9 wx))
        case first =>
         cases cnd with
         | true =>
          have hIu:I=underR rs obj a.f0 y.word:=by
           have h:=HCN.out;rw [<- HII.out];unfold innerR;rw [if_pos (by simpa using h)]
          have HUC:Hid (Calls Tryz.prog 73 #[.slice A nr c,.string obj,.string a.f0,.string y.word] w9 fun e w'=>(∃ v,e=.returned v/\Kd.R (Kd.fixed kRow w9) 60 w' w9.heap.size (fun _=>True) v I)/\Below w9.heap.size w9 w'):=hid (by
           have h:=runder_calls rs A c obj a.f0 y.word w9 (by rw [HNR.out];exact Kd.C_below HA.out BWw9.out) (by rw [HNR.out];exact HA9.out);rw [HNR.out,<- hIu] at h
           exact h)
          clear hIu;obtain ⟨a0,a1,a2,a3,a4,a5,a6,a7,a8,a9,a10,a11⟩:=att_cells GAw9.out;clear a1 a2 a3 a4 a5 a6 a7 a8 a9 a10 a11;obtain ⟨e0,e1,e2,e3,e4,e5,e6,e7⟩:=ent_cells F1.out;clear e0 e1 e2 e3 e4 e5 e7
          go_wp2_with (first
           | (go_at_call 73;refine HUC.out.mono ?_;rintro e w10 ⟨⟨vi,rfl,hRi⟩,hBi⟩;obtain ⟨Ai,ci,hvi⟩:=RForm hRi;subst hvi;have RI:=hid hRi;have BI:=hid hBi;clear hRi hBi))
          go_meet
          exact ⟨Ai,ci,rfl,hid (fixed_C (keeps_below BI.out) (Kd.R_reads' RI.out).2.2),BI⟩
         | false =>
          have hIn:I=[]:=by
           have h:=HCN.out;rw [<- HII.out];unfold innerR;rw [if_neg (fun h2=>by rw [decide_eq_true h2.1,decide_eq_true h2.2] at h;cases h)]
          subst hIn
          go_wp2_with fail
          go_meet
          exact ⟨none,0,rfl,hid (C_nil _ _ _),hid (Below.refl _ _)⟩
        case rest =>
         obtain ⟨Ai,ci,rfl,HCI,B10⟩:=hcut;obtain ⟨nI,hnI⟩:∃ nI,I.length=nI:=⟨_,rfl⟩;rw [hnI] at HCI HIL ⊢;have HNI:=hid hnI;clear hnI
         rename World=>wc
         go_wp2_with fail
         go_loopw [20,21] (fun vb v wq=>∃ (j:Nat) (b:Bool),vb=.bool b/\v=.int .i64 (j:Int)/\j<=nI/\Hid ((b||mustR (I.drop j))=mustR I)/\wq=wc) (fun _ v _=>nI - (intOf v).toNat)
         case atStart=>exact ⟨0,false,by go_num,by go_num,by omega,hid rfl,rfl⟩
         case round =>
          obtain ⟨j,b,rfl,rfl,hj,HMU,hwq⟩:=hrel;subst hwq;have hbI:=HIL.out
          by_cases hjn:j<nI
          ·have hjl:j<I.length:=by rw [HNI.out];exact hjn
           have hx2:I[j]?=some I[j]:=List.getElem?_eq_getElem hjl;obtain ⟨ad4,A6,c6,eI,z0,z1,z2,z3,z4,z5,z6,z7,z8,z9,z10,l6,C6⟩:=at_Row HCI.out (j:Int) (by omega) (by omega);rw [row_at I j _ hx2] at z9;clear z0 z1 z2 z3 z4 z5 z6 z7 z8 z10 l6 C6;have HMA:=hid (must_at hx2);generalize I[j]=r2 at hx2 z9 HMA;subst eI;simp only [Int.toNat_natCast] at z9;clear hx2 hjl;cases b with
           | true =>
            have HM2:Hid ((true||mustR (I.drop (j + 1)))=mustR I):=hid (by rw [Bool.true_or];have:=HMU.out;rw [Bool.true_or] at this;exact this);clear z9
            go_wp2_with fail
            exact ⟨⟨j + 1,true,by go_num,by go_num,by omega,HM2,by first | rfl | trivial⟩,by simp [intOf];omega⟩
           | false =>
            by_cases ht:r2.times=1
            ·have ht1:(r2.times == 1)=true:=by simp [ht]
             have HM2:Hid ((true||mustR (I.drop (j + 1)))=mustR I):=hid (by
              have h:=HMU.out;rw [HMA.out,decide_eq_true ht,Bool.true_or,Bool.false_or] at h;rw [Bool.true_or]
              exact h)
             clear ht
             go_wp2_with fail
             exact ⟨⟨j + 1,true,by go_num,by go_num,by omega,HM2,by first | rfl | trivial⟩,by simp [intOf];omega⟩
            ·have ht1:(r2.times == 1)=false:=by simp [ht]
             have HM2:Hid ((false||mustR (I.drop (j + 1)))=mustR I):=hid (by
              have h:=HMU.out;rw [HMA.out,decide_eq_false ht,Bool.false_or,Bool.false_or] at h;rw [Bool.false_or]
              exact h)
             clear ht
             go_wp2_with fail
             exact ⟨⟨j + 1,false,by go_num,by go_num,by omega,HM2,by first | rfl | trivial⟩,by simp [intOf];omega⟩
          ·obtain rfl:nI=j:=by omega
           have HMB:Hid (b=mustR I):=hid (by
            have h:=HMU.out;rw [List.drop_eq_nil_of_le (by rw [HNI.out];exact Nat.le_refl _)] at h;rw [<- h]
            cases b <;> rfl)
           have GAwr:=hid (blk_b GAw9.out B10.out);have GFwr:=hid (blk_b GFw9.out B10.out);have BWwr:Hid (Below w.heap.size w wr):=hid (BWw9.out.trans (B10.out.mono BWw9.out.size));have GEwr:=hid (blk_b F1.out B10.out);have BIE:Hid (Below wi.heap.size wi wr):=hid (Dw4.out.trans (((BQ.out.trans ((F2.out.trans (B10.out.mono F2.out.size)).mono BQ.out.size))).mono Dw4.out.size));rw [<- HEN.out] at GEwr;have HG16:Hid (wi.heap.size<=g16/\g16<wr.heap.size/\w2.heap.size<=wi.heap.size):=hid ⟨by have:=F3.out;have:=Dw4.out.size;have:=BQ.out.size;omega,(gS.1 GEwr.out).1,BL.out.size⟩;clear HMU hjn hj;obtain ⟨a0,a1,a2,a3,a4,a5,a6,a7,a8,a9,a10,a11⟩:=att_cells GAwr.out;clear a0 a1 a2 a3 a4 a5 a6 a7 a9 a10 a11;obtain ⟨bd,hbd⟩:∃ bd:Bool,bd=((a.f3&&I.isEmpty)||(!a.f3&&b)):=⟨_,rfl⟩;have HBD:=hid hbd;clear hbd
           go_upto_region 25 with fail
           go_cut [145] from 131 to 145 (fun v145 wx=>v145=.bool bd/\wx=wr)
           case first =>
            by_cases hbr:a.f3=true
            ·rw [hbr] at a8
             rcases Nat.eq_zero_or_pos nI with hz | hz
             ·have hIe:I=[]:=List.length_eq_zero_iff.1 (by rw [HNI.out];exact hz)
              have HB:Hid (bd=true):=hid (by rw [HBD.out,hbr,hIe];rfl);have hz1:((nI:Int) == 0)=true:=by simp [hz]
              have hz2:(nI == 0)=true:=by simp [hz]
              clear hIe hbr hz
              go_wp2_with fail
              go_meet
              exact ⟨by rw [HB.out],rfl⟩
             ·have hIe:I.isEmpty=false:=by
               cases hI2:I with
               | nil=>have:=HNI.out;rw [hI2] at this;simp at this;omega
               | cons _ _=>rfl
              have HB:Hid (bd=false):=hid (by rw [HBD.out,hbr,hIe];rfl);have hz1:((nI:Int) == 0)=false:=by simp;omega
              have hz2:(nI == 0)=false:=by simp;omega
              clear hIe hbr hz
              go_wp2_with fail
              go_meet
              exact ⟨by rw [HB.out],rfl⟩
            ·replace hbr:a.f3=false:=by simpa using hbr
             rw [hbr] at a8;cases b with
             | true =>
              have HB:Hid (bd=true):=hid (by rw [HBD.out,hbr];simp);clear hbr
              go_wp2_with fail
              go_meet
              exact ⟨by rw [HB.out],rfl⟩
             | false =>
              have HB:Hid (bd=false):=hid (by rw [HBD.out,hbr];simp);clear hbr
              go_wp2_with fail
              go_meet
              exact ⟨by rw [HB.out],rfl⟩
           case rest =>
           obtain ⟨hc1,hc2⟩:=hcut;replace hc2:=hc2.symm;subst hc1 hc2;cases bd with
           | true =>
            have HBAD:Hid (RES=.error ⟨56,a.f1,a.f0⟩):=hid (by
             rw [<- HRD.out]
             refine listTo_bad HX.out ?_
             rw [HRA.out,HAO.out,<- HMB.out,<- HBD.out]
             rfl)
            clear a8
            go_upto_region 26 with fail
            obtain ⟨a0,a1,a2,a3,a4,a5,a6,a7,a8,a9,a10,a11⟩:=att_cells GAwr.out;clear a4 a5 a6 a7 a8 a9 a10 a11
            go_wp2_with (first
             | (go_at_call 71;refine (rfault_calls (56) a.f1 a.f0 wr).mono ?_;rintro e y1 ⟨rfl,hB⟩;have BY1:Hid (Below wr.heap.size wr y1):=hid hB;have FY1:=hid (blk_b GFwr.out hB);clear hB a0 a1 a2 a3)
             | ((with_reducible refine gate_store (t:=66) (p:=11) rfl ?_);refine put_event rfl 66 _ _ rfl w1.heap.size (faC (56) a.f1 a.f0) rfl rfl 66 fa0 FY1.out (by kernel_rfl) rfl (by simp [Value.oneCell']) w.heap.size HZ1.out ?_;intro y2 hb9 hB9 hs9 ho9;have G9:=hid hb9;have B9:Hid (Below w.heap.size w y2):=hid ((BWwr.out.trans (BY1.out.mono BWwr.out.size)).trans hB9);clear hb9 hB9 hs9 ho9))
            refine bodyPost_ret (results_list (rs:=[.tmp 10,.cell 11 66]) rfl (by simp) (.tmp (.cell w1.heap.size 66 (faC (56) a.f1 a.f0) (0,0) _ rfl G9.out Tryz.underlying66 rfl (by kernel_rfl) .nil))) rfl ?_
            rw [HBAD.out];exact ⟨B9.out,rfl⟩
           | false =>
            have HA3:Hid (attrR rs obj x a=if I.isEmpty then .ok y else match listedR rs obj I (if a.f3 then a.f4 else []) a.f1 with
             | .error f=>.error f
             | .ok p=>.ok (addP y p)):=hid (by
             rw [HAO.out,<- HMB.out,<- HBD.out]
             rfl)
            go_upto_region 27 with fail
            obtain ⟨tv,htv⟩:∃ tv:Bool,tv=decide (0<nI):=⟨_,rfl⟩;have HTV:=hid htv;clear htv
            go_cut [157] from 146 to 157 (fun v157 wx=>v157=.bool tv/\wx=wr)
            case first =>
             have HB2:Hid (a.f3=true->0<nI):=hid (fun h=>by
              rcases Nat.eq_zero_or_pos nI with hz | hz
              ·have hIe:I=[]:=List.length_eq_zero_iff.1 (by rw [HNI.out];exact hz)
               have:=HBD.out;rw [h,hIe] at this;cases this
              ·exact hz)
             by_cases hbr:a.f3=true
             ·have HP:=hid (HB2.out hbr)
              rw [hbr] at a8;clear hbr
              go_wp2_with fail
              go_meet
              exact ⟨by rw [HTV.out,decide_eq_true HP.out],rfl⟩
             ·replace hbr:a.f3=false:=by simpa using hbr
              rw [hbr] at a8;clear hbr;rcases Nat.eq_zero_or_pos nI with hz | hz
              ·have hz3:¬ (0:Int)<(nI:Int):=by omega
               have hz4:decide ((0:Int)<(nI:Int))=false:=decide_eq_false hz3;have HP:Hid (¬ 0<nI):=hid (by omega);clear hz
               go_wp2_with fail
               go_meet
               exact ⟨by rw [HTV.out,decide_eq_false HP.out],rfl⟩
              ·have hz3:(0:Int)<(nI:Int):=by omega
               have hz4:decide ((0:Int)<(nI:Int))=true:=decide_eq_true hz3;have HP:Hid (0<nI):=hid hz;clear hz
               go_wp2_with fail
               go_meet
               exact ⟨by rw [HTV.out,decide_eq_true HP.out],rfl⟩
            case rest =>
            obtain ⟨hc1,hc2⟩:=hcut;replace hc2:=hc2.symm;subst hc1 hc2;clear a8
            have HLC:Hid (∀ (ps:List SA) (A':Option Addr) (n' c':Nat),ps.length=n'->szL ps<m->szL ps<=1073741824->Kd.C k50 wr A' n' ps->Calls Tryz.prog 72 #[.slice A nr c,.string obj,.slice Ai nI ci,.slice A' n' c',.agg #[.int .i64 a.f1.f0,.int .i64 a.f1.f1,.int .i64 a.f1.f2]] wr (RLPost (listedR rs obj I ps a.f1) wr)):=hid (fun ps A' n' c' hn' h1 h2 h3=>by
             have h:=IH.out (szL ps) h1 ps obj I a.f1 A c Ai ci A' c' wr (Nat.le_refl _) h2 (by rw [HNR.out];exact Kd.C_below HA.out BWwr.out) (by rw [HNR.out];exact HA9.out) (by rw [HNI.out];exact HCI.out) (by rw [HNI.out];exact HIL.out) (by rw [hn'];exact h3);rw [HNR.out,HNI.out,hn'] at h
             exact h)
            have HC9w:Hid (Kd.C k50 wr A9 n9 a.f4):=hid (Kd.C_below HC9.out BIE.out);have HISZ:Hid ((I.isEmpty=true↔nI=0)):=hid (by rw [<- HNI.out];cases I <;> simp)
            go_upto_if 157 with fail
            go_cut [22,23,24] from 158 to 178 (fun v22 v23 v24 wx=>∃ (ps:List SE) (Ap:Option Addr) (np cp:Nat),Hid (readA rs obj l G a=.ok (addP y ps))/\Hid (wx.heap[g16]?=some (.cells #[.string y.name,.int .i64 y.spot.f0,.int .i64 y.spot.f1,.int .i64 y.spot.f2,.int .u32 y.num,.bool y.auto,.string y.word,.slice Ap np cp] 80 (0,0)))/\Hid (Kd.R kEnt 80 wx wi.heap.size (fun _=>True) (.slice Ap np cp) ps)/\Hid (Below wi.heap.size wi wx))
            case first =>
             clear HA HA9 HL HL9 HS IH hb1 hb2 hb3 hb4 HPK F1 HROW HLQ HII HCN HBD HMB HAO HCI HIL HC5 HN5 GS HSZ HXN HFC HVC B10 F2 F3 BQ Dw4 BL BW BWR BWB BWw4 BWw9 GAw4 GFw4 GAwb GFwb GAw9 GFw9 HF;rename_i n0_ n1_ n2_ n3_ n4_ n5_ n6_ n7_ n8_ n9_ n10_ n11_ n12_ n13_ n14_ n15_ n16_ n17_ n18_ n19_ n20_ n21_ n22_ n23_ n24_ n25_ n26_ n27_ n28_ n29_ n30_ n31_ n32_ n33_ n34_ n35_ n36_ n37_ n38_ n39_ n40_ n41_ n42_ n43_ n44_ n45_ n46_ n47_ n48_ n49_ n50_ n51_ n52_ n53_ n54_ n55_ n56_ n57_ n58_ n59_ n60_ n61_ n62_ n63_ n64_ n65_ n66_ n67_ n68_ n69_ n70_ n71_ n72_ n73_ n74_ n75_ n76_ n77_ n78_ n79_ n80_ n81_ n82_ n83_ n84_ n85_ n86_ n87_ n88_ n89_ n90_ n91_ n92_ n93_ n94_ n95_ n96_ n97_ n98_ n99_ n100_ n101_ n102_ n103_ n104_ n105_ n106_ n107_ n108_;revert ats obj l sp A c cl ca w RES HRES nr nl n hn9 HNR HNL HN w1 w2 GF HZ1 n0_ n1_ n2_ u14 u15 u16 u17 u18 u19 u20 u21 u22 u23 u24 u29 u30 u31 u32 u33 u34 u35 u36 u37 u38 u39 u40 u41 u42 u43 u44 u45 u46 u47 u48 u49 n3_ n4_ n5_ n6_ n7_ n8_ n9_ n10_ n11_ n12_ n13_ n14_ n15_ n16_ n17_ n18_ n19_ n20_ n21_ n22_ n23_ n24_ n25_ n26_ n27_ n28_ n29_ u77 u78 u79 u80 u81 u82 u83 u84 u85 u86 u87 u88 u89 u90 u91 u92 u93 n30_ n31_ n32_ n33_ n34_ n35_ n36_ n37_ n38_ n39_ n40_ n41_ n42_ n43_ u108 n44_ n45_ n46_ n47_ n48_ n49_ n50_ n51_ n52_ n53_ n54_ n55_ n56_ n57_ n58_ n59_ n60_ n61_ n62_ n63_ n64_ n65_ n66_ n67_ n68_ n69_ n70_ n71_ n72_ n73_ n74_ n75_ n76_ n77_ n78_ n79_ u145 n80_ n81_ n82_ n83_ n84_ n85_ n86_ n87_ n88_ n89_ n90_ u157 u158 u159 u160 u161 u162 u163 u164 u165 u166 u167 u168 u169 u170 u171 u172 u173 u174 u175 u176 u177 u178 u179 u180 u181 u182 i G hi HRD Ag cg ng HGL HNG hin ad A9 c9 a HSA HX n9 HN9 n91_ w3 w4 x q hql n92_ n93_ wi RG HC9 ad2 A5 c5 n94_ n95_ u10 u50 u51 u52 u53 u54 u55 u56 u57 u58 u59 u60 u61 u62 u63 u64 u65 u66 u67 u68 u69 u70 u71 u72 u73 u74 u75 u76 hbg HRA wb n5 n96_ n97_ n98_ y w9 g16 HPN HEN I cnd u94 u95 u96 u97 u98 u99 u100 u101 u102 u103 u104 u105 u106 u107 u109 u110 u111 u112 u113 u114 u115 Ai ci nI HNI n99_ wr u116 u117 u118 u119 u120 u121 u122 u123 u124 u125 u126 u127 u128 u129 u130 b hbI GAwr GFwr BWwr GEwr BIE HG16 n100_ n101_ n102_ u131 u132 u133 u134 u135 u136 u137 u138 u139 u140 u141 u142 u143 u144 HA3 n103_ n104_ tv HTV u146 u147 u148 u149 u150 u151 u152 u153 u154 u155 u156 HLC HC9w HISZ n105_ n106_ n107_ n108_;exact K1.out
            case rest =>
             clear HA HA9 HL HL9 HS IH hb1 hb2 hb4 HPK F1 HROW HLQ HII HCN HBD HMB HAO HA3 HCI HIL HC5 HN5 GS HSZ HXN HFC HVC B10 F2 F3 BQ Dw4 BW BWR BWB BWw4 BWw9 BWwr GAw4 GFw4 GAwb GFwb GAw9 GFw9 GAwr GFwr GEwr HF GF HLC HC9 HC9w HISZ HRA HZ1 HSA HPN HNI HEN BIE;rename_i n0_ n1_ n2_ n3_ n4_ n5_ n6_ n7_ n8_ n9_ n10_ n11_ n12_ n13_ n14_ n15_ n16_ n17_ n18_ n19_ n20_ n21_ n22_ n23_ n24_ n25_ n26_ n27_ n28_ n29_ n30_ n31_ n32_ n33_ n34_ n35_ n36_ n37_ n38_ n39_ n40_ n41_ n42_ n43_ n44_ n45_ n46_ n47_ n48_ n49_ n50_ n51_ n52_ n53_ n54_ n55_ n56_ n57_ n58_ n59_ n60_ n61_ n62_ n63_ n64_ n65_ n66_ n67_ n68_ n69_ n70_ n71_ n72_ n73_ n74_ n75_ n76_ n77_ n78_ n79_ n80_ n81_ n82_ n83_ n84_ n85_ n86_ n87_ n88_ n89_ n90_ n91_ n92_ n93_ n94_ n95_ n96_ n97_ n98_ n99_ n100_ n101_ n102_ n103_ n104_ n105_ n106_ n107_ n108_ n109_ n110_ n111_ n112_ n113_ n114_ n115_ n116_ n117_ n118_ n119_ n120_ n121_ n122_ n123_ n124_ n125_ n126_ n127_ n128_ n129_;revert ats obj l sp A c cl ca w RES HRES nr nl n hn9 HNR HNL HN w1 w2 n0_ n1_ n2_ u14 u15 u16 u17 u18 u19 u20 u21 n3_ n4_ n5_ u29 u30 u31 u32 u33 u34 u35 u36 u37 u38 u39 u40 u41 u42 u43 u44 u45 u46 u47 u48 u49 n6_ n7_ n8_ n9_ n10_ n11_ n12_ n13_ n14_ n15_ n16_ n17_ n18_ n19_ n20_ n21_ n22_ n23_ n24_ n25_ n26_ n27_ n28_ n29_ n30_ n31_ n32_ u77 u78 u79 u80 u81 u82 u83 u84 u85 u86 u87 u88 u89 u90 u91 u92 u93 n33_ n34_ n35_ n36_ n37_ n38_ n39_ n40_ n41_ n42_ n43_ n44_ n45_ n46_ u108 n47_ n48_ n49_ n50_ n51_ n52_ n53_ n54_ n55_ n56_ n57_ n58_ n59_ n60_ n61_ n62_ n63_ n64_ n65_ n66_ n67_ n68_ n69_ n70_ n71_ n72_ n73_ n74_ n75_ n76_ n77_ n78_ n79_ n80_ n81_ n82_ u145 n83_ n84_ n85_ n86_ n87_ n88_ n89_ n90_ n91_ n92_ n93_ u157 n94_ n95_ n96_ n97_ n98_ n99_ n100_ n101_ n102_ n103_ n104_ n105_ n106_ n107_ n108_ n109_ n110_ n111_ n112_ n113_ n114_ u179 u180 u181 u182 i G hi HRD Ag cg ng HGL HNG hb3 hin ad A9 c9 a HX n9 HN9 n115_ w3 w4 x q hql n116_ n117_ wi BL RG ad2 A5 c5 n118_ n119_ n120_ u50 u51 u52 u53 u54 u55 u56 u57 u58 u59 u60 u61 u62 u63 u64 u65 u66 u67 u68 u69 u70 u71 u72 u73 u74 u75 u76 hbg wb n5 n121_ n122_ n123_ y w9 g16 I cnd u94 u95 u96 u97 u98 u99 u100 u101 u102 u103 u104 u105 u106 u107 u109 u110 u111 u112 u113 u114 u115 Ai ci nI n124_ wr u116 u117 u118 u119 u120 u121 u122 u123 u124 u125 u126 u127 u128 u129 u130 b hbI HG16 n125_ n126_ n127_ u131 u132 u133 u134 u135 u136 u137 u138 u139 u140 u141 u142 u143 u144 n128_ n129_ tv HTV u146 u147 u148 u149 u150 u151 u152 u153 u154 u155 u156 wc u10 u22 u23 u24 u158 u159 u160 u161 u162 u163 u164 u165 u166 u167 u168 u169 u170 u171 u172 u173 u174 u175 u176 u177 u178 hcut;exact K2.out
  ·obtain rfl:n=i:=by omega
   have HOUT:Hid (outR G sp l=RES):=hid (by
    have h:=HRD.out;rw [<- HN.out,listTo_end] at h
    exact h)
   clear HA HA9 HS HSZ IH HRD HRES HN HNR hin hi hb1 hb2 hb3;rename_i n0_ n1_;revert ats obj l sp A c Al cl As ca w RES nr nl HL9 HL n hn9 HNL w1 w2 GS GF BW HZ1 n0_ n1_ wr u10 u14 u15 u16 u17 u18 u19 u20 u21 u22 u23 u24 u29 u30 u31 u32 u33 u34 u35 u36 u37 u38 u39 u40 u41 u42 u43 u44 u45 u46 u47 u48 u49 u50 u51 u52 u53 u54 u55 u56 u57 u58 u59 u60 u61 u62 u63 u64 u65 u66 u67 u68 u69 u70 u71 u72 u73 u74 u75 u76 u77 u78 u79 u80 u81 u82 u83 u84 u85 u86 u87 u88 u89 u90 u91 u92 u93 u94 u95 u96 u97 u98 u99 u100 u101 u102 u103 u104 u105 u106 u107 u108 u109 u110 u111 u112 u113 u114 u115 u116 u117 u118 u119 u120 u121 u122 u123 u124 u125 u126 u127 u128 u129 u130 u131 u132 u133 u134 u135 u136 u137 u138 u139 u140 u141 u142 u143 u144 u145 u146 u147 u148 u149 u150 u151 u152 u153 u154 u155 u156 u157 u158 u159 u160 u161 u162 u163 u164 u165 u166 u167 u168 u169 u170 u171 u172 u173 u174 u175 u176 u177 u178 u179 u180 u181 u182 G BL Ag cg ng RG HNG BWR HGL HOUT;exact K3.out
theorem addP_nil {y:SE} (h:y.params=[]):addP y []=y:=by
 cases y;cases h
 rfl
theorem rl_under (rs:List SR) (m:Nat) (ih:∀ m',m'<m->RLC rs m'):(rlSplit rs m ih).P1:=by
 intro ats obj l sp A c cl ca w RES HRES nr nl n hn9 HNR HNL HN w1 w2 GF HZ1 n0_ n1_ n2_ u14 u15 u16 u17 u18 u19 u20 u21 u22 u23 u24 u29 u30 u31 u32 u33 u34 u35 u36 u37 u38 u39 u40 u41 u42 u43 u44 u45 u46 u47 u48 u49 n3_ n4_ n5_ n6_ n7_ n8_ n9_ n10_ n11_ n12_ n13_ n14_ n15_ n16_ n17_ n18_ n19_ n20_ n21_ n22_ n23_ n24_ n25_ n26_ n27_ n28_ n29_ u77 u78 u79 u80 u81 u82 u83 u84 u85 u86 u87 u88 u89 u90 u91 u92 u93 n30_ n31_ n32_ n33_ n34_ n35_ n36_ n37_ n38_ n39_ n40_ n41_ n42_ n43_ u108 n44_ n45_ n46_ n47_ n48_ n49_ n50_ n51_ n52_ n53_ n54_ n55_ n56_ n57_ n58_ n59_ n60_ n61_ n62_ n63_ n64_ n65_ n66_ n67_ n68_ n69_ n70_ n71_ n72_ n73_ n74_ n75_ n76_ n77_ n78_ n79_ u145 n80_ n81_ n82_ n83_ n84_ n85_ n86_ n87_ n88_ n89_ n90_ u157 u158 u159 u160 u161 u162 u163 u164 u165 u166 u167 u168 u169 u170 u171 u172 u173 u174 u175 u176 u177 u178 u179 u180 u181 u182 i G hi HRD Ag cg ng HGL HNG hin ad A9 c9 a HSA HX n9 HN9 n91_ w3 w4 x q hql n92_ n93_ wi RG HC9 ad2 A5 c5 n94_ n95_ u10 u50 u51 u52 u53 u54 u55 u56 u57 u58 u59 u60 u61 u62 u63 u64 u65 u66 u67 u68 u69 u70 u71 u72 u73 u74 u75 u76 hbg HRA wb n5 n96_ n97_ n98_ y w9 g16 HPN HEN I cnd u94 u95 u96 u97 u98 u99 u100 u101 u102 u103 u104 u105 u106 u107 u109 u110 u111 u112 u113 u114 u115 Ai ci nI HNI n99_ wr u116 u117 u118 u119 u120 u121 u122 u123 u124 u125 u126 u127 u128 u129 u130 b hbI GAwr GFwr BWwr GEwr BIE HG16 n100_ n101_ n102_ u131 u132 u133 u134 u135 u136 u137 u138 u139 u140 u141 u142 u143 u144 HA3 n103_ n104_ tv HTV u146 u147 u148 u149 u150 u151 u152 u153 u154 u155 u156 HLC HC9w HISZ n105_ n106_ n107_ n108_;have tkL:True:=trivial;cases tv with
 | false =>
  have hz:nI=0:=by have:=HTV.out;simp at this;omega
  have HRE:Hid (readA rs obj l G a=.ok (addP y [])):=hid (by
   rw [HRA.out,HA3.out,if_pos (HISZ.out.2 hz),addP_nil HPN.out])
  clear hz
  go_wp2_with fail
  go_meet
  exact ⟨[],none,0,0,HRE,GEwr,hid (Kd.R_nil _ _ _ _ _),BIE⟩
 | true =>
  have hz:0<nI:=by have:=HTV.out;simpa using this.symm
  have hIe:¬ I.isEmpty=true:=fun h=>by have:=HISZ.out.1 h;omega
  obtain ⟨QS,hQS⟩:∃ QS:List SA,QS=(if a.f3 then a.f4 else []):=⟨_,rfl⟩;have HQS:=hid hQS
  have HA4:Hid (readA rs obj l G a=match listedR rs obj I QS a.f1 with
    | .error f=>.error f
    | .ok p=>.ok (addP y p)):=hid (by rw [HRA.out,HA3.out,if_neg hIe,<- hQS];first | done | (cases listedR rs obj I QS a.f1 <;> rfl))
  clear hz hIe hQS;obtain ⟨a0,a1,a2,a3,a4,a5,a6,a7,a8,a9,a10,a11⟩:=att_cells GAwr.out;clear a0 a1 a2 a3 a4 a5 a6 a7 a10 a11;obtain ⟨bb,hbb⟩:∃ bb:Bool,a.f3=bb:=⟨_,rfl⟩;rw [hbb] at a8;have HBB:=hid hbb;clear hbb
  go_upto_region 29 with fail
  clear a9
  go_upto_if 162 with fail
  go_cut [22] from 160 to 162 (fun v22 wx=>(∃ (A':Option Addr) (n' c':Nat),v22=.slice A' n' c'/\QS.length=n'/\Hid (Kd.C k50 wr A' n' QS)/\Hid (szL QS<m/\szL QS<=1073741824))/\wx=wr)
  case first =>
   cases bb with
   | true =>
    have HQ2:Hid (QS=a.f4):=hid (by rw [HQS.out,HBB.out];rfl)
    go_wp2_with fail
    go_meet
    exact ⟨⟨A9,n9,c9,rfl,by rw [HQ2.out];exact HN9.out,hid (by rw [HQ2.out];exact HC9w.out),hid (by rw [HQ2.out];exact HSA.out)⟩,rfl⟩
   | false =>
    have HQ2:Hid (QS=[]):=hid (by rw [HQS.out,HBB.out];rfl)
    go_wp2_with fail
    go_meet
    exact ⟨⟨none,0,0,rfl,by rw [HQ2.out];rfl,hid (by rw [HQ2.out];exact C_nil _ _ _),hid (by rw [HQ2.out];have:=HSA.out.1;simp only [szL];omega)⟩,rfl⟩
  case rest =>
  obtain ⟨⟨A',n',c',rfl,hnq,HCQ,HSQ⟩,hc2⟩:=hcut;replace hc2:=hc2.symm;subst hc2;have HL1:=hid (HLC.out QS A' n' c' hnq HSQ.out.1 HSQ.out.2 HCQ.out);clear a8 HLC hnq;obtain ⟨a0,a1,a2,a3,a4,a5,a6,a7,a8,a9,a10,a11⟩:=att_cells GAwr.out;clear a0 a4 a5 a6 a7 a8 a9 a10 a11;cases hlr:listedR rs obj I QS a.f1 with
  | error f =>
   have HLE:=hid (rl_fail hlr HL1.out);have hcd:50<=f.code:=(listed_code rs (szL QS) QS obj I a.f1 f (Nat.le_refl _) hlr).1
   have HBAD:Hid (RES=.error f):=hid (by
    rw [<- HRD.out]
    exact listTo_bad HX.out (by rw [HA4.out,hlr]))
   have hc0:¬ f.code=0:=by omega
   have hc1:(f.code == 0)=false:=by simp [hc0]
   have hc2:(f.code != 0)=true:=by simp [hc0]
   clear HL1 hlr hcd hc0
   go_upto_region 33 with (first
    | (go_at_call 72;refine HLE.out.mono ?_;rintro e x1 ⟨hB,rfl⟩;have BX1:=hid hB;clear hB a1 a2 a3)
    | (have _t:=tkL;refine run_event rfl (.alloc 66) rfl (.pointer (some ⟨x1.heap.size,0,none⟩)) (x1.alloc (.cells fa0 66)) (by kernel_rfl) ?_;intro x2 hx2;have Bx2:Hid (Below x1.heap.size x1 x2):=hid (by rw [hx2];exact alloc_below _ _);have Ex2:Hid (x2.heap[x1.heap.size]?=some (.cells fa0 66 (0,0))):=hid (by rw [hx2];exact heap_alloc_new _ _);clear hx2 tkL _t)
    | ((with_reducible refine gate_store (t:=66) (p:=24) rfl ?_);refine put_event rfl 66 _ _ rfl x1.heap.size (faC f.code f.spot f.name) rfl rfl 66 fa0 Ex2.out (by kernel_rfl) rfl (by simp [Value.oneCell']) x1.heap.size (Nat.le_refl _) ?_;intro x3 hbx3 hBx3 hsx3 hox3;have Gx3:Hid (x3.heap[x1.heap.size]?=some (.cells (faC f.code f.spot f.name) 66 (0,0))):=hid hbx3;have Dx3:Hid (Below x1.heap.size x1 x3):=hid (Bx2.out.trans hBx3);clear hbx3 hBx3 hsx3 hox3;clear Bx2 Ex2;have l0:=(cell_row Gx3.out 0).trans rfl))
   clear l0 hc1 hc2;have GFx3:=hid (blk_b GFwr.out (BX1.out.trans (Dx3.out.mono BX1.out.size)));have BWx3:Hid (Below w.heap.size w x3):=hid (BWwr.out.trans ((BX1.out.trans (Dx3.out.mono BX1.out.size)).mono BWwr.out.size));obtain ⟨l0,l1,l2,l3,l4⟩:=fau_cells Gx3.out;obtain ⟨m0,m1,m2,m3,m4⟩:=fau_cells GFx3.out;have ff:∀ k,x3.frozen? ⟨w1.heap.size,k,none⟩=false:=fun k=>frozen_row GFx3.out k
   go_region
   all_goals
    generalize hwx:World.setCell _ _ (.string f.name)=wx;obtain ⟨hb5,hg5⟩:=put5 GFx3.out hwx;clear hwx l0 l1 l2 l3 l4 m0 m1 m2 m3 m4 ff
    go_wp2_with fail
    refine bodyPost_ret (results_list (rs:=[.tmp 10,.cell 11 66]) rfl (by simp) (.tmp (.cell w1.heap.size 66 (faC f.code f.spot f.name) (0,0) _ rfl hb5 Tryz.underlying66 rfl (by kernel_rfl) .nil))) rfl ?_
    rw [HBAD.out];exact ⟨(BWx3.out.trans (Below.grown (Below.refl _ _) hg5 BWx3.out.size (fun k hk=>by injection hk with hk;have:=HZ1.out;omega))).drew,rfl⟩
  | ok ps =>
   have HLE:=hid (rl_ok hlr HL1.out);have HRE:Hid (readA rs obj l G a=.ok (addP y ps)):=hid (by rw [HA4.out,hlr]);obtain ⟨np,hnp⟩:∃ np,ps.length=np:=⟨_,rfl⟩;rw [hnp] at HLE;clear HL1 hlr hnp
   go_upto_region 34 with (first
    | (go_at_call 72;refine HLE.out.mono ?_;rintro e x1 ⟨hB,Ap,cp,rfl,hR⟩;have BX1:=hid hB;have RP:=hid hR;clear hB hR a1 a2 a3)
    | (have _t:=tkL;refine run_event rfl (.alloc 66) rfl (.pointer (some ⟨x1.heap.size,0,none⟩)) (x1.alloc (.cells fa0 66)) (by kernel_rfl) ?_;intro x2 hx2;have Bx2:Hid (Below x1.heap.size x1 x2):=hid (by rw [hx2];exact alloc_below _ _);have Ex2:Hid (x2.heap[x1.heap.size]?=some (.cells fa0 66 (0,0))):=hid (by rw [hx2];exact heap_alloc_new _ _);clear hx2 tkL _t)
    | ((with_reducible refine gate_store (t:=66) (p:=24) rfl ?_);refine put_event rfl 66 _ _ rfl x1.heap.size fa0 rfl rfl 66 fa0 Ex2.out (by kernel_rfl) rfl (by simp [Value.oneCell']) x1.heap.size (Nat.le_refl _) ?_;intro x3 hbx3 hBx3 hsx3 hox3;have Gx3:Hid (x3.heap[x1.heap.size]?=some (.cells fa0 66 (0,0))):=hid hbx3;have Dx3:Hid (Below x1.heap.size x1 x3):=hid (Bx2.out.trans hBx3);clear hbx3 hBx3 hsx3 hox3;clear Bx2 Ex2;have l0:=(cell_row Gx3.out 0).trans rfl))
   clear l0;have BWX:Hid (Below wr.heap.size wr x3):=hid (BX1.out.trans (Dx3.out.mono BX1.out.size));have GE3:=hid (blk_b GEwr.out BWX.out)
   go_wp2_with (first
    | ((with_reducible refine gate_store (t:=76) (p:=178) rfl ?_);refine cell_event rfl 76 _ _ rfl g16 7 (.slice Ap np cp) rfl rfl rfl (thereR GE3.out (by simp)) (by kernel_rfl) wi.heap.size HG16.out.1 ?_;intro x6 hw6 hB6 hs6;obtain ⟨hr6,hk6,hz6⟩:=row1 GE3.out hw6;have GE6:Hid (x6.heap[g16]?=some (.cells #[.string y.name,.int .i64 y.spot.f0,.int .i64 y.spot.f1,.int .i64 y.spot.f2,.int .u32 y.num,.bool y.auto,.string y.word,.slice Ap np cp] 80 (0,0))):=hid hr6;have K6:=hid hk6;have BI6:Hid (Below wi.heap.size wi x6):=hid ((BIE.out.trans (BWX.out.mono BIE.out.size)).trans hB6);clear hw6 hB6 hs6 hr6 hk6 hz6))
   go_meet
   have RP6:Hid (Kd.R kEnt 80 x6 wr.heap.size (fun _=>True) (.slice Ap np cp) ps):=hid (Kd.R_mono (Kd.R_move (Kd.R_bound (Kd.R_below RP.out Dx3.out)) (fun k hk=>K6.out k (by have:=hk.2.1;have:=HG16.out;omega))) (fun _ hk=>hk.1));exact ⟨ps,Ap,np,cp,HRE,GE6,hid (Kd.R_lower RP6.out BIE.out.size),BI6⟩
theorem rl_add (rs:List SR) (m:Nat) (ih:∀ m',m'<m->RLC rs m'):(rlSplit rs m ih).P2:=by
 intro ats obj l sp A c cl ca w RES HRES nr nl n hn9 HNR HNL HN w1 w2 n0_ n1_ n2_ u14 u15 u16 u17 u18 u19 u20 u21 n3_ n4_ n5_ u29 u30 u31 u32 u33 u34 u35 u36 u37 u38 u39 u40 u41 u42 u43 u44 u45 u46 u47 u48 u49 n6_ n7_ n8_ n9_ n10_ n11_ n12_ n13_ n14_ n15_ n16_ n17_ n18_ n19_ n20_ n21_ n22_ n23_ n24_ n25_ n26_ n27_ n28_ n29_ n30_ n31_ n32_ u77 u78 u79 u80 u81 u82 u83 u84 u85 u86 u87 u88 u89 u90 u91 u92 u93 n33_ n34_ n35_ n36_ n37_ n38_ n39_ n40_ n41_ n42_ n43_ n44_ n45_ n46_ u108 n47_ n48_ n49_ n50_ n51_ n52_ n53_ n54_ n55_ n56_ n57_ n58_ n59_ n60_ n61_ n62_ n63_ n64_ n65_ n66_ n67_ n68_ n69_ n70_ n71_ n72_ n73_ n74_ n75_ n76_ n77_ n78_ n79_ n80_ n81_ n82_ u145 n83_ n84_ n85_ n86_ n87_ n88_ n89_ n90_ n91_ n92_ n93_ u157 n94_ n95_ n96_ n97_ n98_ n99_ n100_ n101_ n102_ n103_ n104_ n105_ n106_ n107_ n108_ n109_ n110_ n111_ n112_ n113_ n114_ u179 u180 u181 u182 i G hi HRD Ag cg ng HGL HNG hb3 hin ad A9 c9 a HX n9 HN9 n115_ w3 w4 x q hql n116_ n117_ wi BL RG ad2 A5 c5 n118_ n119_ n120_ u50 u51 u52 u53 u54 u55 u56 u57 u58 u59 u60 u61 u62 u63 u64 u65 u66 u67 u68 u69 u70 u71 u72 u73 u74 u75 u76 hbg wb n5 n121_ n122_ n123_ y w9 g16 I cnd u94 u95 u96 u97 u98 u99 u100 u101 u102 u103 u104 u105 u106 u107 u109 u110 u111 u112 u113 u114 u115 Ai ci nI n124_ wr u116 u117 u118 u119 u120 u121 u122 u123 u124 u125 u126 u127 u128 u129 u130 b hbI HG16 n125_ n126_ n127_ u131 u132 u133 u134 u135 u136 u137 u138 u139 u140 u141 u142 u143 u144 n128_ n129_ tv HTV u146 u147 u148 u149 u150 u151 u152 u153 u154 u155 u156 wc u10 u22 u23 u24 u158 u159 u160 u161 u162 u163 u164 u165 u166 u167 u168 u169 u170 u171 u172 u173 u174 u175 u176 u177 u178 hcut;obtain ⟨ps,Ap,np,cp,HRE,GE,RP,BI⟩:=hcut;have hb3:=HGL.out;have HEM:Hid (kEnt.M wc w2.heap.size (fun k=>wi.heap.size<=k) (addP y ps) [.string y.name,.int .i64 y.spot.f0,.int .i64 y.spot.f1,.int .i64 y.spot.f2,.int .u32 y.num,.bool y.auto,.string y.word,.slice Ap np cp]):=hid (kEnt_mkM wc w2.heap.size _ (addP y ps) (Kd.R_lower (Kd.R_mono (Kd.R_bound RP.out) (fun k hk=>hk.2.1)) HG16.out.2.2));have RGE:Hid (Kd.R kEnt 80 wc w2.heap.size (fun _=>True) (.slice Ag ng cg) G):=hid (Kd.R_below RG.out BI.out);have B2E:Hid (Below w2.heap.size w2 wc):=hid (BL.out.trans (BI.out.mono BL.out.size));have HOW:Hid (∀ k,(Value.slice Ag ng cg).ownBlock=some k->k<wi.heap.size):=hid (Kd.R_lt RG.out);obtain ⟨e0,e1,e2,e3,e4,e5,e6,e7⟩:=ent_cells GE.out
 go_wp2_with (first
  | (at_builtin;refine Kd.R_append kEnt (w0:=w2) w2.heap.size rfl (.tmp 179) (.tmp 181) 76 80 (.agg ent0) 88 rfl Tryz.underlying76 infoEnt rfl (show 0<8 by decide) (by omega) (.slice Ag ng cg) G (addP y ps) [.string y.name,.int .i64 y.spot.f0,.int .i64 y.spot.f1,.int .i64 y.spot.f2,.int .u32 y.num,.bool y.auto,.string y.word,.slice Ap np cp] (fun _=>True) (fun k=>wi.heap.size<=k) rfl rfl HEM.out (fun k hk=>⟨trivial,fun h=>by have:=HOW.out k h.symm;omega⟩) (fun _ _=>trivial) RGE.out B2E.out B2E.out.size (by have:=HGL.out;have:=HNG.out;omega) ?_;intro v7 w12 ho hb hg hat;have R7:=hid ho;have B7:Hid (Below w2.heap.size w2 w12):=hid hb;clear ho hb hg hat e0 e1 e2 e3 e4 e5 e6 e7))
 have HNX:Hid (listTo rs obj l sp (G++[addP y ps]) (ats.drop (i + 1))=RES):=hid (by rw [<- HRD.out,listTo_go HX.out HRE.out])
 go_roundw
 case measure=>simp [intOf];omega
 case rel =>
  exact ⟨i + 1,G++[addP y ps],by go_num,by omega,HNX,R7,hid (by rw [List.length_append];have:=HNG.out;have:=HGL.out;simp;omega),B7⟩
theorem ent_get {wa W:World} {base n cg:Nat} {Ag:Option Addr} {G:List SE} {e:SE} {j:Nat} (h:Kd.R kEnt 80 wa base (fun _=>True) (.slice Ag n cg) G) (he:G[j]?=some e) (hB:Below wa.heap.size wa W):∃ ad A7 c7,Ag=some ad/\(W.cell? (ad.add (j*8))=some (.string e.name)/\W.cell? ⟨(ad.add (j*8)).block,(ad.add (j*8)).off + 1,none⟩=some (.int .i64 e.spot.f0)/\W.cell? ⟨(ad.add (j*8)).block,(ad.add (j*8)).off + 2,none⟩=some (.int .i64 e.spot.f1)/\W.cell? ⟨(ad.add (j*8)).block,(ad.add (j*8)).off + 3,none⟩=some (.int .i64 e.spot.f2)/\W.cell? ⟨(ad.add (j*8)).block,(ad.add (j*8)).off + 4,none⟩=some (.int .u32 e.num)/\W.cell? ⟨(ad.add (j*8)).block,(ad.add (j*8)).off + 5,none⟩=some (.bool e.auto)/\W.cell? ⟨(ad.add (j*8)).block,(ad.add (j*8)).off + 6,none⟩=some (.string e.word)/\W.cell? ⟨(ad.add (j*8)).block,(ad.add (j*8)).off + 7,none⟩=some (.slice A7 e.params.length c7))/\kEnt.M W base (fun k=>k<wa.heap.size) e [.string e.name,.int .i64 e.spot.f0,.int .i64 e.spot.f1,.int .i64 e.spot.f2,.int .u32 e.num,.bool e.auto,.string e.word,.slice A7 e.params.length c7]:=by
 obtain ⟨hn,_,_⟩:=Kd.R_reads' h;have hj:j<n:=by rw [hn];exact (List.getElem?_eq_some_iff.1 he).1
 obtain ⟨g,cap,hv,_⟩:=Kd.R_form h (by omega);injection hv with ha _ _
 subst ha;obtain ⟨c,hcl,hM,hcc⟩:=Kd.R_get h zEnt (j:Int) (by omega) (by omega);rw [Int.toNat_natCast] at hM hcc;have hge:G.getD j zEnt=e:=by rw [List.getD_eq_getElem?_getD,he];rfl
 rw [hge] at hM;have hM2:=kEnt.M_mono (ok':=fun k=>k<wa.heap.size) (fun k hk=>hk.2.2.1) (kEnt.M_bound hM);have hM3:=Kd.M_below hM2 hB;obtain ⟨v7,hc,hR⟩:=kEnt_openM hM3;obtain ⟨A7,c7,hv7⟩:=RForm hR;subst hv7;subst hc;have hk:∀ q u,([.string e.name,.int .i64 e.spot.f0,.int .i64 e.spot.f1,.int .i64 e.spot.f2,.int .u32 e.num,.bool e.auto,.string e.word,.slice A7 e.params.length c7]:List Value)[q]?=some u->W.cell? ((⟨g,0,none⟩:Addr).add (j*8 + q))=some u:=fun q u hu=>pw_cell_below hB (hcc q u hu)
 refine ⟨⟨g,0,none⟩,A7,c7,rfl,⟨hk 0 _ rfl,?_,?_,?_,?_,?_,?_,?_⟩,hM3⟩
 ·rw [<- add_field _ _ 1 (by omega)];exact hk 1 _ rfl
 ·rw [<- add_field _ _ 2 (by omega)];exact hk 2 _ rfl
 ·rw [<- add_field _ _ 3 (by omega)];exact hk 3 _ rfl
 ·rw [<- add_field _ _ 4 (by omega)];exact hk 4 _ rfl
 ·rw [<- add_field _ _ 5 (by omega)];exact hk 5 _ rfl
 ·rw [<- add_field _ _ 6 (by omega)];exact hk 6 _ rfl
 ·rw [<- add_field _ _ 7 (by omega)];exact hk 7 _ rfl
theorem named_hit1 {G:List SE} {e:SE} {n:ByteArray} {j:Nat} (he:G[j]?=some e) (h:e.name=n):named (G.take (j + 1)) n=named (G.take j) n++[e]:=by
 rw [List.take_add_one,he];show named (G.take j++[e]) n=_;rw [named_app,if_pos h]
theorem named_miss1 {G:List SE} {e:SE} {n:ByteArray} {j:Nat} (he:G[j]?=some e) (h:¬ e.name=n):named (G.take (j + 1)) n=named (G.take j) n:=by
 rw [List.take_add_one,he];show named (G.take j++[e]) n=_;rw [named_app,if_neg h,List.append_nil]
theorem rl_out (rs:List SR) (m:Nat) (ih:∀ m',m'<m->RLC rs m'):(rlSplit rs m ih).P3:=by
 intro ats obj l sp A c Al cl As ca w RES nr nl HL9 HL n hn9 HNL w1 w2 GS GF BW HZ1 n0_ n1_ wr u10 u14 u15 u16 u17 u18 u19 u20 u21 u22 u23 u24 u29 u30 u31 u32 u33 u34 u35 u36 u37 u38 u39 u40 u41 u42 u43 u44 u45 u46 u47 u48 u49 u50 u51 u52 u53 u54 u55 u56 u57 u58 u59 u60 u61 u62 u63 u64 u65 u66 u67 u68 u69 u70 u71 u72 u73 u74 u75 u76 u77 u78 u79 u80 u81 u82 u83 u84 u85 u86 u87 u88 u89 u90 u91 u92 u93 u94 u95 u96 u97 u98 u99 u100 u101 u102 u103 u104 u105 u106 u107 u108 u109 u110 u111 u112 u113 u114 u115 u116 u117 u118 u119 u120 u121 u122 u123 u124 u125 u126 u127 u128 u129 u130 u131 u132 u133 u134 u135 u136 u137 u138 u139 u140 u141 u142 u143 u144 u145 u146 u147 u148 u149 u150 u151 u152 u153 u154 u155 u156 u157 u158 u159 u160 u161 u162 u163 u164 u165 u166 u167 u168 u169 u170 u171 u172 u173 u174 u175 u176 u177 u178 u179 u180 u181 u182 G BL Ag cg ng RG HNG BWR HGL HOUT;have hgb:ng<=1073741824:=by have:=HGL.out;omega
 have HGB:=hid hgb;obtain ⟨wa,hwa⟩:∃ wa,wa=wr:=⟨_,rfl⟩;subst hwa;have BWA:Hid (Below w.heap.size w wa):=hid (BW.out.trans (BL.out.mono BW.out.size));have HW2:Hid (w2.heap.size<=wa.heap.size):=hid BL.out.size
 go_wp2_with fail
 go_loopw [25,26] (fun ov v W=>∃ (k:Nat) (o:List SE),v=.int .i64 (k:Int)/\k<=nl/\Hid (L2 RES sp l G w2 wa k o ov W)) (fun _ v _=>nl - (intOf v).toNat)
 case atStart=>exact ⟨0,[],by go_num,by omega,hid ⟨by rw [List.drop_zero,outTo_start];exact HOUT.out,Kd.R_nil _ _ _ _ (fun _=>True),fun b hb=>by simp [Value.ownBlock] at hb,Below.refl _ _,by simp⟩⟩
 case round =>
  obtain ⟨k,o,rfl,hk,HI⟩:=hrel;obtain ⟨Ao,co,hov⟩:=RForm HI.out.row;subst hov;have hlb:nl<=1000:=HL9.out
  by_cases hlt:k<nl
  ·have hx:l[k]?=some (l[k]'(by rw [HNL.out];exact hlt)):=List.getElem?_eq_getElem _
   obtain ⟨ad2,A5,c5,eL,x0,x1,x2,x3,x4,x5,x6,x7,x8,x9,x10,l5,C5⟩:=at_Row HL.out (k:Int) (by omega) (by omega);rw [row_at l k _ hx] at x0 x1 x2 x3 x4 x5 x6 x7 x8 x9 x10 l5 C5;generalize (l[k]'(by rw [HNL.out];exact hlt))=x at hx x0 x1 x2 x3 x4 x5 x6 x7 x8 x9 x10 l5 C5;subst eL;simp only [Int.toNat_natCast] at x0 x1 x2 x3 x4 x5 x6 x7 x8 x9 x10;have HX:=hid hx;have HROW:=hid (And.intro x0 (And.intro x1 (And.intro x2 (And.intro x3 (And.intro x4 (And.intro x5 (And.intro x6 (And.intro x7 (And.intro x8 (And.intro x9 x10))))))))));clear hx C5 l5 x0 x1 x2 x3 x4 x5 x6 x7 x8 x9 x10;have HOL:Hid (o.length<=1073741825000):=hid (by have h1:=HI.out.len;have h2:=HL9.out;have h3:k*1073741825<=1000*1073741825:=Nat.mul_le_mul_right _ (by omega);omega)
   go_wp2_with fail
   go_loopw [25,27,28] (fun ov vn v W=>∃ (j ny:Nat) (ys:List SE),v=.int .i64 (j:Int)/\j<=ng/\vn=.int .i64 (ny:Int)/\ny<=j/\Hid (ys.length=ny)/\Hid (ys=named (G.take j) x.name)/\Hid (Kd.R kEnt 80 W w2.heap.size (fun _=>True) ov (o++ys))/\Hid (∀ b,ov.ownBlock=some b->wa.heap.size<=b)/\Hid (Below wa.heap.size wa W)) (fun _ _ v _=>ng - (intOf v).toNat)
   case atStart=>exact ⟨0,0,[],by go_num,by omega,by go_num,by omega,hid rfl,hid rfl,hid (by rw [List.append_nil];exact HI.out.row),hid HI.out.own,hid HI.out.bel⟩
   case round =>
    obtain ⟨j,ny,ys,rfl,hj,rfl,hyj,HYL,HYS,HRO,HOW,HBA⟩:=hrel;obtain ⟨Ai,ci,hov⟩:=RForm HRO.out;subst hov;obtain ⟨no,hno⟩:∃ no,(o++ys).length=no:=⟨_,rfl⟩;rw [hno] at HRO HOW ⊢;have HNO:=hid hno;clear hno;have hgb2:ng<=1073741824:=HGB.out;have BWR:Hid (Below w.heap.size w wr):=hid (BWA.out.trans (HBA.out.mono BWA.out.size))
    by_cases hjn:j<ng
    ·have he:G[j]?=some (G[j]'(by rw [HNG.out];exact hjn)):=List.getElem?_eq_getElem _
     obtain ⟨ad,A7,c7,eE,⟨z0,z1,z2,z3,z4,z5,z6,z7⟩,hM⟩:=ent_get RG.out he HBA.out;generalize (G[j]'(by rw [HNG.out];exact hjn))=e at he z0 z1 z2 z3 z4 z5 z6 z7 hM;subst eE;have HE:=hid he;have HM:=hid hM;clear he hM;obtain ⟨x0,x1,x2,x3,x4,x5,x6,x7,x8,x9,x10⟩:=HROW.out;clear x0 x1 x2 x4 x5 x6 x7 x8 x9 x10;replace x3:=(BWR.out.cell (lC w _ x3)).trans x3
     by_cases hen:e.name=x.name
     ·have hen1:(e.name.toList == x.name.toList)=true:=by rw [beq_str];simp [hen]
      have HT:Hid (named (G.take (j + 1)) x.name=ys++[e]):=hid (by rw [named_hit1 HE.out hen,HYS.out]);clear hen
      go_upto_region 44 with fail
      go_quiet (fail)
      obtain ⟨wd,hwd⟩:∃ wd,wd=wr.drewN nq:=⟨_,rfl⟩;rw [<- hwd];have BD:Hid (Below wr.heap.size wr wd):=hid (by rw [hwd];exact pw_below_drewN (Below.refl _ _) _);clear hwd x3 hen1;replace z0:=(BD.out.cell (lC wr _ z0)).trans z0;replace z1:=(BD.out.cell (lC wr _ z1)).trans z1;replace z2:=(BD.out.cell (lC wr _ z2)).trans z2;replace z3:=(BD.out.cell (lC wr _ z3)).trans z3;replace z4:=(BD.out.cell (lC wr _ z4)).trans z4;replace z5:=(BD.out.cell (lC wr _ z5)).trans z5;replace z6:=(BD.out.cell (lC wr _ z6)).trans z6;replace z7:=(BD.out.cell (lC wr _ z7)).trans z7;have HMD:Hid (kEnt.M wd w2.heap.size (fun k=>k<wa.heap.size) e [.string e.name,.int .i64 e.spot.f0,.int .i64 e.spot.f1,.int .i64 e.spot.f2,.int .u32 e.num,.bool e.auto,.string e.word,.slice A7 e.params.length c7]):=hid (Kd.M_below HM.out BD.out);have ROD:=hid (Kd.R_below HRO.out BD.out);have BWD:Hid (Below wa.heap.size wa wd):=hid (HBA.out.trans (BD.out.mono HBA.out.size));have HLN:Hid ((o++ys).length<=1074815566824):=hid (by rw [List.length_append,HYL.out];have:=HOL.out;have:=HGB.out;omega)
      go_wp2_with (first
       | (at_builtin;refine Kd.R_append kEnt (w0:=wd) w2.heap.size rfl (.tmp 206) (.tmp 211) 76 80 (.agg ent0) 88 rfl Tryz.underlying76 infoEnt rfl (show 0<8 by decide) (by omega) (.slice Ai no ci) (o++ys) e [.string e.name,.int .i64 e.spot.f0,.int .i64 e.spot.f1,.int .i64 e.spot.f2,.int .u32 e.num,.bool e.auto,.string e.word,.slice A7 e.params.length c7] (fun _=>True) (fun k=>k<wa.heap.size) rfl rfl HMD.out (fun q hq=>⟨trivial,fun h=>by have:=HOW.out q h.symm;omega⟩) (fun _ _=>trivial) ROD.out (Below.refl _ _) (by have:=HW2.out;have:=BWD.out.size;omega) (by have:=HLN.out;omega) ?_;intro v7 w7 ho hb hg hat;have R7:=hid ho;have G7:=hid hg;have A7q:=hid hat;clear ho hb hg hat z0 z1 z2 z3 z4 z5 z6 z7))
      exact ⟨⟨j + 1,ny + 1,ys++[e],by go_num,by omega,by go_num,by omega,hid (by rw [List.length_append,HYL.out];rfl),hid HT.out.symm,hid (by rw [<- List.append_assoc];exact R7.out),hid (own_at HOW.out A7q.out BWD.out.size),hid (below_own BWD.out G7.out HOW.out)⟩,by simp [intOf];omega⟩
     ·have hen1:(e.name.toList == x.name.toList)=false:=by rw [beq_str];simp [hen]
      have HT:Hid (named (G.take (j + 1)) x.name=ys):=hid (by rw [named_miss1 HE.out hen,HYS.out]);clear hen
      go_upto_region 44 with fail
      go_quiet (fail)
      obtain ⟨wd,hwd⟩:∃ wd,wd=wr.drewN nq:=⟨_,rfl⟩;rw [<- hwd];have BD:Hid (Below wr.heap.size wr wd):=hid (by rw [hwd];exact pw_below_drewN (Below.refl _ _) _);clear hwd x3 hen1 z0 z1 z2 z3 z4 z5 z6 z7;have ROD:=hid (Kd.R_below HRO.out BD.out);have BWD:Hid (Below wa.heap.size wa wd):=hid (HBA.out.trans (BD.out.mono HBA.out.size))
      go_wp2_with fail
      exact ⟨⟨j + 1,ny,ys,by go_num,by omega,by go_num,by omega,HYL,hid HT.out.symm,ROD,HOW,BWD⟩,by simp [intOf];omega⟩
    ·obtain rfl:ng=j:=by omega
     have HYN:Hid (named G x.name=ys):=hid (by
      rw [HYS.out,List.take_of_length_le (by rw [HNG.out];exact Nat.le_refl _)])
     have HYE:Hid (ys.isEmpty=decide (ny=0)):=hid (by rw [<- HYL.out];cases ys <;> simp);clear HYS hjn hj;obtain ⟨x0,x1,x2,x3,x4,x5,x6,x7,x8,x9,x10⟩:=HROW.out;replace x0:=(BWR.out.cell (lC w _ x0)).trans x0;replace x1:=(BWR.out.cell (lC w _ x1)).trans x1;replace x2:=(BWR.out.cell (lC w _ x2)).trans x2;replace x3:=(BWR.out.cell (lC w _ x3)).trans x3;replace x4:=(BWR.out.cell (lC w _ x4)).trans x4;replace x5:=(BWR.out.cell (lC w _ x5)).trans x5;replace x6:=(BWR.out.cell (lC w _ x6)).trans x6;replace x7:=(BWR.out.cell (lC w _ x7)).trans x7;replace x8:=(BWR.out.cell (lC w _ x8)).trans x8;replace x9:=(BWR.out.cell (lC w _ x9)).trans x9;replace x10:=(BWR.out.cell (lC w _ x10)).trans x10;have HLN:Hid ((o++ys).length<=1074815566824):=hid (by rw [List.length_append,HYL.out];have:=HOL.out;have:=HGB.out;omega);have HLK:Hid ((o++ys).length<=(k + 1)*1073741825 - 1):=hid (by rw [List.length_append,HYL.out];have:=HI.out.len;have:=HGB.out;omega)
     by_cases hz:ny=0
     ·have hz1:((ny:Int) == 0)=true:=by simp [hz]
      have HY0:Hid (ys.isEmpty=true):=hid (by rw [HYE.out,decide_eq_true hz]);clear hz
      by_cases ht1:x.times=1
      ·have HBAD:Hid (RES=.error ⟨54,sp,x.name⟩):=hid (by
        rw [<- HI.out.out]
        exact outTo_bad HX.out (by rw [HYN.out,HY0.out];simp [ht1]))
       have ht2:(x.times == 1)=true:=by simp [ht1]
       clear ht1 x0 x1 x2 x4 x5 x6 x7 x8 x10
       go_upto_region 48 with fail
       clear x9 hz1 ht2;have GSr:=hid (blk_b GS.out (BL.out.trans (HBA.out.mono BL.out.size)));have GFr:=hid (blk_b GF.out (BL.out.trans (HBA.out.mono BL.out.size)));have HPK:=hid x3;clear x3
       apply once
       case h1 =>
        intro key;have x3:=HPK.out;obtain ⟨s0,s1,s2⟩:=spot_read GSr.out
        go_region_with (first
         | (go_at_call 71;refine (rfault_calls 54 sp x.name _).mono ?_;rintro ev y1 ⟨rfl,hB⟩;have BY1:Hid (Below wr.heap.size wr y1):=hid (by first | exact (Below.refl _ wr).drew.trans hB | exact hB);have FY1:=hid (blk_b GFr.out BY1.out);clear hB x3 s0 s1 s2;obtain ⟨m0,m1,m2,m3,m4⟩:=fau_cells FY1.out;have ff:∀ k,y1.frozen? ⟨w1.heap.size,k,none⟩=false:=fun k=>frozen_row FY1.out k))
        all_goals
         generalize hw9:World.setCell _ _ (.string x.name)=w9;obtain ⟨hb5,hg5⟩:=put5 FY1.out hw9;have F2:Hid (Below w.heap.size w w9):=hid ((BWR.out.trans (BY1.out.mono BWR.out.size)).trans (Below.grown (Below.refl _ _) hg5 (by have:=BWR.out.size;have:=BY1.out.size;omega) (fun k hk=>by injection hk with hk;have:=HZ1.out;omega)));have F1:=hid hb5;clear hw9 hb5 hg5 m0 m1 m2 m3 m4 ff FY1 BY1;revert F2;revert F1;revert w9;exact key.out
       case h2 =>
        intro w9 F1 F2
        go_wp2_with fail
        refine bodyPost_ret (results_list (rs:=[.tmp 10,.cell 11 66]) rfl (by simp) (.tmp (.cell w1.heap.size 66 (faC 54 sp x.name) (0,0) _ rfl F1.out Tryz.underlying66 rfl (by kernel_rfl) .nil))) rfl ?_
        rw [HBAD.out];exact ⟨F2.out,rfl⟩
      ·have ht2:(x.times == 1)=false:=by simp [ht1]
       by_cases ht3:x.times=2
       ·have ht4:(x.times == 2)=true:=by simp [ht3]
        have HGO:Hid (outTo G sp (o++[dfltR x]) (l.drop (k + 1))=RES):=hid (by
         rw [<- HI.out.out,outTo_go HX.out (by rw [HYN.out,HY0.out];simp [ht1]),HYN.out,HY0.out]
         simp [ht3])
        have HRO2:Hid (Kd.R kEnt 80 wr w2.heap.size (fun _=>True) (.slice Ai no ci) o):=hid (by
         have h:=HRO.out;have h0:ys=[]:=by have:=HY0.out;simpa using this
         rw [h0,List.append_nil] at h
         exact h)
        have HDC:Hid (Calls Tryz.prog 113 #[.agg #[.string x.obj,.string x.un,.string x.uw,.string x.name,.int .i64 x.want,.slice A5 x.words.length c5,.int .u32 x.lo,.int .u32 x.hi,.bool x.auto,.int .i64 x.times,.string x.dflt]] wr fun e w'=>e=.returned (.agg #[.string (dfltR x).name,.int .i64 (dfltR x).spot.f0,.int .i64 (dfltR x).spot.f1,.int .i64 (dfltR x).spot.f2,.int .u32 (dfltR x).num,.bool (dfltR x).auto,.string (dfltR x).word,.slice none 0 0])/\Below wr.heap.size wr w'):=hid (rdefault_calls x A5 c5 wr);have HDP:Hid ((dfltR x).params=[]):=hid (by unfold dfltR;by_cases h1:x.dflt=sAuto <;> by_cases h2:x.want=1 <;> simp [h1,h2]);generalize dfltR x=dx at HGO HDC HDP;clear ht1 ht3
        go_upto_region 50 with fail
        clear hz1 ht2 ht4
        go_wp2_with (first
         | (go_at_call 113;refine HDC.out.mono ?_;rintro e y6 ⟨rfl,hB6⟩;have BW6:=hid (HBA.out.trans (hB6.mono HBA.out.size));have RO6:=hid (Kd.R_below HRO2.out hB6);clear hB6 x0 x1 x2 x3 x4 x5 x6 x7 x8 x9 x10)
         | (at_builtin;refine Kd.R_append kEnt (w0:=y6) w2.heap.size rfl (.tmp 242) (.tmp 248) 76 80 (.agg ent0) 88 rfl Tryz.underlying76 infoEnt rfl (show 0<8 by decide) (by omega) (.slice Ai no ci) o dx [.string dx.name,.int .i64 dx.spot.f0,.int .i64 dx.spot.f1,.int .i64 dx.spot.f2,.int .u32 dx.num,.bool dx.auto,.string dx.word,.slice none 0 0] (fun _=>True) (fun _=>False) rfl rfl (kEnt_mkM y6 w2.heap.size _ dx (by rw [HDP.out];exact Kd.R_nil _ _ _ _ _)) (fun _ h=>h.elim) (fun _ _=>trivial) RO6.out (Below.refl _ _) (by have:=HW2.out;have:=BW6.out.size;omega) (by have:=HOL.out;omega) ?_;intro v7 w7 ho hb hg hat;have R7:=hid ho;have G7:=hid hg;have A7q:=hid hat;clear ho hb hg hat))
        exact ⟨⟨k + 1,o++[dx],by go_num,by omega,hid ⟨HGO.out,R7.out,own_at HOW.out A7q.out BW6.out.size,below_own BW6.out G7.out HOW.out,by have:=HI.out.len;simp;omega⟩⟩,by simp [intOf];omega⟩
       ·have ht4:(x.times == 2)=false:=by simp [ht3]
        have HGO:Hid (outTo G sp (o++ys) (l.drop (k + 1))=RES):=hid (by
         rw [<- HI.out.out,outTo_go HX.out (by rw [HYN.out,HY0.out];simp [ht1]),HYN.out,HY0.out]
         simp [ht3])
        clear ht1 ht3 x0 x1 x2 x3 x4 x5 x6 x7 x8 x10
        go_wp2_with fail
        exact ⟨⟨k + 1,o++ys,by go_num,by omega,hid ⟨HGO.out,HRO.out,HOW.out,HBA.out,by have:=HLK.out;omega⟩⟩,by simp [intOf];omega⟩
     ·have hz1:((ny:Int) == 0)=false:=by simp;omega
      have HY0:Hid (ys.isEmpty=false):=hid (by rw [HYE.out,decide_eq_false hz])
      have HGO:Hid (outTo G sp (o++ys) (l.drop (k + 1))=RES):=hid (by
       rw [<- HI.out.out,outTo_go HX.out (by rw [HYN.out,HY0.out];rfl),HYN.out,HY0.out]
       rfl)
      clear hz x0 x1 x2 x3 x4 x5 x6 x7 x8 x9 x10
      go_wp2_with fail
      exact ⟨⟨k + 1,o++ys,by go_num,by omega,hid ⟨HGO.out,HRO.out,HOW.out,HBA.out,by have:=HLK.out;omega⟩⟩,by simp [intOf];omega⟩
  ·obtain rfl:k=nl:=by omega
   have HEND:Hid (RES=.ok o):=hid (by
    have h:=HI.out.out;rw [List.drop_eq_nil_of_le (by rw [HNL.out];exact Nat.le_refl _),outTo_end] at h
    exact h.symm)
   have GFr:=hid (blk_b GF.out (BL.out.trans (HI.out.bel.mono BL.out.size)));have BWR:Hid (Below w.heap.size w wr):=hid (BWA.out.trans (HI.out.bel.mono BWA.out.size));have HRO:=hid HI.out.row
   go_wp2_with (first
    | ((with_reducible refine gate_store (t:=66) (p:=11) rfl ?_);refine put_event rfl 66 _ _ rfl w1.heap.size fa0 rfl rfl 66 fa0 GFr.out (by kernel_rfl) rfl (by simp [Value.oneCell',fa0]) w.heap.size HZ1.out ?_;intro y2 hb9 hB9 hs9 ho9;have G9:=hid hb9;have O9:=hid ho9;have B9:Hid (Below w.heap.size w y2):=hid (BWR.out.trans hB9);clear hb9 hB9 hs9 ho9))
   refine bodyPost_ret (results_list (rs:=[.tmp 10,.cell 11 66]) rfl (by simp) (.tmp (.cell w1.heap.size 66 fa0 (0,0) _ rfl G9.out Tryz.underlying66 rfl (by kernel_rfl) .nil))) rfl ?_
   rw [HEND.out]
   refine ⟨B9.out,_,rfl,?_⟩
   exact Kd.R_lower (Kd.R_mono (Kd.R_move (Kd.R_bound HRO.out) (fun k hk=>O9.out k (by have:=hk.2.1;have:=(gS.1 GF.out).1;omega))) (fun _ hk=>hk.1)) BW.out.size
theorem rlisted (rs:List SR):∀ m,RLC rs m:=by
 intro m
 induction m using Nat.strongRecOn with
 | _ m ih=>exact (rlSplit rs m ih).go (hid (rl_under rs m ih)) (hid (rl_add rs m ih)) (hid (rl_out rs m ih))
end Go.Proofs.YtmfejjlmflgnbaaGreatDoor.Sc

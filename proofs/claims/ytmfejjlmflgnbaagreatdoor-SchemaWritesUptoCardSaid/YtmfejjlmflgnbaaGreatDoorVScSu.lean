/- CONTRACTS: the document's SameEntries and Same at any two lists, any two sheets, but for their spots. -/
import Derived.Test.YtmfejjlmflgnbaaGreatDoorVAlk
set_option linter.unusedVariables false
set_option linter.unusedSimpArgs false
set_option maxRecDepth 100000
set_option maxHeartbeats 64000000
namespace Go.Proofs.YtmfejjlmflgnbaaGreatDoor.Sc
open RowKit PA YtmfejjlmflgnbaaGreatDoorW.PrintWords YtmfejjlmflgnbaaGreatDoorW.PrintLast Sp Tr Tok
open Go.Lib (hid)
theorem sameEs_ne {s:Bool} {a b:List SE} (h:¬ a.length=b.length):sameEs s a b=false:=by
 cases hq:sameEs s a b with
 | true=>exact absurd (sameEs_get hq).1 h
 | false=>rfl
theorem sameIs_ne {s:Bool} {a b:List SI} (h:¬ a.length=b.length):sameIs s a b=false:=by
 cases hq:sameIs s a b with
 | true=>exact absurd (sameIs_get hq).1 h
 | false=>rfl
theorem sameEs_at {a b:List SE} {j:Nat} {x y:SE} (hx:a[j]?=some x) (hy:b[j]?=some y):sameEs false (a.drop j) (b.drop j)=(sameE false x y&&sameEs false (a.drop (j + 1)) (b.drop (j + 1))):=by
 obtain ⟨h1,rfl⟩:=List.getElem?_eq_some_iff.1 hx;obtain ⟨h2,rfl⟩:=List.getElem?_eq_some_iff.1 hy;rw [List.drop_eq_getElem_cons h1,List.drop_eq_getElem_cons h2];simp only [sameEs]
theorem sameIs_at {a b:List SI} {j:Nat} {x y:SI} (hx:a[j]?=some x) (hy:b[j]?=some y):sameIs false (a.drop j) (b.drop j)=(sameI false x y&&sameIs false (a.drop (j + 1)) (b.drop (j + 1))):=by
 obtain ⟨h1,rfl⟩:=List.getElem?_eq_some_iff.1 hx;obtain ⟨h2,rfl⟩:=List.getElem?_eq_some_iff.1 hy;rw [List.drop_eq_getElem_cons h1,List.drop_eq_getElem_cons h2];simp only [sameIs]
theorem sameE_eq (x y:SE):sameE false x y=(decide (x.name=y.name)&&x.num == y.num&&x.auto == y.auto&&decide (x.word=y.word)&&sameEs false x.params y.params):=by
 cases x;cases y;simp only [sameE,Bool.not_false,Bool.true_or,Bool.and_true]
theorem sameI_eq (x y:SI):sameI false x y=(decide (x.kind=y.kind)&&decide (x.name=y.name)&&sameEs false x.ents y.ents):=by
 simp only [sameI,Bool.not_false,Bool.true_or,Bool.and_true]
theorem rsameE0_calls (m:Nat):∀ (X Y:List SE) (A B:Option Addr) (c d:Nat) (w:World),szEs Y<=m->szEs Y<=1073741824->Kd.C kEnt w A X.length X->Kd.C kEnt w B Y.length Y ->
  Calls Tryz.prog 74 #[.slice A X.length c,.slice B Y.length d,.bool false] w fun e w'=>e=.returned (.bool (sameEs false X Y))/\Below w.heap.size w w':=by
 induction m using Nat.strongRecOn with
 | _ m ih =>
  intro X Y A B c d w hm hm2 hA hB;have IH:=hid ih;have HA:=hid hA;have HB:=hid hB;have HSZ:Hid (∀ (j:Nat) (x:SE),Y[j]?=some x->szEs x.params<m/\szEs x.params<=1073741824):=hid (fun j x hx=>by have:=szEs_getE Y j x hx;omega);have hl:=Nat.le_trans (szEs_len Y) hm2;have hl3:=Kd.C_max hA;obtain ⟨r,hr⟩:∃ r,sameEs false X Y=r:=⟨_,rfl⟩;rw [hr];have HRR:=hid hr;clear ih hA hB hm hm2 hr
  by_cases hl2:X.length=Y.length
  ·obtain ⟨N,hN⟩:∃ N,X.length=N:=⟨_,rfl⟩
   rw [hN] at HA hl2 ⊢;rw [<- hl2] at HB hl ⊢;have HNX:=hid hN;have HNY:=hid hl2.symm;clear hN hl2 hl3
   go_enter Tryz.func74,Tryz.ntmps74
   go_wp2_with fail
   go_loopw [7] (fun v wr=>∃ j:Nat,v=.int .i64 (j:Int)/\j<=N/\Hid (sameEs false (X.drop j) (Y.drop j)=r)/\Hid (Below w.heap.size w wr)) (fun v _=>N - (intOf v).toNat)
   case atStart=>exact ⟨0,by go_num,by omega,hid (by rw [List.drop_zero,List.drop_zero];exact HRR.out),hid (Below.refl _ _)⟩
   case round =>
    obtain ⟨j,rfl,hj,HR,BL⟩:=hrel
    by_cases hlt:j<N
    ·skip
     have hjX:j<X.length:=by rw [HNX.out];exact hlt
     have hjY:j<Y.length:=by rw [HNY.out];exact hlt
     have hx:X[j]?=some X[j]:=List.getElem?_eq_getElem hjX;have hy:Y[j]?=some Y[j]:=List.getElem?_eq_getElem hjY;obtain ⟨ad,A9,c9,eA,x0,x1,x2,x3,x4,x5,x6,x7,l9,C9⟩:=at_Ent (Kd.C_below HA.out BL.out) (j:Int) (by omega) (by omega);obtain ⟨bd,A8,c8,eB,z0,z1,z2,z3,z4,z5,z6,z7,l8,C8⟩:=at_Ent (Kd.C_below HB.out BL.out) (j:Int) (by omega) (by omega);rw [ent_at' X j _ hx] at x0 x1 x2 x3 x4 x5 x6 x7 l9 C9;rw [ent_at' Y j _ hy] at z0 z1 z2 z3 z4 z5 z6 z7 l8 C8;have hz:=HSZ.out j _ hy;generalize X[j]=a at hx x0 x1 x2 x3 x4 x5 x6 x7 l9 C9;generalize Y[j]=b at hy z0 z1 z2 z3 z4 z5 z6 z7 l8 C8 hz;have HRA:Hid (((decide (a.name=b.name)&&a.num == b.num&&a.auto == b.auto&&decide (a.word=b.word)&&sameEs false a.params b.params)&&sameEs false (X.drop (j + 1)) (Y.drop (j + 1)))=r):=hid (by rw [<- HR.out,sameEs_at hx hy,sameE_eq]);cases eA;cases eB;simp only [Int.toNat_natCast] at x0 x1 x2 x3 x4 x5 x6 x7 z0 z1 z2 z3 z4 z5 z6 z7;have HZ:=hid hz;have HC9:=hid C9;have HC8:=hid C8;clear hx hy hz hjX hjY C9 C8 l9 l8
     go_upto_region 6 with fail
     have HPK:=hid (And.intro x0 (And.intro x1 (And.intro x2 (And.intro x3 (And.intro x4 (And.intro x5 (And.intro x6 (And.intro x7 (And.intro z0 (And.intro z1 (And.intro z2 (And.intro z3 (And.intro z4 (And.intro z5 (And.intro z6 (z7))))))))))))))));clear x0 x1 x2 x3 x4 x5 x6 x7 z0 z1 z2 z3 z4 z5 z6 z7
     apply once
     case h1 =>
      intro key;obtain ⟨x0,x1,x2,x3,x4,x5,x6,x7,z0,z1,z2,z3,z4,z5,z6,z7⟩:=HPK.out;have xa0:=fun (X:Obj)=>cell_al x0 X;have xb0:=fun (X Y:Obj)=>cell_al (cell_al x0 X) Y;have za0:=fun (X:Obj)=>cell_al z0 X;have zb0:=fun (X Y:Obj)=>cell_al (cell_al z0 X) Y;have xa1:=fun (X:Obj)=>cell_al x1 X;have xb1:=fun (X Y:Obj)=>cell_al (cell_al x1 X) Y;have za1:=fun (X:Obj)=>cell_al z1 X;have zb1:=fun (X Y:Obj)=>cell_al (cell_al z1 X) Y;have xa2:=fun (X:Obj)=>cell_al x2 X;have xb2:=fun (X Y:Obj)=>cell_al (cell_al x2 X) Y;have za2:=fun (X:Obj)=>cell_al z2 X;have zb2:=fun (X Y:Obj)=>cell_al (cell_al z2 X) Y;have xa3:=fun (X:Obj)=>cell_al x3 X;have xb3:=fun (X Y:Obj)=>cell_al (cell_al x3 X) Y;have za3:=fun (X:Obj)=>cell_al z3 X;have zb3:=fun (X Y:Obj)=>cell_al (cell_al z3 X) Y;have xa4:=fun (X:Obj)=>cell_al x4 X;have xb4:=fun (X Y:Obj)=>cell_al (cell_al x4 X) Y;have za4:=fun (X:Obj)=>cell_al z4 X;have zb4:=fun (X Y:Obj)=>cell_al (cell_al z4 X) Y;have xa5:=fun (X:Obj)=>cell_al x5 X;have xb5:=fun (X Y:Obj)=>cell_al (cell_al x5 X) Y;have za5:=fun (X:Obj)=>cell_al z5 X;have zb5:=fun (X Y:Obj)=>cell_al (cell_al z5 X) Y;have xa6:=fun (X:Obj)=>cell_al x6 X;have xb6:=fun (X Y:Obj)=>cell_al (cell_al x6 X) Y;have za6:=fun (X:Obj)=>cell_al z6 X;have zb6:=fun (X Y:Obj)=>cell_al (cell_al z6 X) Y;have xa7:=fun (X:Obj)=>cell_al x7 X;have xb7:=fun (X Y:Obj)=>cell_al (cell_al x7 X) Y;have za7:=fun (X:Obj)=>cell_al z7 X;have zb7:=fun (X Y:Obj)=>cell_al (cell_al z7 X) Y
      go_region
      all_goals
       clear x0 xa0 xb0 z0 za0 zb0 x1 xa1 xb1 z1 za1 zb1 x2 xa2 xb2 z2 za2 zb2 x3 xa3 xb3 z3 za3 zb3 x4 xa4 xb4 z4 za4 zb4 x5 xa5 xb5 z5 za5 zb5 x6 xa6 xb6 z6 za6 zb6 x7 xa7 xb7 z7 za7 zb7
       first
        | (obtain ⟨w4,hw4⟩:∃ w4:World,w4=((wr.alloc (.cells #[.string a.name,.int .i64 a.spot.f0,.int .i64 a.spot.f1,.int .i64 a.spot.f2,.int .u32 a.num,.bool a.auto,.string a.word,.slice A9 a.params.length c9] 80)).alloc (.cells #[.string b.name,.int .i64 b.spot.f0,.int .i64 b.spot.f1,.int .i64 b.spot.f2,.int .u32 b.num,.bool b.auto,.string b.word,.slice A8 b.params.length c8] 80)).drew:=⟨_,rfl⟩;rw [<- hw4];obtain ⟨B4,GX,GY⟩:=two_newS hw4;clear hw4;obtain ⟨q,hq⟩:∃ q,q=wr.heap.size + 1:=⟨_,rfl⟩;rw [<- hq] at GY ⊢;obtain ⟨p,hp⟩:∃ p,p=wr.heap.size:=⟨_,rfl⟩;rw [<- hp] at GX ⊢;clear hp hq)
        | (obtain ⟨w4,hw4⟩:∃ w4:World,w4=((wr.alloc (.cells #[.string b.name,.int .i64 b.spot.f0,.int .i64 b.spot.f1,.int .i64 b.spot.f2,.int .u32 b.num,.bool b.auto,.string b.word,.slice A8 b.params.length c8] 80)).alloc (.cells #[.string a.name,.int .i64 a.spot.f0,.int .i64 a.spot.f1,.int .i64 a.spot.f2,.int .u32 a.num,.bool a.auto,.string a.word,.slice A9 a.params.length c9] 80)).drew:=⟨_,rfl⟩;rw [<- hw4];obtain ⟨B4,GY,GX⟩:=two_newS hw4;clear hw4;obtain ⟨p,hp⟩:∃ p,p=wr.heap.size + 1:=⟨_,rfl⟩;rw [<- hp] at GX ⊢;obtain ⟨q,hq⟩:∃ q,q=wr.heap.size:=⟨_,rfl⟩;rw [<- hq] at GY ⊢;clear hp hq)
       revert GY;revert GX;revert B4;revert q;revert p;revert w4;exact key.out
     case h2 =>
      intro w4 p q B4 GX GY;have B5:Hid (Below w.heap.size w w4):=hid (BL.out.trans (B4.out.mono BL.out.size))
      by_cases h_name:b.name=a.name
      ·rw [h_name] at GY
       have H_name:=hid h_name;clear h_name
       by_cases h_num:b.num=a.num
       ·rw [h_num] at GY
        have H_num:=hid h_num;clear h_num
        by_cases h_auto:b.auto=a.auto
        ·rw [h_auto] at GY
         have H_auto:=hid h_auto;clear h_auto
         by_cases h_word:b.word=a.word
         ·rw [h_word] at GY
          have H_word:=hid h_word;clear h_word;obtain ⟨rp,hrp⟩:∃ rp,sameEs false a.params b.params=rp:=⟨_,rfl⟩;have HCL:Hid (Calls Tryz.prog 74 #[.slice A9 a.params.length c9,.slice A8 b.params.length c8,.bool false] w4 fun e w'=>e=.returned (.bool rp)/\Below w4.heap.size w4 w'):=hid (by rw [<- hrp];exact IH.out _ HZ.out.1 a.params b.params A9 A8 c9 c8 w4 (Nat.le_refl _) HZ.out.2 (Kd.C_below HC9.out B4.out) (Kd.C_below HC8.out B4.out));have HRB:Hid ((rp&&sameEs false (X.drop (j + 1)) (Y.drop (j + 1)))=r):=hid (by rw [<- HRA.out,hrp,H_name.out,H_num.out,H_auto.out,H_word.out];simp);clear hrp;obtain ⟨y0,y1,y2,y3,y4,y5,y6,y7⟩:=ent_cells GX.out;obtain ⟨t0,t1,t2,t3,t4,t5,t6,t7⟩:=ent_cells GY.out;clear y1 t1 y2 t2 y3 t3;cases rp with
          | true =>
           have HNX2:Hid (sameEs false (X.drop (j + 1)) (Y.drop (j + 1))=r):=hid (by rw [<- HRB.out];rfl)
           go_wp2_with (first | (go_at_call 74;refine HCL.out.mono ?_;rintro e w6 ⟨rfl,hB6⟩;have B6:Hid (Below w.heap.size w w6):=hid (B5.out.trans (hB6.mono B5.out.size));have B46:Hid (Below wr.heap.size wr w6):=hid (B4.out.trans (hB6.mono B4.out.size));clear hB6 y0 t0 y4 t4 y5 t5 y6 t6 y7 t7))
           exact ⟨⟨j + 1,by go_num,by omega,HNX2,B6⟩,by simp [intOf];omega⟩
          | false =>
           have HF:Hid (r=false):=hid HRB.out.symm
           go_wp2_with (first | (go_at_call 74;refine HCL.out.mono ?_;rintro e w6 ⟨rfl,hB6⟩;have B6:Hid (Below w.heap.size w w6):=hid (B5.out.trans (hB6.mono B5.out.size));have B46:Hid (Below wr.heap.size wr w6):=hid (B4.out.trans (hB6.mono B4.out.size));clear hB6 y0 t0 y4 t4 y5 t5 y6 t6 y7 t7))
           go_ret
           exact ⟨by rw [HF.out];rfl,B6.out⟩
         ·have HF:Hid (r=false):=hid (by rw [<- HRA.out];have hne:¬ a.word=b.word:=fun h=>h_word h.symm;simp [hne])
          have d1:(a.word.toList == b.word.toList)=false:=by rw [beq_str];exact decide_eq_false (fun h=>h_word h.symm)
          have d2:(a.word.toList != b.word.toList)=true:=by rw [bne,d1];rfl
          obtain ⟨y0,y1,y2,y3,y4,y5,y6,y7⟩:=ent_cells GX.out;obtain ⟨t0,t1,t2,t3,t4,t5,t6,t7⟩:=ent_cells GY.out;clear y1 t1 y2 t2 y3 t3 y7 t7;clear h_word
          go_wp2_with fail
          go_ret
          exact ⟨by rw [HF.out];rfl,B5.out⟩
        ·have HF:Hid (r=false):=hid (by rw [<- HRA.out];have hne:¬ a.auto=b.auto:=fun h=>h_auto h.symm;simp [hne])
         have d1:(a.auto == b.auto)=false:=beq_eq_false_iff_ne.2 (fun h=>h_auto h.symm);have d2:(a.auto != b.auto)=true:=by rw [bne,d1];rfl
         obtain ⟨y0,y1,y2,y3,y4,y5,y6,y7⟩:=ent_cells GX.out;obtain ⟨t0,t1,t2,t3,t4,t5,t6,t7⟩:=ent_cells GY.out;clear y1 t1 y2 t2 y3 t3 y6 t6 y7 t7;clear h_auto
         go_wp2_with fail
         go_ret
         exact ⟨by rw [HF.out];rfl,B5.out⟩
       ·have HF:Hid (r=false):=hid (by rw [<- HRA.out];have hne:¬ a.num=b.num:=fun h=>h_num h.symm;simp [hne])
        have d1:(a.num == b.num)=false:=beq_eq_false_iff_ne.2 (fun h=>h_num h.symm);have d2:(a.num != b.num)=true:=by rw [bne,d1];rfl
        obtain ⟨y0,y1,y2,y3,y4,y5,y6,y7⟩:=ent_cells GX.out;obtain ⟨t0,t1,t2,t3,t4,t5,t6,t7⟩:=ent_cells GY.out;clear y1 t1 y2 t2 y3 t3 y5 t5 y6 t6 y7 t7;clear h_num
        go_wp2_with fail
        go_ret
        exact ⟨by rw [HF.out];rfl,B5.out⟩
      ·have HF:Hid (r=false):=hid (by rw [<- HRA.out];have hne:¬ a.name=b.name:=fun h=>h_name h.symm;simp [hne])
       have d1:(a.name.toList == b.name.toList)=false:=by rw [beq_str];exact decide_eq_false (fun h=>h_name h.symm)
       have d2:(a.name.toList != b.name.toList)=true:=by rw [bne,d1];rfl
       obtain ⟨y0,y1,y2,y3,y4,y5,y6,y7⟩:=ent_cells GX.out;obtain ⟨t0,t1,t2,t3,t4,t5,t6,t7⟩:=ent_cells GY.out;clear y1 t1 y2 t2 y3 t3 y4 t4 y5 t5 y6 t6 y7 t7;clear h_name
       go_wp2_with fail
       go_ret
       exact ⟨by rw [HF.out];rfl,B5.out⟩
    ·obtain rfl:j=N:=by omega
     have HT:Hid (r=true):=hid (by rw [<- HR.out,List.drop_eq_nil_of_le (by rw [HNX.out];exact Nat.le_refl _),List.drop_eq_nil_of_le (by rw [HNY.out];exact Nat.le_refl _)];rfl)
     go_wp2_with fail
     go_ret
     exact ⟨by rw [HT.out];rfl,BL.out⟩
  ·have HF:Hid (r=false):=hid (by rw [<- HRR.out,sameEs_ne hl2])
   obtain ⟨N,hN⟩:∃ N,X.length=N:=⟨_,rfl⟩;obtain ⟨M,hM⟩:∃ M,Y.length=M:=⟨_,rfl⟩;rw [hN,hM] at hl2;rw [hM] at hl ⊢;rw [hN] at hl3 ⊢;have d1:((N:Int) == (M:Int))=false:=by simp;omega
   have d2:((N:Int) != (M:Int))=true:=by rw [bne,d1];rfl
   have d3:(N == M)=false:=by simp;omega
   have d4:(N != M)=true:=by rw [bne,d3];rfl
   clear hN hM hl2 HRR HSZ HA HB IH
   go_enter Tryz.func74,Tryz.ntmps74
   go_wp2_with fail
   go_ret
   exact ⟨by rw [HF.out];rfl,Below.refl _ _⟩
theorem rsameS0_calls (x y:SS) (A B:Option Addr) (c d:Nat) (w:World) (hA:Kd.C kItem w A x.items.length x.items) (hB:Kd.C kItem w B y.items.length y.items) (hn:y.items.length<=1073741824) (hz:∀ i ∈ y.items,szEs i.ents<=1073741824) :
  Calls Tryz.prog 31 #[.agg #[.string x.cpu,.slice A x.items.length c],.agg #[.string y.cpu,.slice B y.items.length d],.bool false] w fun e w'=>e=.returned (.bool (sameS false x y))/\Below w.heap.size w w':=by
 obtain ⟨cp,X⟩:=x;obtain ⟨cp',Y⟩:=y;dsimp only at hA hB hn hz ⊢;have hl3:=Kd.C_max hA;have HA:=hid hA;have HB:=hid hB;have HSZ:Hid (∀ (j:Nat) (x:SI),Y[j]?=some x->szEs x.ents<=1073741824):=hid (fun j x hx=>hz x (List.mem_of_getElem? hx));have HSS:Hid (sameS false ⟨cp,X⟩ ⟨cp',Y⟩=(decide (cp=cp')&&sameIs false X Y)):=hid rfl;rw [HSS.out];clear HSS hA hB hz;obtain ⟨N,hN⟩:∃ N,X.length=N:=⟨_,rfl⟩;obtain ⟨M,hM⟩:∃ M,Y.length=M:=⟨_,rfl⟩;rw [hN] at HA hl3 ⊢;rw [hM] at HB hn ⊢;have HNX:=hid hN;have HMY:=hid hM;clear hN hM;obtain ⟨r,hr⟩:∃ r,(decide (cp=cp')&&sameIs false X Y)=r:=⟨_,rfl⟩;rw [hr];have HRR:=hid hr;clear hr
 go_enter Tryz.func31,Tryz.ntmps31
 go_upto_region 1 with fail
 obtain ⟨w0,hw0⟩:∃ w0:World,w0=((w.alloc (.cells #[.string cp,.slice A N c] 64)).alloc (.cells #[.string cp',.slice B M d] 64)):=⟨_,rfl⟩;rw [<- hw0];have HBX:Hid (Below w.heap.size w w0)/\Hid (w0.heap[w.heap.size]?=some (.cells #[.string cp,.slice A N c] 64 (0,0)))/\Hid (w0.heap[w.heap.size + 1]?=some (.cells #[.string cp',.slice B M d] 64 (0,0))):=two_boxS hw0;obtain ⟨B0,GP,GQ⟩:=HBX;clear hw0;have p0:w0.cell? ⟨w.heap.size,0,none⟩=some (.string cp):=(cell_row GP.out 0).trans rfl;have p1:w0.cell? ⟨w.heap.size,1,none⟩=some (.slice A N c):=(cell_row GP.out 1).trans rfl;have q0:w0.cell? ⟨w.heap.size + 1,0,none⟩=some (.string cp'):=(cell_row GQ.out 0).trans rfl;have q1:w0.cell? ⟨w.heap.size + 1,1,none⟩=some (.slice B M d):=(cell_row GQ.out 1).trans rfl
 by_cases hc:cp'=cp
 ·subst hc
  by_cases hl2:N=M
  ·subst hl2
   have HNY:=HMY;have HRI:Hid (sameIs false X Y=r):=hid (by rw [<- HRR.out];simp)
   go_wp2_with fail
   clear p0 p1 q0 q1 hl3
   go_loopw [7] (fun v wr=>∃ j:Nat,v=.int .i64 (j:Int)/\j<=N/\Hid (sameIs false (X.drop j) (Y.drop j)=r)/\Hid (Below w0.heap.size w0 wr)) (fun v _=>N - (intOf v).toNat)
   case atStart=>exact ⟨0,by go_num,by omega,hid (by rw [List.drop_zero,List.drop_zero];exact HRI.out),hid (Below.refl _ _)⟩
   case round =>
    obtain ⟨j,rfl,hj,HR,BR⟩:=hrel;have BL:Hid (Below w.heap.size w wr):=hid (B0.out.trans (BR.out.mono B0.out.size));have p1:wr.cell? ⟨w.heap.size,1,none⟩=some (.slice A N c):=(cell_row ((BR.out.block _ (gS.1 GP.out).1).trans GP.out) 1).trans rfl;have q1:wr.cell? ⟨w.heap.size + 1,1,none⟩=some (.slice B N d):=(cell_row ((BR.out.block _ (gS.1 GQ.out).1).trans GQ.out) 1).trans rfl
    by_cases hlt:j<N
    ·skip
     have hjX:j<X.length:=by rw [HNX.out];exact hlt
     have hjY:j<Y.length:=by rw [HNY.out];exact hlt
     have hx:X[j]?=some X[j]:=List.getElem?_eq_getElem hjX;have hy:Y[j]?=some Y[j]:=List.getElem?_eq_getElem hjY;obtain ⟨ad,A9,c9,eA,x0,x1,x2,x3,x4,x5,l9,C9⟩:=at_Item (Kd.C_below HA.out BL.out) (j:Int) (by omega) (by omega);obtain ⟨bd,A8,c8,eB,z0,z1,z2,z3,z4,z5,l8,C8⟩:=at_Item (Kd.C_below HB.out BL.out) (j:Int) (by omega) (by omega);rw [item_at' X j _ hx] at x0 x1 x2 x3 x4 x5 l9 C9;rw [item_at' Y j _ hy] at z0 z1 z2 z3 z4 z5 l8 C8;have hz:=HSZ.out j _ hy;generalize X[j]=a at hx x0 x1 x2 x3 x4 x5 l9 C9;generalize Y[j]=b at hy z0 z1 z2 z3 z4 z5 l8 C8 hz;have HRA:Hid (((decide (a.kind=b.kind)&&decide (a.name=b.name)&&sameEs false a.ents b.ents)&&sameIs false (X.drop (j + 1)) (Y.drop (j + 1)))=r):=hid (by rw [<- HR.out,sameIs_at hx hy,sameI_eq]);cases eA;cases eB;simp only [Int.toNat_natCast] at x0 x1 x2 x3 x4 x5 z0 z1 z2 z3 z4 z5;have HZ:=hid hz;have HC9:=hid C9;have HC8:=hid C8;clear hx hy hz hjX hjY C9 C8 l9 l8
     go_upto_region 6 with fail
     have HPK:=hid (And.intro x0 (And.intro x1 (And.intro x2 (And.intro x3 (And.intro x4 (And.intro x5 (And.intro z0 (And.intro z1 (And.intro z2 (And.intro z3 (And.intro z4 (And.intro z5 (And.intro p1 (q1))))))))))))));clear x0 x1 x2 x3 x4 x5 z0 z1 z2 z3 z4 z5 p1 q1
     apply once
     case h1 =>
      intro key;obtain ⟨x0,x1,x2,x3,x4,x5,z0,z1,z2,z3,z4,z5,p1,q1⟩:=HPK.out;have xa0:=fun (X:Obj)=>cell_al x0 X;have xb0:=fun (X Y:Obj)=>cell_al (cell_al x0 X) Y;have za0:=fun (X:Obj)=>cell_al z0 X;have zb0:=fun (X Y:Obj)=>cell_al (cell_al z0 X) Y;have xa1:=fun (X:Obj)=>cell_al x1 X;have xb1:=fun (X Y:Obj)=>cell_al (cell_al x1 X) Y;have za1:=fun (X:Obj)=>cell_al z1 X;have zb1:=fun (X Y:Obj)=>cell_al (cell_al z1 X) Y;have xa2:=fun (X:Obj)=>cell_al x2 X;have xb2:=fun (X Y:Obj)=>cell_al (cell_al x2 X) Y;have za2:=fun (X:Obj)=>cell_al z2 X;have zb2:=fun (X Y:Obj)=>cell_al (cell_al z2 X) Y;have xa3:=fun (X:Obj)=>cell_al x3 X;have xb3:=fun (X Y:Obj)=>cell_al (cell_al x3 X) Y;have za3:=fun (X:Obj)=>cell_al z3 X;have zb3:=fun (X Y:Obj)=>cell_al (cell_al z3 X) Y;have xa4:=fun (X:Obj)=>cell_al x4 X;have xb4:=fun (X Y:Obj)=>cell_al (cell_al x4 X) Y;have za4:=fun (X:Obj)=>cell_al z4 X;have zb4:=fun (X Y:Obj)=>cell_al (cell_al z4 X) Y;have xa5:=fun (X:Obj)=>cell_al x5 X;have xb5:=fun (X Y:Obj)=>cell_al (cell_al x5 X) Y;have za5:=fun (X:Obj)=>cell_al z5 X;have zb5:=fun (X Y:Obj)=>cell_al (cell_al z5 X) Y;have p1a:=fun (X:Obj)=>cell_al p1 X;have p1b:=fun (X Y:Obj)=>cell_al (cell_al p1 X) Y;have q1a:=fun (X:Obj)=>cell_al q1 X;have q1b:=fun (X Y:Obj)=>cell_al (cell_al q1 X) Y
      go_region
      all_goals
       clear x0 xa0 xb0 z0 za0 zb0 x1 xa1 xb1 z1 za1 zb1 x2 xa2 xb2 z2 za2 zb2 x3 xa3 xb3 z3 za3 zb3 x4 xa4 xb4 z4 za4 zb4 x5 xa5 xb5 z5 za5 zb5 p1 p1a p1b q1 q1a q1b
       first
        | (obtain ⟨w4,hw4⟩:∃ w4:World,w4=((wr.alloc (.cells #[.string a.kind,.string a.name,.int .i64 a.spot.f0,.int .i64 a.spot.f1,.int .i64 a.spot.f2,.slice A9 a.ents.length c9] 78)).alloc (.cells #[.string b.kind,.string b.name,.int .i64 b.spot.f0,.int .i64 b.spot.f1,.int .i64 b.spot.f2,.slice A8 b.ents.length c8] 78)).drew:=⟨_,rfl⟩;rw [<- hw4];obtain ⟨B4,GX,GY⟩:=two_newS hw4;clear hw4;obtain ⟨q,hq⟩:∃ q,q=wr.heap.size + 1:=⟨_,rfl⟩;rw [<- hq] at GY ⊢;obtain ⟨p,hp⟩:∃ p,p=wr.heap.size:=⟨_,rfl⟩;rw [<- hp] at GX ⊢;clear hp hq)
        | (obtain ⟨w4,hw4⟩:∃ w4:World,w4=((wr.alloc (.cells #[.string b.kind,.string b.name,.int .i64 b.spot.f0,.int .i64 b.spot.f1,.int .i64 b.spot.f2,.slice A8 b.ents.length c8] 78)).alloc (.cells #[.string a.kind,.string a.name,.int .i64 a.spot.f0,.int .i64 a.spot.f1,.int .i64 a.spot.f2,.slice A9 a.ents.length c9] 78)).drew:=⟨_,rfl⟩;rw [<- hw4];obtain ⟨B4,GY,GX⟩:=two_newS hw4;clear hw4;obtain ⟨p,hp⟩:∃ p,p=wr.heap.size + 1:=⟨_,rfl⟩;rw [<- hp] at GX ⊢;obtain ⟨q,hq⟩:∃ q,q=wr.heap.size:=⟨_,rfl⟩;rw [<- hq] at GY ⊢;clear hp hq)
       revert GY;revert GX;revert B4;revert q;revert p;revert w4;exact key.out
     case h2 =>
      intro w4 p q B4 GX GY;have B5:Hid (Below w.heap.size w w4):=hid (BL.out.trans (B4.out.mono BL.out.size))
      by_cases h_kind:b.kind=a.kind
      ·rw [h_kind] at GY
       have H_kind:=hid h_kind;clear h_kind
       by_cases h_name:b.name=a.name
       ·rw [h_name] at GY
        have H_name:=hid h_name;clear h_name;obtain ⟨rp,hrp⟩:∃ rp,sameEs false a.ents b.ents=rp:=⟨_,rfl⟩;have HCL:Hid (Calls Tryz.prog 74 #[.slice A9 a.ents.length c9,.slice A8 b.ents.length c8,.bool false] w4 fun e w'=>e=.returned (.bool rp)/\Below w4.heap.size w4 w'):=hid (by rw [<- hrp];exact rsameE0_calls _ a.ents b.ents A9 A8 c9 c8 w4 (Nat.le_refl _) HZ.out (Kd.C_below HC9.out B4.out) (Kd.C_below HC8.out B4.out));have HRB:Hid ((rp&&sameIs false (X.drop (j + 1)) (Y.drop (j + 1)))=r):=hid (by rw [<- HRA.out,hrp,H_kind.out,H_name.out];simp);clear hrp;obtain ⟨y0,y1,y2,y3,y4,y5⟩:=item_cells GX.out;obtain ⟨t0,t1,t2,t3,t4,t5⟩:=item_cells GY.out;clear y2 t2 y3 t3 y4 t4;cases rp with
        | true =>
         have HNX2:Hid (sameIs false (X.drop (j + 1)) (Y.drop (j + 1))=r):=hid (by rw [<- HRB.out];rfl)
         go_wp2_with (first | (go_at_call 74;refine HCL.out.mono ?_;rintro e w6 ⟨rfl,hB6⟩;have B6:Hid (Below w.heap.size w w6):=hid (B5.out.trans (hB6.mono B5.out.size));have B46:Hid (Below wr.heap.size wr w6):=hid (B4.out.trans (hB6.mono B4.out.size));clear hB6 y0 t0 y1 t1 y5 t5))
         exact ⟨⟨j + 1,by go_num,by omega,HNX2,hid (BR.out.trans (B46.out.mono BR.out.size))⟩,by simp [intOf];omega⟩
        | false =>
         have HF:Hid (r=false):=hid HRB.out.symm
         go_wp2_with (first | (go_at_call 74;refine HCL.out.mono ?_;rintro e w6 ⟨rfl,hB6⟩;have B6:Hid (Below w.heap.size w w6):=hid (B5.out.trans (hB6.mono B5.out.size));have B46:Hid (Below wr.heap.size wr w6):=hid (B4.out.trans (hB6.mono B4.out.size));clear hB6 y0 t0 y1 t1 y5 t5))
         go_ret
         exact ⟨by rw [HF.out];rfl,B6.out⟩
       ·have HF:Hid (r=false):=hid (by rw [<- HRA.out];have hne:¬ a.name=b.name:=fun h=>h_name h.symm;simp [hne])
        have d1:(a.name.toList == b.name.toList)=false:=by rw [beq_str];exact decide_eq_false (fun h=>h_name h.symm)
        have d2:(a.name.toList != b.name.toList)=true:=by rw [bne,d1];rfl
        obtain ⟨y0,y1,y2,y3,y4,y5⟩:=item_cells GX.out;obtain ⟨t0,t1,t2,t3,t4,t5⟩:=item_cells GY.out;clear y2 t2 y3 t3 y4 t4 y5 t5;clear h_name
        go_wp2_with fail
        go_ret
        exact ⟨by rw [HF.out];rfl,B5.out⟩
      ·have HF:Hid (r=false):=hid (by rw [<- HRA.out];have hne:¬ a.kind=b.kind:=fun h=>h_kind h.symm;simp [hne])
       have d1:(a.kind.toList == b.kind.toList)=false:=by rw [beq_str];exact decide_eq_false (fun h=>h_kind h.symm)
       have d2:(a.kind.toList != b.kind.toList)=true:=by rw [bne,d1];rfl
       obtain ⟨y0,y1,y2,y3,y4,y5⟩:=item_cells GX.out;obtain ⟨t0,t1,t2,t3,t4,t5⟩:=item_cells GY.out;clear y1 t1 y2 t2 y3 t3 y4 t4 y5 t5;clear h_kind
       go_wp2_with fail
       go_ret
       exact ⟨by rw [HF.out];rfl,B5.out⟩
    ·obtain rfl:j=N:=by omega
     have HT:Hid (r=true):=hid (by rw [<- HR.out,List.drop_eq_nil_of_le (by rw [HNX.out];exact Nat.le_refl _),List.drop_eq_nil_of_le (by rw [HNY.out];exact Nat.le_refl _)];rfl);clear q1
     go_wp2_with fail
     go_ret
     exact ⟨by rw [HT.out];rfl,BL.out⟩
  ·have HF:Hid (r=false):=hid (by rw [<- HRR.out,sameIs_ne (by rw [HNX.out,HMY.out];exact hl2),Bool.and_false])
   have d1:((N:Int) == (M:Int))=false:=by simp;omega
   have d2:((N:Int) != (M:Int))=true:=by rw [bne,d1];rfl
   have d3:(N == M)=false:=by simp;omega
   have d4:(N != M)=true:=by rw [bne,d3];rfl
   clear hl2
   go_wp2_with fail
   go_ret
   exact ⟨by rw [HF.out];rfl,B0.out⟩
 ·have HF:Hid (r=false):=hid (by rw [<- HRR.out,decide_eq_false (fun h=>hc h.symm),Bool.false_and])
  have d1:(cp.toList == cp'.toList)=false:=by rw [beq_str];exact decide_eq_false (fun h=>hc h.symm)
  have d2:(cp.toList != cp'.toList)=true:=by rw [bne,d1];rfl
  clear hc
  go_wp2_with fail
  go_ret
  exact ⟨by rw [HF.out];rfl,B0.out⟩
end Go.Proofs.YtmfejjlmflgnbaaGreatDoor.Sc

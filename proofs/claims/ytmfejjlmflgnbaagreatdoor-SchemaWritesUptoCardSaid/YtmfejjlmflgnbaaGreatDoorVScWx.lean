/- CONTRACT: the document's Write: what package schema writes. -/
import Derived.Test.YtmfejjlmflgnbaaGreatDoorVScWv
import Derived.Test.YtmfejjlmflgnbaaGreatDoorVScWt
import Derived.Test.YtmfejjlmflgnbaaGreatDoorVScWu
import Derived.Test.YtmfejjlmflgnbaaGreatDoorVScSu
import Derived.Test.YtmfejjlmflgnbaaGreatDoorVScLr
import Derived.Deep.CutRange
set_option linter.unusedVariables false
set_option linter.unusedSimpArgs false
set_option maxRecDepth 100000
namespace Go.Proofs.YtmfejjlmflgnbaaGreatDoor.Sc
open RowKit PA YtmfejjlmflgnbaaGreatDoorW.PrintWords YtmfejjlmflgnbaaGreatDoorW.PrintLast YtmfejjlmflgnbaaGreatDoorW.PrintMore Sp Tr Tok
open Go.Lib (hid)
mutual
def wdE:SE->Nat
 | ⟨_,_,_,_,wd,ps⟩=>wd.size + wdL ps
def wdL:List SE->Nat
 | []=>0
 | e :: r=>wdE e + wdL r
end
theorem layV_tx (x:SR) (m:Int) (au:Bool) (wd:ByteArray):(layV x m au wd).f1.size<=wd.size + 4:=by
 unfold layV
 split
 ·split
  ·show sAuto.size<=_
   have:sAuto.size=4:=rfl;omega
  ·exact Nat.zero_le _
 ·split <;> exact Nat.le_add_right _ _
mutual
theorem ladE_sz (rs:List SR) (obj:ByteArray):∀ (l:List SR) (e:SE) (a:SA),ladE rs obj l e=some a->szA a<=5*szE e/\txA a<=wdE e + 4*szE e
 | l,⟨n,sp,m,au,wd,ps⟩,a,h=>by
  simp only [ladE] at h;cases hf:findR l n with
  | none=>rw [hf] at h;cases h
  | some x =>
   rw [hf] at h;injection h with h
   subst h;have hv:=layV_tx x m au wd;simp only [szA,szE,txA,wdE]
   split
   ·simp only [szL,txL];omega
   ·have:=ladL_sz rs obj (innerR rs obj x n wd) ps
    omega
theorem ladL_sz (rs:List SR) (obj:ByteArray):∀ (l:List SR) (es:List SE),szL (ladL rs obj l es)<=5*szEs es/\txL (ladL rs obj l es)<=wdL es + 4*szEs es
 | l,[]=>by simp [ladL,szL,txL]
 | l,e :: r=>by
  have h2:=ladL_sz rs obj l r;simp only [ladL];cases ha:ladE rs obj l e with
  | none =>
   have h3:szL [noA]=5:=by simp only [szL,szA];rfl
   have h4:txL [noA]=0:=by simp only [txL,txA];rfl
   have h5:1<=szE e:=by cases e;simp only [szE];omega
   dsimp only;rw [h3,h4];simp only [szEs,wdL];omega
  | some a =>
   have h1:=ladE_sz rs obj l e a ha;simp only [szL,txL,szEs,wdL];omega
end
def okI (i:SI):Bool:=nameB (bs i.name)&&spL (ladI i).f3
def okJ (s:SS) (j:Nat):Bool:=nameB (bs s.cpu)&&(s.items.take j).all okI
theorem okJ_next {s:SS} {j:Nat} {x:SI} (h:s.items[j]?=some x):okJ s (j + 1)=(okJ s j&&okI x):=by
 unfold okJ;rw [List.take_add_one,h];simp [Bool.and_assoc]
theorem lad_next {s:SS} {j:Nat} {x:SI} (h:s.items[j]?=some x):(s.items.take (j + 1)).map ladI=(s.items.take j).map ladI++[ladI x]:=by
 rw [List.take_add_one,h];simp
theorem rw_bad {s:SS} (h:okT s=false):rwriteS s=none:=by
 unfold rwriteS;cases readT (ladT s) with
 | error f=>rfl
 | ok b=>simp [h]
set_option maxHeartbeats 64000000 in
theorem rwrite_calls (s:SS) (A:Option Addr) (c:Nat) (w:World) (hs:∀ i ∈ s.items,szEs i.ents<=134217728/\wdL i.ents<=134217728) (hn:s.items.length<=1073741824) (hC:Kd.C kItem w A s.items.length s.items) :
  Calls Tryz.prog 33 #[.agg (shC s.cpu (.slice A s.items.length c))] w (WritePost s w):=by
 have HWP:Hid (∀ e w',(Below w.heap.size w w'/\match rwriteS s with
  | some t=>∃ v,e=.returned (.tuple #[.agg (trV s.cpu v),.int .i64 0])/\Kd.R k44 44 w' w.heap.size (fun _=>True) v t.f2
  | none=>e=.returned (.tuple #[.agg tr0,.int .i64 2]))->WritePost s w e w'):=hid (fun e w' h=>by
  rw [rwrite_eq] at h
  exact h)
 have HS:=hid hs;have HC:=hid hC;clear hs hC;obtain ⟨n,hnn⟩:∃ n,s.items.length=n:=⟨_,rfl⟩;unfold shC;rw [hnn] at hn HC ⊢;have HN:=hid hnn;clear hnn;have tk1:True:=trivial;have tk2:True:=trivial;have tk3:True:=trivial
 go_enter Tryz.func33,Tryz.ntmps33
 go_upto_region 1 with (first
  | (have _t:=tk1;refine run_event rfl (.box 64 _) rfl (.pointer (some ⟨w.heap.size,0,none⟩)) (w.alloc (.cells #[.string s.cpu,.slice A n c] 64)) (by kernel_rfl) ?_;intro w1 hw1;have B1:Hid (Below w.heap.size w w1):=hid (by rw [hw1];exact alloc_below _ _);have E1:Hid (w1.heap[w.heap.size]?=some (.cells #[.string s.cpu,.slice A n c] 64 (0,0))):=hid (by rw [hw1];exact heap_alloc_new _ _);clear hw1 tk1 _t)
  | (have _t:=tk2;refine run_event rfl (.alloc 24) rfl (.pointer (some ⟨w1.heap.size,0,none⟩)) (w1.alloc (.cells tr0 24)) (by kernel_rfl) ?_;intro w2 hw2;have Bw2:Hid (Below w1.heap.size w1 w2):=hid (by rw [hw2];exact alloc_below _ _);have Ew2:Hid (w2.heap[w1.heap.size]?=some (.cells tr0 24 (0,0))):=hid (by rw [hw2];exact heap_alloc_new _ _);clear hw2 tk2 _t))
 go_upto_region 2 with (first
  | (go_at_call 26;refine (rrows_calls _).mono ?_;rintro e w3 ⟨⟨v4,rfl,hR4⟩,hB4⟩;obtain ⟨Ar,cr,rfl⟩:=RForm hR4;have B3:=hid hB4;have C3:Hid (Kd.C kRow w3 Ar tab.length tab):=hid (Kd.R_reads' hR4).2.2;clear hR4 hB4))
 have B23:Hid (Below w1.heap.size w1 w3):=hid (Bw2.out.trans (B3.out.mono Bw2.out.size));have BW3:Hid (Below w.heap.size w w3):=hid (B1.out.trans (B23.out.mono B1.out.size));have S3:=hid (blk_b E1.out B23.out);have Z3:=hid (blk_b Ew2.out B3.out);have I3:Hid (Kd.C kItem w3 A n s.items):=hid (Kd.C_below HC.out BW3.out);have HZ:Hid (w.heap.size<w1.heap.size/\w1.heap.size<w3.heap.size):=hid ⟨(gS.1 E1.out).1,(gS.1 Z3.out).1⟩;clear B1 Bw2 E1 Ew2 B3 HC B23;obtain ⟨s0,s1⟩:=she_cells S3.out;clear s1
 go_upto_region 3 with (first
  | (have _t:=tk3;refine run_event rfl (.alloc 24) rfl (.pointer (some ⟨w3.heap.size,0,none⟩)) (w3.alloc (.cells tr0 24)) (by kernel_rfl) ?_;intro w4 hw4;have Bw4:Hid (Below w3.heap.size w3 w4):=hid (by rw [hw4];exact alloc_below _ _);have Ew4:Hid (w4.heap[w3.heap.size]?=some (.cells tr0 24 (0,0))):=hid (by rw [hw4];exact heap_alloc_new _ _);replace s0:=(Bw4.out.cell (lC w3 _ s0)).trans s0;clear hw4 tk3 _t)
  | ((with_reducible refine gate_store (t:=24) (p:=5) rfl ?_);refine put_event rfl 24 _ _ rfl w3.heap.size #[.string ver,.string s.cpu,.slice none 0 0,.bool false,.string ⟨#[]⟩] rfl rfl 24 tr0 Ew4.out (by kernel_rfl) rfl (by simp [Value.oneCell']) w3.heap.size (Nat.le_refl _) ?_;intro w5 hbw5 hBw5 hsw5 how5;have Gw5:Hid (w5.heap[w3.heap.size]?=some (.cells #[.string ver,.string s.cpu,.slice none 0 0,.bool false,.string ⟨#[]⟩] 24 (0,0))):=hid hbw5;have Dw5:Hid (Below w3.heap.size w3 w5):=hid (Bw4.out.trans hBw5);clear hbw5 hBw5 hsw5 how5;clear s0 Bw4 Ew4))
 obtain ⟨s0,s1⟩:=she_cells (blk_b S3.out Dw5.out);clear s1
 go_upto_region 4 with (first
  | (go_at_call 39;refine (sname_calls s.cpu w5).mono ?_;rintro e w6 ⟨rfl,hB⟩;have D6:Hid (Below w3.heap.size w3 w6):=hid (Dw5.out.trans (hB.mono Dw5.out.size));have T6:=hid (blk_b Gw5.out hB);clear hB s0))
 clear Dw5 Gw5;obtain ⟨ok0,hok0⟩:∃ ok0,nameB (bs s.cpu)=ok0:=⟨_,rfl⟩;rw [hok0];have HOK0:=hid hok0;clear hok0
 go_wp2_with fail
 go_loopw [6,7] (fun vo v wq=>∃ (j:Nat) (acc:List SO) (ok:Bool) (va:Value),v=.int .i64 (j:Int)/\j<=n/\vo=.bool ok/\Hid (acc=(s.items.take j).map ladI)/\Hid (ok=okJ s j)/\Hid (Below w3.heap.size w3 wq)/\Hid (wq.heap[w3.heap.size]?=some (.cells #[.string ver,.string s.cpu,va,.bool false,.string ⟨#[]⟩] 24 (0,0)))/\Hid (Kd.R k44 44 wq w3.heap.size (fun k=>w3.heap.size<k) va acc)/\Hid (acc.length<=j)) (fun _ v _=>n - (intOf v).toNat)
 case atStart=>exact ⟨0,[],ok0,.slice none 0 0,by go_num,by omega,rfl,hid rfl,hid (by unfold okJ;rw [HOK0.out];simp),D6,T6,hid (Kd.R_nil _ _ _ _ _),hid (Nat.le_refl _)⟩
 case round =>
  obtain ⟨j,acc,ok,va,rfl,hj,rfl,HAC,HOK,BL,TB,RA,HAL⟩:=hrel;obtain ⟨Ao,co,hva⟩:=RForm RA.out;subst hva;have hl9:=hn;have BWr:Hid (Below w.heap.size w wr):=hid (BW3.out.trans (BL.out.mono BW3.out.size));obtain ⟨s0,s1⟩:=she_cells (blk_b S3.out BL.out);clear s0
  by_cases hlt:j<n
  ·have hit:j<s.items.length:=by rw [HN.out];exact hlt
   have hx:s.items[j]?=some s.items[j]:=List.getElem?_eq_getElem hit;obtain ⟨ad,A5,c5,eA,x0,x1,x2,x3,x4,x5,l5,C5⟩:=at_Item (Kd.C_below I3.out BL.out) (j:Int) (by omega) (by omega);rw [item_at' s.items j _ hx] at x0 x1 x2 x3 x4 x5 l5 C5;have hsz:=HS.out _ (List.getElem_mem hit);generalize s.items[j]=x at hx x0 x1 x2 x3 x4 x5 l5 C5 hsz;subst eA;simp only [Int.toNat_natCast] at x0 x1 x2 x3 x4 x5;have HX:=hid hx;have HSZ:=hid hsz;obtain ⟨n5,hn5⟩:∃ n5,x.ents.length=n5:=⟨_,rfl⟩;rw [hn5] at x5 C5;have HC5:=hid C5;have HN5:=hid hn5;clear hx hsz C5 l5 hit hn5;have tk5:True:=trivial
   go_upto_region 8 with (first
    | (have _t:=tk5;refine run_event rfl (.alloc 78) rfl (.pointer (some ⟨wr.heap.size,0,none⟩)) (wr.alloc (.cells #[.string ⟨#[]⟩,.string ⟨#[]⟩,.int .i64 0,.int .i64 0,.int .i64 0,.slice none 0 0] 78)) (by kernel_rfl) ?_;intro y6 hy6;have By6:Hid (Below wr.heap.size wr y6):=hid (by rw [hy6];exact alloc_below _ _);have Ey6:Hid (y6.heap[wr.heap.size]?=some (.cells #[.string ⟨#[]⟩,.string ⟨#[]⟩,.int .i64 0,.int .i64 0,.int .i64 0,.slice none 0 0] 78 (0,0))):=hid (by rw [hy6];exact heap_alloc_new _ _);clear hy6 tk5 _t)
    | ((with_reducible refine gate_store (t:=78) (p:=8) rfl ?_);refine put_event rfl 78 _ _ rfl wr.heap.size #[.string x.kind,.string x.name,.int .i64 x.spot.f0,.int .i64 x.spot.f1,.int .i64 x.spot.f2,.slice A5 n5 c5] rfl rfl 78 #[.string ⟨#[]⟩,.string ⟨#[]⟩,.int .i64 0,.int .i64 0,.int .i64 0,.slice none 0 0] Ey6.out (by kernel_rfl) rfl (by simp [Value.oneCell']) wr.heap.size (Nat.le_refl _) ?_;intro y7 hby7 hBy7 hsy7 hoy7;have Gy7:Hid (y7.heap[wr.heap.size]?=some (.cells #[.string x.kind,.string x.name,.int .i64 x.spot.f0,.int .i64 x.spot.f1,.int .i64 x.spot.f2,.slice A5 n5 c5] 78 (0,0))):=hid hby7;have Dy7:Hid (Below wr.heap.size wr y7):=hid (By6.out.trans hBy7);clear hby7 hBy7 hsy7 hoy7;clear x0 x1 x2 x3 x4 x5 s1 By6 Ey6))
   have BL7:Hid (Below w3.heap.size w3 y7):=hid (BL.out.trans (Dy7.out.mono BL.out.size));obtain ⟨I,hI⟩:∃ I,underR tab x.kind ⟨#[]⟩ ⟨#[]⟩=I:=⟨_,rfl⟩;have HUN:Hid (∀ V,Below y7.heap.size y7 V->Calls Tryz.prog 73 #[.slice Ar tab.length cr,.string x.kind,.string ⟨#[]⟩,.string ⟨#[]⟩] V fun ev w'=>(∃ v,ev=.returned v/\Kd.R (Kd.fixed kRow V) 60 w' V.heap.size (fun _=>True) v I)/\Below V.heap.size V w'):=hid (fun V hV=>by rw [<- hI];exact runder_calls tab Ar cr x.kind ⟨#[]⟩ ⟨#[]⟩ V (Kd.C_below C3.out (BL7.out.trans (hV.mono BL7.out.size))) (by rw [tab_len];decide));have hIl:I.length<=1000:=by rw [<- hI];exact Nat.le_trans (under_len _ _ _ _) (by rw [tab_len];decide)
   obtain ⟨ps,hps⟩:∃ ps,ladL tab x.kind I x.ents=ps:=⟨_,rfl⟩
   have HLI:Hid (∀ V Ai ci,Below y7.heap.size y7 V->Kd.C kRow V Ai I.length I->Calls Tryz.prog 80 #[.slice Ar tab.length cr,.string x.kind,.slice Ai I.length ci,.slice A5 n5 c5] V fun ev w'=>Below V.heap.size V w'/\∃ v,ev=.returned v/\Kd.R k50 50 w' V.heap.size (fun _=>True) v ps):=hid (fun V Ai ci hV hCI=>by
    have h:=rlaid tab (szEs x.ents) x.ents x.kind I Ar cr Ai ci A5 c5 V (Nat.le_refl _) (by have:=HSZ.out;omega) (Kd.C_below C3.out (BL7.out.trans (hV.mono BL7.out.size))) (by rw [tab_len];decide) hCI hIl (by rw [HN5.out];exact Kd.C_below HC5.out (Dy7.out.trans (hV.mono Dy7.out.size)));rw [HN5.out,hps] at h
    exact h)
   have HLX:Hid (ladI x=⟨x.kind,x.name,z41,ps,false,⟨#[]⟩⟩):=hid (by unfold ladI;rw [hI,hps]);have HSP:Hid (szL ps<=1073741824/\txL ps<=1000000000):=hid (by have h:=ladL_sz tab x.kind I x.ents;rw [hps] at h;have:=HSZ.out;omega);clear hI hIl hps
   try simp only [Act.put,List.setIfInBounds_toArray,List.set_cons_zero,List.set_cons_succ]
   refine regionVW (⟨[],y7,wr.heap.size,x,A5,c5,n5,Ar,cr,I,ps⟩:GVw) (by kernel_rfl) rfl ⟨Gy7.out,HUN.out,HLI.out⟩ rfl rfl (by rfl) (by rfl) (by rfl) ?_
   intro z k9 Ap cp hzB hk9 hzF hzR v31 v32 v33 v34 v35 v36 v37 v38 v39 v40 v41 v42 v43 v44 v45;have BZ:=hid hzB;have HK9:=hid hk9;have FZ:=hid hzF;have RZ:=hid hzR;dsimp only at BZ HK9 FZ RZ;clear hzB hk9 hzF hzR HUN HLI;obtain ⟨np,hnp⟩:∃ np,ps.length=np:=⟨_,rfl⟩;rw [hnp] at FZ RZ;have HNP:=hid hnp;clear hnp;have BLZ:Hid (Below w3.heap.size w3 z):=hid (BL7.out.trans (BZ.out.mono BL7.out.size));have GIz:=hid (blk_b Gy7.out BZ.out);have TBz:=hid (blk_b TB.out (Dy7.out.trans (BZ.out.mono Dy7.out.size)));have RAz:Hid (Kd.R k44 44 z w3.heap.size (fun k=>w3.heap.size<k) (.slice Ao acc.length co) acc):=hid (Kd.R_below RA.out (Dy7.out.trans (BZ.out.mono Dy7.out.size)));have HW5:Hid (w3.heap.size<wr.heap.size/\wr.heap.size<y7.heap.size/\y7.heap.size<=z.heap.size):=hid ⟨(gS.1 TB.out).1,(gS.1 Gy7.out).1,BZ.out.size⟩;have HNC:Hid (Calls Tryz.prog 39 #[.string x.name] z fun e w'=>e=.returned (.bool (nameB (bs x.name)))/\Below z.heap.size z w'):=hid (sname_calls x.name z)
   have HSC:Hid (∀ W,Below z.heap.size z W->Calls Tryz.prog 81 #[.slice Ap np cp] W fun e w'=>e=.returned (.bool (spL ps))/\Below W.heap.size W w'):=hid (fun W hW=>by
    have h:=rspelled (szL ps) ps Ap cp W (Nat.le_refl _) HSP.out.1 HSP.out.2 (by have h2:=(Kd.R_reads' (Kd.R_below RZ.out hW)).2.2;exact h2);rw [HNP.out] at h
    exact h)
   have HOKN:Hid (okJ s (j + 1)=(ok&&(nameB (bs x.name)&&spL ps))):=hid (by rw [okJ_next HX.out,<- HOK.out];unfold okI;rw [HLX.out]);obtain ⟨nb,hnb⟩:∃ nb,nameB (bs x.name)=nb:=⟨_,rfl⟩;obtain ⟨sb,hsb⟩:∃ sb,spL ps=sb:=⟨_,rfl⟩;rw [hnb] at HNC HOKN;rw [hsb] at HSC HOKN;clear hnb hsb;rename_i hK
   refine hK _ _ ?_
   clear hK;simp only [Array.getD_eq_getD_getElem?,List.getElem?_toArray,List.getElem?_cons_zero,List.getElem?_cons_succ,Option.getD_some];obtain ⟨i0,i1,i2,i3,i4,i5⟩:=item_cells GIz.out;have o5:z.cell? ⟨k9,5,none⟩=some (.slice Ap np cp):=(cell_row FZ.out 5).trans rfl;clear i0 i2 i3 i4 i5
   go_upto_region 9 with fail
   go_cut [6] from 46 to 56 (fun v6 wx=>v6=.bool (ok&&(nb&&sb))/\Hid (Below z.heap.size z wx))
   case first =>
    cases ok with
    | false =>
     go_wp2_with fail
     go_meet
     exact ⟨rfl,hid (Below.refl _ _)⟩
    | true =>
     cases nb with
     | false =>
      go_wp2_with (first
       | (go_at_call 39;refine HNC.out.mono ?_;rintro ev q1 ⟨rfl,hB⟩;have BQ:=hid hB;clear hB i1 o5))
      go_meet
      exact ⟨rfl,BQ⟩
     | true =>
      go_wp2_with (first
       | (go_at_call 39;refine HNC.out.mono ?_;rintro ev q1 ⟨rfl,hB⟩;have BQ:=hid hB;have o5:=(hB.cell (lC z _ o5)).trans o5;clear hB i1)
       | (go_at_call 81;refine (HSC.out q1 BQ.out).mono ?_;rintro ev q2 ⟨rfl,hB⟩;have BQ2:Hid (Below z.heap.size z q2):=hid (BQ.out.trans (hB.mono BQ.out.size));clear hB o5))
      go_meet
      exact ⟨by cases sb <;> rfl,BQ2⟩
   case rest =>
   obtain ⟨rfl,BQ⟩:=hcut
   rename World=>z2
   clear i1 o5;have FZ2:=hid (blk_b FZ.out BQ.out);have TB2:=hid (blk_b TBz.out BQ.out);have RA2:=hid (Kd.R_below RAz.out BQ.out);have RZ2:=hid (Kd.R_below RZ.out BQ.out);have BL2:Hid (Below w3.heap.size w3 z2):=hid (BLZ.out.trans (BQ.out.mono BLZ.out.size))
   have HPM:Hid (k44.M z2 w3.heap.size (fun k=>y7.heap.size<=k) (ladI x) [.string x.kind,.string x.name,.int .i64 0,.int .i64 0,.int .i64 0,.slice Ap np cp,.bool false,.string ⟨#[]⟩]):=hid (by
    rw [HLX.out]
    exact k44_mkM z2 w3.heap.size _ (⟨x.kind,x.name,z41,ps,false,⟨#[]⟩⟩:SO) (Kd.R_lower (Kd.R_mono (Kd.R_bound RZ2.out) (fun k hk=>hk.2.1)) BL7.out.size))
   have HLT:Hid (∀ k,(Value.slice Ao acc.length co).ownBlock=some k->k<wr.heap.size):=hid (fun k hk=>ownLt RA.out hk);have HOW:Hid (∀ k,y7.heap.size<=k->w3.heap.size<k/\some k≠(Value.slice Ao acc.length co).ownBlock):=hid (fun k hk=>⟨by have:=HW5.out;omega,fun e=>by have:=HLT.out k e.symm;have:=HW5.out;omega⟩);have HNE:Hid (∀ k,k<=w3.heap.size->some k≠(Value.slice Ao acc.length co).ownBlock):=hid (fun k hk e=>by have:=RA.out.1 k e.symm;omega);have HLA:Hid (acc.length<=1073741824):=hid (by have:=HAL.out;omega);have HZ2:Hid (y7.heap.size<=z2.heap.size):=hid (by have:=HW5.out;have:=BQ.out.size;omega);obtain ⟨t0,t1,t2,t3,t4⟩:=tre_cells TB2.out;obtain ⟨o0,o1,o2,o3,o4,o5,o6,o7⟩:=ent_cells FZ2.out;clear t0 t1 t3 t4
   go_wp2_with (first
    | (at_builtin;refine Kd.R_append k44 (w0:=z2) w3.heap.size rfl (.tmp 58) (.tmp 60) 22 44 (.agg obzV) 104 rfl Tryz.underlying22 infoObj rfl (show 0<8 by decide) (by omega) (.slice Ao acc.length co) acc (ladI x) [.string x.kind,.string x.name,.int .i64 0,.int .i64 0,.int .i64 0,.slice Ap np cp,.bool false,.string ⟨#[]⟩] (fun k=>w3.heap.size<k) (fun k=>y7.heap.size<=k) rfl rfl HPM.out HOW.out (fun k hk=>by have:=HW5.out;have:=HZ2.out;omega) RA2.out (Below.refl _ _) (by have:=HW5.out;have:=HZ2.out;omega) (by have:=HLA.out;omega) ?_;intro v1 z3 ho hb hg hat;obtain ⟨acc2,hacc2⟩:∃ q,q=acc++[ladI x]:=⟨_,rfl⟩;rw [<- hacc2] at ho;obtain ⟨Av,cv,rfl⟩:=RForm ho;have RO:=hid ho;have RG:=hid hg;have HA2:=hid hacc2;have TB3:=hid ((RG.out.block w3.heap.size (by have:=HW5.out;have:=HZ2.out;omega) (HNE.out _ (Nat.le_refl _))).trans TB2.out);clear ho hb hg hat hacc2 t2 o0 o1 o2 o3 o4 o5 o6 o7)
    | ((with_reducible refine gate_store (t:=22) (p:=62) rfl ?_);refine cell_event rfl 22 _ _ rfl w3.heap.size 2 (.slice Av acc2.length cv) rfl rfl rfl (thereR TB3.out (by simp)) (by kernel_rfl) w3.heap.size (Nat.le_refl _) ?_;intro z4 hw2 hB2 hs2;obtain ⟨hr2,hk2,hz2⟩:=row1 TB3.out hw2;have TB4:Hid (z4.heap[w3.heap.size]?=some (.cells #[.string ver,.string s.cpu,.slice Av acc2.length cv,.bool false,.string ⟨#[]⟩] 24 (0,0))):=hid hr2;have K2:=hid hk2;have B2:=hid hB2;clear hw2 hB2 hs2 hr2 hk2 hz2))
   have BLF:Hid (Below w3.heap.size w3 z4):=hid ((below_own (wr:=w3) BL2.out RG.out (fun k hk=>by have:=RA.out.1 k hk;omega)).trans B2.out)
   go_roundw
   case measure=>simp [intOf];omega
   case rel =>
    exact ⟨j + 1,acc2,_,_,by go_num,by omega,rfl,hid (by rw [HA2.out,lad_next HX.out,<- HAC.out]),hid HOKN.out.symm,BLF,TB4,hid (Kd.R_move RO.out (fun k hk=>K2.out k (by omega))),hid (by rw [HA2.out,List.length_append];have:=HAL.out;simp;omega)⟩
  ·obtain rfl:j=n:=by omega
   have HAC2:Hid (acc=(ladT s).f2):=hid (by rw [HAC.out,List.take_of_length_le (by rw [HN.out];exact Nat.le_refl _)];rfl);have HOK2:Hid (ok=okT s):=hid (by rw [HOK.out];unfold okJ;rw [List.take_of_length_le (by rw [HN.out];exact Nat.le_refl _)];rfl);have HLA:Hid (acc.length<=1073741824):=hid (by have:=HAL.out;omega)
   have HRD:Hid (Calls Tryz.prog 30 #[.agg #[.string ver,.string s.cpu,.slice Ao acc.length co,.bool false,.string ⟨#[]⟩]] wr fun e w'=>Below wr.heap.size wr w'/\∃ (Ai:Option Addr) (ci:Nat),e=.returned (.tuple #[.agg #[.string (shOf (readT (ladT s))).cpu,.slice Ai (shOf (readT (ladT s))).items.length ci],.agg #[.int .i64 (ftOf (readT (ladT s))).code,.int .i64 (ftOf (readT (ladT s))).spot.f0,.int .i64 (ftOf (readT (ladT s))).spot.f1,.int .i64 (ftOf (readT (ladT s))).spot.f2,.string (ftOf (readT (ladT s))).name]])/\Kd.R kItem 78 w' wr.heap.size (fun _=>True) (.slice Ai (shOf (readT (ladT s))).items.length ci) (shOf (readT (ladT s))).items):=hid (by
    have hCO:Kd.C k44 wr Ao (ladT s).f2.length (ladT s).f2:=by rw [<- HAC2.out];exact (Kd.R_reads' RA.out).2.2
    have h:=read_any (rread_calls (ladT s) Ao co wr (fun o ho=>by
     obtain ⟨i,hi,rfl⟩:=List.mem_map.1 (show o ∈ s.items.map ladI from ho);have h1:=(ladL_sz tab i.kind (underR tab i.kind ⟨#[]⟩ ⟨#[]⟩) i.ents).1;have h2:=HS.out i hi;show szL (ladL tab i.kind (underR tab i.kind ⟨#[]⟩ ⟨#[]⟩) i.ents)<=_
     omega) (by rw [<- HAC2.out];exact HLA.out) hCO)
    unfold treC at h;rw [<- HAC2.out] at h
    exact h)
   have HSM:Hid (∀ (b:SS) W Ax cx,Below wr.heap.size wr W->Kd.C kItem W Ax b.items.length b.items->Calls Tryz.prog 31 #[.agg #[.string b.cpu,.slice Ax b.items.length cx],.agg #[.string s.cpu,.slice A j c],.bool false] W fun e w'=>e=.returned (.bool (sameS false b s))/\Below W.heap.size W w'):=hid (fun b W Ax cx hB hCB=>by
    have h:=rsameS0_calls b s Ax A cx c W hCB (by rw [HN.out];exact Kd.C_below I3.out (BL.out.trans (hB.mono BL.out.size))) (by rw [HN.out];exact hn) (fun i hi=>by have:=HS.out i hi;omega);rw [HN.out] at h
    exact h)
   have HB:Hid (∃ (b:SS) (F:SF),b=shOf (readT (ladT s))/\F=ftOf (readT (ladT s))):=hid ⟨_,_,rfl,rfl⟩;obtain ⟨b,F,hb,hF⟩:=HB.out;rw [<- hb,<- hF] at HRD;have HBB:=hid hb;have HFF:=hid hF;clear hb hF HB;obtain ⟨bc,bi⟩:=b;dsimp only at HRD;obtain ⟨nb,hnb⟩:∃ nb,bi.length=nb:=⟨_,rfl⟩;rw [hnb] at HRD;have HNB:=hid hnb;clear hnb;have tkA:True:=trivial;have tkB:True:=trivial;obtain ⟨t0,t1,t2,t3,t4⟩:=tre_cells TB.out
   go_upto_region 12 with (first
    | (go_at_call 30;refine (HRD.out).mono ?_;rintro ev x1 ⟨hB1,Ax,cx,rfl,hR1⟩;have C1x:=hid hB1;have R1x:=hid hR1;clear hB1 hR1 t0 t1 t2 t3 t4 s1)
    | (have _t:=tkA;refine run_event rfl (.alloc 64) rfl (.pointer (some ⟨x1.heap.size,0,none⟩)) (x1.alloc (.cells sh0 64)) (by kernel_rfl) ?_;intro x2 hx2;have Bx2:Hid (Below x1.heap.size x1 x2):=hid (by rw [hx2];exact alloc_below _ _);have Ex2:Hid (x2.heap[x1.heap.size]?=some (.cells sh0 64 (0,0))):=hid (by rw [hx2];exact heap_alloc_new _ _);clear hx2 tkA _t)
    | (have _t:=tkB;refine run_event rfl (.alloc 66) rfl (.pointer (some ⟨x2.heap.size,0,none⟩)) (x2.alloc (.cells fa0 66)) (by kernel_rfl) ?_;intro x3 hx3;have Bx3:Hid (Below x2.heap.size x2 x3):=hid (by rw [hx3];exact alloc_below _ _);have Ex3:Hid (x3.heap[x2.heap.size]?=some (.cells fa0 66 (0,0))):=hid (by rw [hx3];exact heap_alloc_new _ _);have E23x:=hid (blk_b Ex2.out Bx3.out);clear hx3 tkB _t)
    | ((with_reducible refine gate_store (t:=64) (p:=10) rfl ?_);refine put_event rfl 64 _ _ rfl x1.heap.size #[.string bc,.slice Ax nb cx] rfl rfl 64 sh0 E23x.out (by kernel_rfl) rfl (by simp [Value.oneCell']) x1.heap.size (Nat.le_refl _) ?_;intro x4 hb4 hB4 hs4 ho4;have E4x:=hid hb4;have B4x:=hid hB4;have E34x:=hid ((ho4 x2.heap.size (blk_ne Ex3.out E23x.out (by decide))).trans Ex3.out);clear hb4 hB4 hs4 ho4)
    | ((with_reducible refine gate_store (t:=66) (p:=11) rfl ?_);refine put_event rfl 66 _ _ rfl x2.heap.size #[.int .i64 F.code,.int .i64 F.spot.f0,.int .i64 F.spot.f1,.int .i64 F.spot.f2,.string F.name] rfl rfl 66 fa0 E34x.out (by kernel_rfl) rfl (by simp [Value.oneCell']) x2.heap.size (Nat.le_refl _) ?_;intro x5 hb5 hB5 hs5 ho5;have F5x:Hid (x5.heap[x2.heap.size]?=some (.cells #[.int .i64 F.code,.int .i64 F.spot.f0,.int .i64 F.spot.f1,.int .i64 F.spot.f2,.string F.name] 66 (0,0))):=hid hb5;have S5x:Hid (x5.heap[x1.heap.size]?=some (.cells #[.string bc,.slice Ax nb cx] 64 (0,0))):=hid ((ho5 x1.heap.size (blk_ne E4x.out E34x.out (by decide))).trans E4x.out);have BUx:Hid (Below x1.heap.size x1 x5):=hid (((Bx2.out.trans (Bx3.out.mono Bx2.out.size)).trans B4x.out).trans (hB5.mono Bx2.out.size));clear hb5 hB5 hs5 ho5 Bx2 Ex2 Bx3 Ex3 E23x E4x B4x E34x))
   have BX:Hid (Below wr.heap.size wr x5):=hid (C1x.out.trans (BUx.out.mono C1x.out.size));have BLX:Hid (Below w3.heap.size w3 x5):=hid (BL.out.trans (BX.out.mono BL.out.size));have BWX:Hid (Below w.heap.size w x5):=hid (BW3.out.trans (BLX.out.mono BW3.out.size));have RBx:=hid (Kd.R_below R1x.out BUx.out);have Tx:=hid (blk_b TB.out BX.out);have Zx:=hid (blk_b Z3.out BLX.out);have RAx:=hid (Kd.R_below RA.out BX.out)
   have HSX:Hid (Calls Tryz.prog 31 #[.agg #[.string bc,.slice Ax nb cx],.agg #[.string s.cpu,.slice A j c],.bool false] x5 fun e w'=>e=.returned (.bool (sameS false ⟨bc,bi⟩ s))/\Below x5.heap.size x5 w'):=hid (by
    have h:=HSM.out ⟨bc,bi⟩ x5 Ax cx BX.out (by have h2:=(Kd.R_reads' RBx.out).2.2;exact h2);dsimp only at h;rw [HNB.out] at h
    exact h)
   clear HRD HSM C1x R1x BUx;obtain ⟨b0,b1⟩:=she_cells S5x.out;obtain ⟨s0,s1⟩:=she_cells (blk_b S3.out BLX.out);have f0:x5.cell? ⟨x2.heap.size,0,none⟩=some (.int .i64 F.code):=(cell_row F5x.out 0).trans rfl;have HEND:Hid (∀ W Z:World,Below x5.heap.size x5 W->(∀ k,k≠w1.heap.size->Z.heap[k]?=W.heap[k]?)->Below w1.heap.size W Z->Below w.heap.size w Z/\Kd.R k44 44 Z w.heap.size (fun _=>True) (.slice Ao acc.length co) acc):=hid (fun W Z hW hk hB=>⟨(BWX.out.trans (hW.mono BWX.out.size)).trans (hB.mono (by have:=HZ.out;omega)),Kd.R_lower (Kd.R_mono (Kd.R_move (Kd.R_below RAx.out hW) (fun k hk2=>hk k (by have:=HZ.out;omega))) (fun _ _=>trivial)) BW3.out.size⟩);have HTL:Hid (acc.length=(ladT s).f2.length):=hid (by rw [HAC2.out]);cases ok with
   | false =>
    have HRW:Hid (rwriteS s=none):=hid (rw_bad HOK2.out.symm)
    go_wp2_with (first
     | ((with_reducible refine gate_store (t:=24) (p:=2) rfl ?_);refine put_event rfl 24 _ _ rfl w1.heap.size tr0 rfl rfl 24 tr0 Zx.out (by kernel_rfl) rfl (by simp [Value.oneCell']) w1.heap.size (Nat.le_refl _) ?_;intro q2 hb1 hB1 hs1 ho1;have E1q:=hid hb1;have B1q:=hid hB1;have O1q:=hid ho1;clear hb1 hB1 hs1 ho1))
    have hz2:=E1q.out
    refine bodyPost_ret (results_list (rs:=[.cell 2 24,.tmp 3]) rfl (by simp) (.cell w1.heap.size 24 tr0 (0,0) _ rfl hz2 Tryz.underlying24 rfl (by kernel_rfl) (.tmp .nil))) rfl ?_
    refine HWP.out _ _ ?_
    rw [HRW.out];exact ⟨(HEND.out x5 q2 (Below.refl _ _) O1q.out B1q.out).1,rfl⟩
   | true =>
    cases hr:readT (ladT s) with
    | error f =>
     have HRW:Hid (rwriteS s=none):=hid (by unfold rwriteS;rw [hr]);have hcd:=readT_code hr;have hFe:F=f:=by have:=HFF.out;rw [hr] at this;exact this
     have hk0:¬ F.code=0:=by rw [hFe];have h:50<=f.code:=hcd.1;omega
     have hk1:(F.code == 0)=false:=by simp [hk0]
     have hk2:(F.code != 0)=true:=by simp [hk0]
     clear hr hcd hFe hk0
     go_wp2_with (first
      | ((with_reducible refine gate_store (t:=24) (p:=2) rfl ?_);refine put_event rfl 24 _ _ rfl w1.heap.size tr0 rfl rfl 24 tr0 Zx.out (by kernel_rfl) rfl (by simp [Value.oneCell']) w1.heap.size (Nat.le_refl _) ?_;intro q2 hb1 hB1 hs1 ho1;have E1q:=hid hb1;have B1q:=hid hB1;have O1q:=hid ho1;clear hb1 hB1 hs1 ho1))
     have hz2:=E1q.out
     refine bodyPost_ret (results_list (rs:=[.cell 2 24,.tmp 3]) rfl (by simp) (.cell w1.heap.size 24 tr0 (0,0) _ rfl hz2 Tryz.underlying24 rfl (by kernel_rfl) (.tmp .nil))) rfl ?_
     refine HWP.out _ _ ?_
     rw [HRW.out];exact ⟨(HEND.out x5 q2 (Below.refl _ _) O1q.out B1q.out).1,rfl⟩
    | ok b =>
     have hFe:F.code=0:=by have:=HFF.out;rw [hr] at this;rw [this];rfl
     have hbe:(⟨bc,bi⟩:SS)=b:=by have:=HBB.out;rw [hr] at this;exact this
     rw [hFe] at f0;rw [hbe] at HSX;obtain ⟨sb,hsb⟩:∃ sb,sameS false b s=sb:=⟨_,rfl⟩;rw [hsb] at HSX;cases sb with
     | false =>
      have HRW:Hid (rwriteS s=none):=hid (by unfold rwriteS;rw [hr];simp [hsb]);clear hr hFe hbe hsb
      go_wp2_with (first
       | (go_at_call 31;refine HSX.out.mono ?_;rintro ev q1 ⟨rfl,hB⟩;have BQ1:=hid hB;have Zq:=hid (blk_b Zx.out hB);clear hB s0 s1 b0 b1 f0)
       | ((with_reducible refine gate_store (t:=24) (p:=2) rfl ?_);refine put_event rfl 24 _ _ rfl w1.heap.size tr0 rfl rfl 24 tr0 Zq.out (by kernel_rfl) rfl (by simp [Value.oneCell']) w1.heap.size (Nat.le_refl _) ?_;intro q2 hb1 hB1 hs1 ho1;have E1q:=hid hb1;have B1q:=hid hB1;have O1q:=hid ho1;clear hb1 hB1 hs1 ho1))
      have hz2:=E1q.out
      refine bodyPost_ret (results_list (rs:=[.cell 2 24,.tmp 3]) rfl (by simp) (.cell w1.heap.size 24 tr0 (0,0) _ rfl hz2 Tryz.underlying24 rfl (by kernel_rfl) (.tmp .nil))) rfl ?_
      refine HWP.out _ _ ?_
      rw [HRW.out];exact ⟨(HEND.out q1 q2 BQ1.out O1q.out B1q.out).1,rfl⟩
     | true =>
      have HRW:Hid (rwriteS s=some (ladT s)):=hid (by unfold rwriteS;rw [hr];simp [hsb,<- HOK2.out]);clear hr hFe hbe hsb
      go_upto_region 14 with (first
       | (go_at_call 31;refine HSX.out.mono ?_;rintro ev q1 ⟨rfl,hB⟩;have BQ1:=hid hB;have Zq:=hid (blk_b Zx.out hB);have Tq:=hid (blk_b Tx.out hB);clear hB s0 s1 b0 b1 f0))
      obtain ⟨t0,t1,t2,t3,t4⟩:=tre_cells Tq.out
      go_wp2_with (first
       | ((with_reducible refine gate_store (t:=24) (p:=2) rfl ?_);refine put_event rfl 24 _ _ rfl w1.heap.size #[.string ver,.string s.cpu,.slice Ao acc.length co,.bool false,.string ⟨#[]⟩] rfl rfl 24 tr0 Zq.out (by kernel_rfl) rfl (by simp [Value.oneCell']) w1.heap.size (Nat.le_refl _) ?_;intro q2 hb1 hB1 hs1 ho1;have E1q:=hid hb1;have B1q:=hid hB1;have O1q:=hid ho1;clear hb1 hB1 hs1 ho1 t0 t1 t2 t3 t4))
      have hz2:=E1q.out
      refine bodyPost_ret (results_list (rs:=[.cell 2 24,.tmp 3]) rfl (by simp) (.cell w1.heap.size 24 #[.string ver,.string s.cpu,.slice Ao acc.length co,.bool false,.string ⟨#[]⟩] (0,0) _ rfl hz2 Tryz.underlying24 rfl (by kernel_rfl) (.tmp .nil))) rfl ?_
      refine HWP.out _ _ ?_
      rw [HRW.out];obtain ⟨h1,h2⟩:=HEND.out q1 q2 BQ1.out O1q.out B1q.out
      refine ⟨h1,_,rfl,?_⟩
      rw [<- HAC2.out];exact h2
end Go.Proofs.YtmfejjlmflgnbaaGreatDoor.Sc

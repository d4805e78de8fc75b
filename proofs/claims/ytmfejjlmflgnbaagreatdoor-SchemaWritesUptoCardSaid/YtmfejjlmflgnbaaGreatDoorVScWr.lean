/- CONTRACT: package schema's Write: a sheet as a tree that is read as that sheet. -/
import Derived.Test.YtmfejjlmflgnbaaGreatDoorVScRd
import Derived.Test.YtmfejjlmflgnbaaGreatDoorVWReg
set_option linter.unusedVariables false
set_option linter.unusedSimpArgs false
set_option maxRecDepth 100000
namespace Go.Proofs.YtmfejjlmflgnbaaGreatDoor.Sc
open RowKit PA YtmfejjlmflgnbaaGreatDoorW.PrintWords YtmfejjlmflgnbaaGreatDoorW.PrintLast Sp Tr Tok
open Go.Lib (hid)
abbrev tr0:Array Value:=#[.string ⟨#[]⟩,.string ⟨#[]⟩,.slice none 0 0,.bool false,.string ⟨#[]⟩]
def WritePost (s:SS) (w:World) (e:Ending) (w':World):Prop :=
 Below w.heap.size w w'/\match writeS s with
  | some t=>∃ v,e=.returned (.tuple #[.agg (trV s.cpu v),.int .i64 0])/\Kd.R k44 44 w' w.heap.size (fun _=>True) v t.f2
  | none=>e=.returned (.tuple #[.agg tr0,.int .i64 2])
structure WQ (s:SS) (w0:World) (b1 b2 wb tb:Nat) (Ar:Option Addr) (cr:Nat) (A:Option Addr) (c:Nat) (j:Nat) (acc:List SO) (q:Bool) (v:Value) (wr:World):Prop where
 bel:Below w0.heap.size w0 wr
 lay:acc=(s.items.take j).map (fun i=>(layI i).1)
 bad:q=(!nameB (bs s.cpu)||(s.items.take j).any (fun i=>(layI i).2))
 sht:wr.heap[b1]?=some (.cells (shC s.cpu (.slice A s.items.length c)) 64 (0,0))
 z2:wr.heap[b2]?=some (.cells tr0 24 (0,0))
 wri:wr.heap[wb]?=some (.cells (wrC tab Ar cr q) 146 (0,0))
 tre:wr.heap[tb]?=some (.cells (trV s.cpu v) 24 (0,0))
 obs:Kd.R k44 44 wr w0.heap.size (fun k=>tb<k) v acc
theorem readOs_code:∀ (l:List SO) (acc:List SI) (f:SF),readOs tab acc l=.error f->CodeOk f
 | [],acc,f,h=>by cases h
 | o :: r,acc,f,h=>by
  unfold readOs at h;cases ho:readO tab o with
  | error f'=>rw [ho] at h;cases h;exact readO_code ho
  | ok i=>rw [ho] at h;exact readOs_code r _ f h
theorem readT_code {t:ST} {f:SF} (h:readT t=.error f):CodeOk f:=by
 unfold readT at h;cases ho:readOs tab [] t.f2 with
 | error f'=>rw [ho] at h;cases h;exact readOs_code _ _ _ ho
 | ok l=>rw [ho] at h;cases h
theorem read_form {t:ST} {w w':World} {e:Ending} (h:ReadPost t w e w'):∃ cp Bv cb code sp nm,∃ bi:List SI,e=.returned (.tuple #[.agg (shC cp (.slice Bv bi.length cb)),.agg (faC code sp nm)])/\Below w.heap.size w w'/\Kd.C kItem w' Bv bi.length bi/\((code=0/\∃ c,readT t=.ok ⟨c,bi⟩)∨(code≠0/\∃ f,readT t=.error f)):=by
 obtain ⟨hB,hm⟩:=h;cases hr:readT t with
 | error f =>
  rw [hr] at hm;have hc:50<=f.code/\f.code<=56:=readT_code hr;exact ⟨⟨#[]⟩,none,0,f.code,f.spot,f.name,[],hm,hB,C_nil _ _ _,.inr ⟨by omega,f,rfl⟩⟩
 | ok b =>
  rw [hr] at hm;obtain ⟨v,he,hR⟩:=hm;obtain ⟨Bv,cb,rfl⟩:=RForm hR;exact ⟨b.cpu,Bv,cb,0,z41,⟨#[]⟩,b.items,he,hB,(Kd.R_reads' hR).2.2,.inl ⟨rfl,b.cpu,rfl⟩⟩
theorem write_bad {s:SS} {b:SS} (h:readT (layT s)=.ok b) (hb:(badS s||!sameIs false b.items s.items)=true):writeS s=none:=by
 unfold writeS;rw [h];simp only [hb,if_true]
theorem write_ok {s:SS} {b:SS} (h:readT (layT s)=.ok b) (hb:(badS s||!sameIs false b.items s.items)=false):writeS s=some (layT s):=by
 unfold writeS;rw [h];simp only [hb]
 rfl
theorem write_er {s:SS} {f:SF} (h:readT (layT s)=.error f):writeS s=none:=by
 unfold writeS;rw [h]
set_option maxHeartbeats 64000000 in
theorem write_calls (eb:Int->Addr) (s:SS) (A:Option Addr) (c:Nat) (w:World) (hs:∀ i ∈ s.items,szEs i.ents<=1073741824) (hn:s.items.length<=1073741824) (hC:Kd.C kItem w A s.items.length s.items) (hG:EGlob eb w) (hGl:Glob w) (hT:w.cell? ⟨4,0,none⟩=some (.iface 226 (.agg #[.pointer (some ⟨15,84,none⟩)]))) :
  Calls Tryz.prog 32 #[.agg (shC s.cpu (.slice A s.items.length c))] w (WritePost s w):=by
 have HS:=hid hs;have HL:=hid hn;have HC:=hid hC;have HG:=hid hG;have HGL:=hid hGl;have HT:=hid hT;clear hs hC hG hGl hT;obtain ⟨n,hnn⟩:∃ n,s.items.length=n:=⟨_,rfl⟩;rw [hnn] at hn HC HL ⊢;have HN:=hid hnn;clear hnn;obtain ⟨r0,hr0⟩:∃ r,nameB (bs s.cpu)=r:=⟨_,rfl⟩;have HR0:=hid hr0;clear hr0;have tk1:True:=trivial;have tk2:True:=trivial
 go_enter Tryz.func32,Tryz.ntmps32
 go_upto_region 1 with (first
  | (have _t:=tk1;refine run_event rfl (.box 64 _) rfl (.pointer (some ⟨w.heap.size,0,none⟩)) (w.alloc (.cells (shC s.cpu (.slice A n c)) 64)) (by kernel_rfl) ?_;intro w1 hw1;have B1:Hid (Below w.heap.size w w1):=hid (by rw [hw1];exact alloc_below _ _);have E1:Hid (w1.heap[w.heap.size]?=some (.cells (shC s.cpu (.slice A n c)) 64 (0,0))):=hid (by rw [hw1];exact heap_alloc_new _ _);have Z1:Hid (w1.heap.size=w.heap.size + 1):=hid (by rw [hw1];simp);clear hw1 tk1 _t)
  | (have _t:=tk2;refine run_event rfl (.alloc 24) rfl (.pointer (some ⟨w1.heap.size,0,none⟩)) (w1.alloc (.cells tr0 24)) (by kernel_rfl) ?_;intro w2 hw2;have B2:Hid (Below w1.heap.size w1 w2):=hid (by rw [hw2];exact alloc_below _ _);have E2:Hid (w2.heap[w1.heap.size]?=some (.cells tr0 24 (0,0))):=hid (by rw [hw2];exact heap_alloc_new _ _);have Z2:Hid (w2.heap.size=w.heap.size + 2):=hid (by rw [hw2,World.size_alloc];have:=Z1.out;omega);clear hw2 tk2 _t))
 have tk1:True:=trivial
 go_upto_region 2 with (first
  | (go_at_call 25;refine (rows_calls _).mono ?_;rintro e w4 ⟨⟨v4,rfl,hS4⟩,hB4⟩;obtain ⟨Ar,cr,rfl,_,_⟩:=Kd.S_reads hS4;have B4:=hid hB4;have C4:Hid (Kd.C kRow w4 Ar tab.length tab):=hid (Kd.S_reads' hS4).2.2;clear hS4 hB4)
  | (have _t:=tk1;refine run_event rfl (.box 146 _) rfl (.pointer (some ⟨w4.heap.size,0,none⟩)) (w4.alloc (.cells (wrC tab Ar cr false) 146)) (by kernel_rfl) ?_;intro w5 hw5;have B5:Hid (Below w4.heap.size w4 w5):=hid (by rw [hw5];exact alloc_below _ _);have E5:Hid (w5.heap[w4.heap.size]?=some (.cells (wrC tab Ar cr false) 146 (0,0))):=hid (by rw [hw5];exact heap_alloc_new _ _);have Z5:Hid (w5.heap.size=w4.heap.size + 1):=hid (by rw [hw5];simp);clear hw5 tk1 _t))
 have HNB:Hid (w1.heap.size=w.heap.size + 1/\w2.heap.size=w.heap.size + 2/\w2.heap.size<=w4.heap.size/\w5.heap.size=w4.heap.size + 1):=hid ⟨Z1.out,Z2.out,B4.out.size,Z5.out⟩;have BW4:Hid (Below w.heap.size w w4):=hid ((B1.out.trans (B2.out.mono (by have:=Z1.out;omega))).trans (B4.out.mono (by have:=Z2.out;omega)));have E15:=hid ((B5.out.block w.heap.size (by have:=HNB.out;omega)).trans ((B4.out.block w.heap.size (by have:=Z2.out;omega)).trans ((B2.out.block w.heap.size (by have:=Z1.out;omega)).trans E1.out)));have E25:=hid ((B5.out.block w1.heap.size (by have:=HNB.out;omega)).trans ((B4.out.block w1.heap.size (by have:=HNB.out;omega)).trans E2.out));clear B1 E1 Z1 B2 E2 Z2 B4 Z5;have a0:w5.cell? ⟨w.heap.size,0,none⟩=some (.string s.cpu):=(cell_row E15.out 0).trans rfl;have tk1:True:=trivial
 go_upto_region 3 with (first
  | (have _t:=tk1;refine run_event rfl (.alloc 24) rfl (.pointer (some ⟨w5.heap.size,0,none⟩)) (w5.alloc (.cells tr0 24)) (by kernel_rfl) ?_;intro w6 hw6;have B6:Hid (Below w5.heap.size w5 w6):=hid (by rw [hw6];exact alloc_below _ _);have E6:Hid (w6.heap[w5.heap.size]?=some (.cells tr0 24 (0,0))):=hid (by rw [hw6];exact heap_alloc_new _ _);clear hw6 tk1 _t)
  | ((with_reducible refine gate_store (t:=24) (p:=5) rfl ?_);refine put_event rfl 24 _ _ rfl w5.heap.size (trV s.cpu (.slice none 0 0)) rfl rfl 24 tr0 E6.out (by kernel_rfl) rfl (by simp [Value.oneCell']) w5.heap.size (Nat.le_refl _) ?_;intro w7 hb8 hB8 hs8 ho8;have E7:=hid hb8;have B7:Hid (Below w5.heap.size w5 w7):=hid (B6.out.trans hB8);clear hb8 hB8 hs8 ho8 a0))
 clear B6 E6;have E17:=hid ((B7.out.block w.heap.size (gS.1 E15.out).1).trans E15.out);have E27:=hid ((B7.out.block w1.heap.size (gS.1 E25.out).1).trans E25.out);have E57:=hid ((B7.out.block w4.heap.size (gS.1 E5.out).1).trans E5.out);have BW7:Hid (Below w4.heap.size w4 w7):=hid (B5.out.trans (B7.out.mono B5.out.size));clear E15 E25 E5 B5 B7;have HSP:Hid (∀ (t:ByteArray) (rk:Bool) W,Below w.heap.size w W->nameB (bs t)=rk->Calls Tryz.prog 75 #[.int .i64 1,.string t] W fun ev w'=>ev=.returned (.bool rk)/\Below W.heap.size W w'):=hid (fun t rk W hW hk=>spelled_calls 1 t W (HGL.out.below hW) rk ((spell_name' _).trans hk));have a0:w7.cell? ⟨w.heap.size,0,none⟩=some (.string s.cpu):=(cell_row E17.out 0).trans rfl
 go_upto_region 4 with (first
  | (go_at_call 75;refine (HSP.out s.cpu r0 w7 (BW4.out.trans (BW7.out.mono BW4.out.size)) HR0.out).mono ?_;rintro ev w8 ⟨rfl,hB8⟩;have B8:=hid hB8;have E58:=hid ((B8.out.block w4.heap.size (gS.1 E57.out).1).trans E57.out);clear hB8 a0)
  | ((with_reducible refine gate_store (t:=4) (p:=24) rfl ?_);refine cell_event rfl 4 _ _ rfl w4.heap.size 2 (.bool (!r0)) rfl rfl rfl (thereR E58.out (by simp)) (by kernel_rfl) w4.heap.size (Nat.le_refl _) ?_;intro w9 hw9 hB9 hs9;obtain ⟨hr9,hk9,hz9⟩:=row1 E58.out hw9;have E59:Hid (w9.heap[w4.heap.size]?=some (.cells (wrC tab Ar cr (!r0)) 146 (0,0))):=hid hr9;have K9:=hid hk9;have B9:=hid hB9;clear hw9 hr9 hk9 hz9 hB9 hs9))
 have HST:Hid (WQ s w w.heap.size w1.heap.size w4.heap.size w5.heap.size Ar cr A c 0 [] (!r0) (.slice none 0 0) w9):=hid
  ⟨BW4.out.trans ((BW7.out.mono BW4.out.size).trans ((B8.out.mono (by have:=BW4.out.size;have:=BW7.out.size;omega)).trans (B9.out.mono BW4.out.size))),by simp,by rw [HR0.out];simp,by
   rw [HN.out];exact (K9.out _ (by have:=HNB.out;omega)).trans ((B8.out.block _ (gS.1 E17.out).1).trans E17.out),(K9.out _ (by have:=HNB.out;omega)).trans ((B8.out.block _ (gS.1 E27.out).1).trans E27.out),E59.out,(K9.out _ (by have:=HNB.out;omega)).trans ((B8.out.block _ (gS.1 E7.out).1).trans E7.out),Kd.R_nil _ _ _ _ _⟩
 have HSB:Hid (Below w4.heap.size w4 w9):=hid ((BW7.out.trans (B8.out.mono BW7.out.size)).trans B9.out);clear E17 E27 E57 E7 E58 E59 B8 B9 K9 BW7;have a1:w9.cell? ⟨w.heap.size,1,none⟩=some (.slice A s.items.length c):=(cell_row HST.out.sht 1).trans rfl;rw [HN.out] at a1
 go_wp2_with fail
 clear a1
 go_loopw [28] (fun v wr=>∃ (j:Nat) (acc:List SO) (q:Bool) (sv:Value),v=.int .i64 (j:Int)/\j<=n/\Hid (WQ s w w.heap.size w1.heap.size w4.heap.size w5.heap.size Ar cr A c j acc q sv wr)/\Hid (Below w4.heap.size w4 wr)) (fun v _=>n - (intOf v).toNat)
 case atStart=>exact ⟨0,_,_,_,by go_num,by omega,HST,HSB⟩
 case round =>
  obtain ⟨j,acc,q,sv,rfl,hj,HI,HZ⟩:=hrel;obtain ⟨Ao,co,hsv⟩:=RForm HI.out.obs;subst hsv;clear HST HSB
  by_cases hlt:j<n
  ·have hx:s.items[j]?=some (s.items[j]'(by rw [HN.out];exact hlt)):=List.getElem?_eq_getElem _
   obtain ⟨ad,A5,c5,eA,x0,x1,x2,x3,x4,x5,l5,C5⟩:=at_Item (Kd.C_below HC.out HI.out.bel) (j:Int) (by omega) (by omega);obtain ⟨adz,A5z,c5z,eAz,_,_,_,_,_,z5,_,C5z⟩:=at_Item (Kd.C_below HC.out BW4.out) (j:Int) (by omega) (by omega);rw [item_at' s.items j _ hx] at x0 x1 x2 x3 x4 x5 l5 C5;rw [item_at' s.items j _ hx] at z5 C5z;have HSI:Hid (szEs (s.items[j]'(by rw [HN.out];exact hlt)).ents<=1073741824):=hid (HS.out _ (List.getElem_mem _));generalize (s.items[j]'(by rw [HN.out];exact hlt))=x at hx x0 x1 x2 x3 x4 x5 l5 C5 z5 C5z HSI;cases eA;injection eAz with eAz
   subst eAz;have z5':=(HZ.out.cell (lC w4 _ z5)).trans z5;rw [x5] at z5';injection z5' with z5'
   injection z5' with hA5 _ hc5
   subst hA5 hc5;have HX:=hid hx;have HC5:=hid C5z;clear hx C5 C5z l5 z5;simp only [Int.toNat_natCast] at x0 x1 x2 x3 x4 x5;have tk1:True:=trivial
   go_upto_region 7 with (first
    | (have _t:=tk1;refine run_event rfl (.alloc 78) rfl (.pointer (some ⟨wr.heap.size,0,none⟩)) (wr.alloc (.cells item0 78)) (by kernel_rfl) ?_;intro x4w hw4;have BX4:Hid (Below wr.heap.size wr x4w):=hid (by rw [hw4];exact alloc_below _ _);have EX4:Hid (x4w.heap[wr.heap.size]?=some (.cells item0 78 (0,0))):=hid (by rw [hw4];exact heap_alloc_new _ _);have ZX4:Hid (x4w.heap.size=wr.heap.size + 1):=hid (by rw [hw4];simp);clear hw4 tk1 _t)
    | ((with_reducible refine gate_store (t:=78) (p:=7) rfl ?_);refine put_event rfl 78 _ _ rfl wr.heap.size (itemC x (.slice A5 x.ents.length c5)) rfl rfl 78 item0 EX4.out (by kernel_rfl) rfl (item_all _ _ _ _) wr.heap.size (Nat.le_refl _) ?_;intro y5 hb5 hB5 hs5 ho5;have E5:=hid hb5;have B5:Hid (Below wr.heap.size wr y5):=hid (BX4.out.trans hB5);have Z5:Hid (y5.heap.size=wr.heap.size + 1):=hid (by rw [hs5,ZX4.out]);clear hb5 hB5 hs5 ho5 x0 x1 x2 x3 x4 x5))
   clear BX4 EX4 ZX4;have HWR:Hid (w5.heap.size<wr.heap.size):=hid (gS.1 HI.out.tre).1;have BL5:Hid (Below w.heap.size w y5):=hid (HI.out.bel.trans (B5.out.mono HI.out.bel.size));have W5:=hid ((B5.out.block _ (gS.1 HI.out.wri).1).trans HI.out.wri);obtain ⟨rk,hrk⟩:∃ rk,nameB (bs x.name)=rk:=⟨_,rfl⟩;have HRK:=hid hrk;clear hrk;have k2:y5.cell? ⟨w4.heap.size,2,none⟩=some (.bool q):=(cell_row W5.out 2).trans rfl;have i1:y5.cell? ⟨wr.heap.size,1,none⟩=some (.string x.name):=(cell_row E5.out 1).trans rfl;have HN4:Hid (wr.heap.size≠w4.heap.size/\w5.heap.size≠w4.heap.size):=hid ⟨by have:=HWR.out;have:=HNB.out;omega,by have:=HNB.out;omega⟩;cases q with
   | true =>
    go_upto_region 8 with (first
     | ((with_reducible refine gate_store (t:=4) (p:=44) rfl ?_);refine cell_event rfl 4 _ _ rfl w4.heap.size 2 (.bool true) rfl rfl rfl (thereR W5.out (by simp)) (by kernel_rfl) w4.heap.size (Nat.le_refl _) ?_;intro y9 hw9 hB9 hs9;obtain ⟨hr9,hk9,hz9⟩:=row1 W5.out hw9;have W9:Hid (y9.heap[w4.heap.size]?=some (.cells (wrC tab Ar cr true) 146 (0,0))):=hid hr9;have G9:Hid (y5.grownBy y9 (some w4.heap.size)):=hid ⟨hB9.os,hB9.tape,hB9.output,hB9.size,fun k _ hne=>hk9 k (fun e=>hne (by rw [e]))⟩;clear hw9 hr9 hk9 hz9 hB9 hs9))
    clear k2 i1;have GT:=hid ((G9.out.block w5.heap.size (by have:=B5.out.size;have:=HWR.out;omega) (fun e=>by injection e with e;have:=HNB.out;omega)).trans ((B5.out.block w5.heap.size HWR.out).trans HI.out.tre));have GI:=hid ((G9.out.block wr.heap.size (gS.1 E5.out).1 (fun e=>by injection e with e;have:=HNB.out;have:=HWR.out;omega)).trans E5.out);have HZ9:Hid (Below w4.heap.size w4 y9):=hid ((HZ.out.trans (B5.out.mono HZ.out.size)).trans (belowG G9.out (Nat.le_refl _) (by have:=HZ.out.size;have:=B5.out.size;omega)));obtain ⟨I,hI⟩:∃ I,underR tab x.kind ⟨#[]⟩ ⟨#[]⟩=I:=⟨_,rfl⟩;have HII:Hid (I.length<=1000):=hid (by rw [<- hI];exact Nat.le_trans (under_len _ _ _ _) (by rw [tab_len];decide));have HBH:Hid (∀ V,Below y9.heap.size y9 V->Calls Tryz.prog 67 #[ptW w4.heap.size 0,.string x.kind,.string ⟨#[]⟩,.string ⟨#[]⟩] V fun ev w'=>(∃ v,ev=.returned v/\Kd.R (Kd.fixed kRow w4) 60 w' V.heap.size (fun _=>True) v I)/\Below V.heap.size V w'):=hid (fun V hV=>by rw [<- hI];exact behindz_calls w4.heap.size tab Ar cr x.kind ⟨#[]⟩ ⟨#[]⟩ w4 V (HZ9.out.trans (hV.mono HZ9.out.size)) ((hV.cell (gS.1 W9.out).1).trans ((cell_row W9.out 0).trans rfl)) C4.out (by rw [tab_len];decide));obtain ⟨rL,hrL⟩:∃ rL,layL tab x.kind I [] false x.ents=rL:=⟨_,rfl⟩
    have HAT:Hid (∀ V Ai ci,Below y9.heap.size y9 V->Kd.R (Kd.fixed kRow w4) 60 V y9.heap.size (fun _=>True) (.slice Ai I.length ci) I->Calls Tryz.prog 76 #[ptW w4.heap.size 0,.string x.kind,.slice Ai I.length ci,.slice A5 x.ents.length c5] V (WPost tab rL w4.heap.size Ar cr true V)):=hid (fun V Ai ci hV hR=>by
     have h:=wattrs_calls tab x.ents x.kind I w4.heap.size y9.heap.size Ar cr Ai ci A5 c5 true w4 V HSI.out (HZ9.out.trans (hV.mono HZ9.out.size)) (Nat.le_refl _) ((hV.block _ (gS.1 W9.out).1).trans W9.out) C4.out (by rw [tab_len];decide) (Kd.R_mono (Kd.R_bound hR) (fun k hk=>by have:=hk.2.1;have:=(gS.1 W9.out).1;omega)) HII.out HC5.out (HGL.out.below BW4.out);rw [hrL] at h
     exact h)
    have HLI:Hid (layI x=(obO x rL.1,!rk||rL.2)):=hid (by unfold layI;rw [hI,hrL,HRK.out]);clear hI hrL;have ROWY:Hid (Kd.R k44 44 y9 w.heap.size (fun k=>w5.heap.size<k/\k<y9.heap.size) (.slice Ao acc.length co) acc):=hid (Kd.R_grown (Kd.R_below (Kd.R_mono (Kd.R_bound HI.out.obs) (fun k hk=>⟨hk.1,by have:=hk.2.2.1;have:=B5.out.size;have:=G9.out.size;omega⟩)) B5.out) G9.out (fun k hk e=>by injection e with e;have:=hk.1;have:=HNB.out;omega));have HLA:Hid (acc.length<=1073741824):=hid (by rw [HI.out.lay,List.length_map,List.length_take];have:=HL.out;omega);have HIT:Hid (wr.heap.size<y9.heap.size):=hid (by have:=G9.out.size;have:=Z5.out;omega)
    try simp only [Act.put,List.setIfInBounds_toArray,List.set_cons_zero,List.set_cons_succ]
    refine region8W (⟨[],y9,w4,w4.heap.size,w5.heap.size,wr.heap.size,w.heap.size,s.cpu,x,I,rL,Ar,cr,true,Ao,co,acc,A5,c5⟩:GW) (by kernel_rfl) rfl ⟨by have:=HNB.out;show w4.heap.size<w5.heap.size;omega,HWR.out,HIT.out,Nat.le_refl _,BW4.out.size,HLA.out,HBH.out,HAT.out⟩ rfl rfl (by rfl) (by rfl) (by rfl) (by rfl) HZ9.out W9.out GT.out GI.out ROWY.out ?_
    intro z Av cv hz1 hz2 hz3 hz4 hz5 hz6 v45 v46 v47 v48 v49 v50 v51 v52 v53 v54 v55 v56 v57 v58 v59 v60 v61 v62 v63 v64 v65 v66;have HACC:Hid (acc=(s.items.take j).map (fun i=>(layI i).1)):=hid HI.out.lay;have HBAD:=hid HI.out.bad;have FR:Hid (∀ k,k<w5.heap.size->k≠w4.heap.size->z.heap[k]?=wr.heap[k]?):=hid (fun k h1 h2=>(hz3 k h1 h2).trans ((G9.out.block k (by have:=B5.out.size;have:=HWR.out;omega) (fun e=>by injection e with e;omega)).trans (B5.out.block k (by have:=HWR.out;omega))))
    have HQ:Hid (WQ s w w.heap.size w1.heap.size w4.heap.size w5.heap.size Ar cr (some ad) c (j + 1) (acc++[obO x rL.1]) (true||rL.2) (.slice Av (acc.length + 1) cv) z):=hid
     ⟨BW4.out.trans (hz1.mono BW4.out.size),by rw [List.take_add_one,HX.out];simp [HACC.out,HLI.out],by
      rw [List.take_add_one,HX.out];have h:=HBAD.out;simp only [Option.toList_some,List.any_append,List.any_cons,List.any_nil,Bool.or_false,HLI.out];rw [<- Bool.or_assoc,<- h]
      rfl,(FR.out _ (by have:=HNB.out;omega) (by have:=HNB.out;omega)).trans HI.out.sht,(FR.out _ (by have:=HNB.out;omega) (by have:=HNB.out;omega)).trans HI.out.z2,hz4,hz5,hz6⟩
    have HZz:Hid (Below w4.heap.size w4 z):=hid hz1;clear hz1 hz2 hz3 hz4 hz5 hz6 FR HI HZ HACC HBAD ROWY HBH HAT GT GI HZ9 W9 G9;rename_i hK
    refine hK _ _ ?_
    simp only [Array.getD_eq_getD_getElem?,List.getElem?_toArray,List.getElem?_cons_zero,List.getElem?_cons_succ,Option.getD_some]
    go_wp2_with fail
    exact ⟨⟨j + 1,acc++[obO x rL.1],(true||rL.2),_,by go_num,by omega,HQ,HZz⟩,by simp [intOf];omega⟩
   | false =>
    go_upto_region 8 with (first
     | (go_at_call 75;refine (HSP.out x.name rk y5 BL5.out HRK.out).mono ?_;rintro ev y10 ⟨rfl,hB10⟩;have B10:=hid hB10;have W10:=hid ((B10.out.block _ (gS.1 W5.out).1).trans W5.out);clear hB10 k2 i1)
     | ((with_reducible refine gate_store (t:=4) (p:=44) rfl ?_);refine cell_event rfl 4 _ _ rfl w4.heap.size 2 (.bool (!rk)) rfl rfl rfl (thereR W10.out (by simp)) (by kernel_rfl) w4.heap.size (Nat.le_refl _) ?_;intro y9 hw9 hB9 hs9;obtain ⟨hr9,hk9,hz9⟩:=row1 W10.out hw9;have W9:Hid (y9.heap[w4.heap.size]?=some (.cells (wrC tab Ar cr (!rk)) 146 (0,0))):=hid hr9;have G9:Hid (y5.grownBy y9 (some w4.heap.size)):=hid ((below_grown (r:=some w4.heap.size) B10.out).trans ⟨hB9.os,hB9.tape,hB9.output,hB9.size,fun k _ hne=>hk9 k (fun e=>hne (by rw [e]))⟩);clear hw9 hr9 hk9 hz9 hB9 hs9))
    have GT:=hid ((G9.out.block w5.heap.size (by have:=B5.out.size;have:=HWR.out;omega) (fun e=>by injection e with e;have:=HNB.out;omega)).trans ((B5.out.block w5.heap.size HWR.out).trans HI.out.tre));have GI:=hid ((G9.out.block wr.heap.size (gS.1 E5.out).1 (fun e=>by injection e with e;have:=HNB.out;have:=HWR.out;omega)).trans E5.out);have HZ9:Hid (Below w4.heap.size w4 y9):=hid ((HZ.out.trans (B5.out.mono HZ.out.size)).trans (belowG G9.out (Nat.le_refl _) (by have:=HZ.out.size;have:=B5.out.size;omega)));obtain ⟨I,hI⟩:∃ I,underR tab x.kind ⟨#[]⟩ ⟨#[]⟩=I:=⟨_,rfl⟩;have HII:Hid (I.length<=1000):=hid (by rw [<- hI];exact Nat.le_trans (under_len _ _ _ _) (by rw [tab_len];decide));have HBH:Hid (∀ V,Below y9.heap.size y9 V->Calls Tryz.prog 67 #[ptW w4.heap.size 0,.string x.kind,.string ⟨#[]⟩,.string ⟨#[]⟩] V fun ev w'=>(∃ v,ev=.returned v/\Kd.R (Kd.fixed kRow w4) 60 w' V.heap.size (fun _=>True) v I)/\Below V.heap.size V w'):=hid (fun V hV=>by rw [<- hI];exact behindz_calls w4.heap.size tab Ar cr x.kind ⟨#[]⟩ ⟨#[]⟩ w4 V (HZ9.out.trans (hV.mono HZ9.out.size)) ((hV.cell (gS.1 W9.out).1).trans ((cell_row W9.out 0).trans rfl)) C4.out (by rw [tab_len];decide));obtain ⟨rL,hrL⟩:∃ rL,layL tab x.kind I [] false x.ents=rL:=⟨_,rfl⟩
    have HAT:Hid (∀ V Ai ci,Below y9.heap.size y9 V->Kd.R (Kd.fixed kRow w4) 60 V y9.heap.size (fun _=>True) (.slice Ai I.length ci) I->Calls Tryz.prog 76 #[ptW w4.heap.size 0,.string x.kind,.slice Ai I.length ci,.slice A5 x.ents.length c5] V (WPost tab rL w4.heap.size Ar cr (!rk) V)):=hid (fun V Ai ci hV hR=>by
     have h:=wattrs_calls tab x.ents x.kind I w4.heap.size y9.heap.size Ar cr Ai ci A5 c5 (!rk) w4 V HSI.out (HZ9.out.trans (hV.mono HZ9.out.size)) (Nat.le_refl _) ((hV.block _ (gS.1 W9.out).1).trans W9.out) C4.out (by rw [tab_len];decide) (Kd.R_mono (Kd.R_bound hR) (fun k hk=>by have:=hk.2.1;have:=(gS.1 W9.out).1;omega)) HII.out HC5.out (HGL.out.below BW4.out);rw [hrL] at h
     exact h)
    have HLI:Hid (layI x=(obO x rL.1,!rk||rL.2)):=hid (by unfold layI;rw [hI,hrL,HRK.out]);clear hI hrL;have ROWY:Hid (Kd.R k44 44 y9 w.heap.size (fun k=>w5.heap.size<k/\k<y9.heap.size) (.slice Ao acc.length co) acc):=hid (Kd.R_grown (Kd.R_below (Kd.R_mono (Kd.R_bound HI.out.obs) (fun k hk=>⟨hk.1,by have:=hk.2.2.1;have:=B5.out.size;have:=G9.out.size;omega⟩)) B5.out) G9.out (fun k hk e=>by injection e with e;have:=hk.1;have:=HNB.out;omega));have HLA:Hid (acc.length<=1073741824):=hid (by rw [HI.out.lay,List.length_map,List.length_take];have:=HL.out;omega);have HIT:Hid (wr.heap.size<y9.heap.size):=hid (by have:=G9.out.size;have:=Z5.out;omega)
    try simp only [Act.put,List.setIfInBounds_toArray,List.set_cons_zero,List.set_cons_succ]
    refine region8W (⟨[],y9,w4,w4.heap.size,w5.heap.size,wr.heap.size,w.heap.size,s.cpu,x,I,rL,Ar,cr,(!rk),Ao,co,acc,A5,c5⟩:GW) (by kernel_rfl) rfl ⟨by have:=HNB.out;show w4.heap.size<w5.heap.size;omega,HWR.out,HIT.out,Nat.le_refl _,BW4.out.size,HLA.out,HBH.out,HAT.out⟩ rfl rfl (by rfl) (by rfl) (by rfl) (by rfl) HZ9.out W9.out GT.out GI.out ROWY.out ?_
    intro z Av cv hz1 hz2 hz3 hz4 hz5 hz6 v45 v46 v47 v48 v49 v50 v51 v52 v53 v54 v55 v56 v57 v58 v59 v60 v61 v62 v63 v64 v65 v66;have HACC:Hid (acc=(s.items.take j).map (fun i=>(layI i).1)):=hid HI.out.lay;have HBAD:=hid HI.out.bad;have FR:Hid (∀ k,k<w5.heap.size->k≠w4.heap.size->z.heap[k]?=wr.heap[k]?):=hid (fun k h1 h2=>(hz3 k h1 h2).trans ((G9.out.block k (by have:=B5.out.size;have:=HWR.out;omega) (fun e=>by injection e with e;omega)).trans (B5.out.block k (by have:=HWR.out;omega))))
    have HQ:Hid (WQ s w w.heap.size w1.heap.size w4.heap.size w5.heap.size Ar cr (some ad) c (j + 1) (acc++[obO x rL.1]) ((!rk)||rL.2) (.slice Av (acc.length + 1) cv) z):=hid
     ⟨BW4.out.trans (hz1.mono BW4.out.size),by rw [List.take_add_one,HX.out];simp [HACC.out,HLI.out],by
      rw [List.take_add_one,HX.out];have h:=HBAD.out;simp only [Option.toList_some,List.any_append,List.any_cons,List.any_nil,Bool.or_false,HLI.out];rw [<- Bool.or_assoc,<- h]
      rfl,(FR.out _ (by have:=HNB.out;omega) (by have:=HNB.out;omega)).trans HI.out.sht,(FR.out _ (by have:=HNB.out;omega) (by have:=HNB.out;omega)).trans HI.out.z2,hz4,hz5,hz6⟩
    have HZz:Hid (Below w4.heap.size w4 z):=hid hz1;clear hz1 hz2 hz3 hz4 hz5 hz6 FR HI HZ HACC HBAD ROWY HBH HAT GT GI HZ9 W9 G9;rename_i hK hTT
    refine hK _ _ ?_
    simp only [Array.getD_eq_getD_getElem?,List.getElem?_toArray,List.getElem?_cons_zero,List.getElem?_cons_succ,Option.getD_some]
    go_wp2_with fail
    exact ⟨⟨j + 1,acc++[obO x rL.1],((!rk)||rL.2),_,by go_num,by omega,HQ,HZz⟩,by simp [intOf];omega⟩
  ·obtain rfl:j=n:=by omega
   have HACC:Hid (acc=s.items.map (fun i=>(layI i).1)):=hid (by rw [HI.out.lay,List.take_of_length_le (by rw [HN.out];exact Nat.le_refl _)]);have HQB:Hid (badS s=q):=hid (by unfold badS;rw [HI.out.bad,List.take_of_length_le (by rw [HN.out];exact Nat.le_refl _)]);have HLT:Hid (layT s=(⟨ver,s.cpu,acc,false,⟨#[]⟩⟩:ST)):=hid (by unfold layT;rw [HACC.out])
   have HSZ:Hid (∀ o ∈ acc,szL o.f3<=1073741824):=hid (fun o ho=>by
    rw [HACC.out] at ho;obtain ⟨i,hi,rfl⟩:=List.mem_map.1 ho;have h1:=layL_sz tab i.kind i.ents (underR tab i.kind ⟨#[]⟩ ⟨#[]⟩) [] false;have h2:=HS.out i hi;have h3:(layI i).1.f3=(layL tab i.kind (underR tab i.kind ⟨#[]⟩ ⟨#[]⟩) [] false i.ents).1:=rfl;rw [h3];simp only [szL] at h1
    omega)
   have HRD:=hid (read_calls eb (⟨ver,s.cpu,acc,false,⟨#[]⟩⟩:ST) Ao co wr HSZ.out (by show acc.length<=1073741824;rw [HACC.out,List.length_map,HN.out];exact HL.out) (Kd.R_reads' HI.out.obs).2.2 (HG.out.below HI.out.bel) ((HI.out.bel.cell (lC w _ HT.out)).trans HT.out));unfold treC at HRD;have c0:wr.cell? ⟨w5.heap.size,0,none⟩=some (.string ver):=(cell_row HI.out.tre 0).trans rfl;have c1:wr.cell? ⟨w5.heap.size,1,none⟩=some (.string s.cpu):=(cell_row HI.out.tre 1).trans rfl;have c2:wr.cell? ⟨w5.heap.size,2,none⟩=some (.slice Ao acc.length co):=(cell_row HI.out.tre 2).trans rfl;have c3:wr.cell? ⟨w5.heap.size,3,none⟩=some (.bool false):=(cell_row HI.out.tre 3).trans rfl;have c4:wr.cell? ⟨w5.heap.size,4,none⟩=some (.string ⟨#[]⟩):=(cell_row HI.out.tre 4).trans rfl;have tkA:True:=trivial;have tkB:True:=trivial
   go_upto_region 11 with (first
    | (go_at_call 29;refine HRD.out.mono ?_;rintro e u1 hpost;obtain ⟨cp,Bv,cb,code,sp,nm,bi,rfl,hB1,hC1,hor⟩:=read_form hpost;have B1:=hid hB1;have C1:=hid hC1;have HOR:=hid hor;clear hpost hB1 hC1 hor c0 c1 c2 c3 c4)
    | (have _t:=tkA;refine run_event rfl (.alloc 64) rfl (.pointer (some ⟨u1.heap.size,0,none⟩)) (u1.alloc (.cells sh0 64)) (by kernel_rfl) ?_;intro u2 hu2;have B2:Hid (Below u1.heap.size u1 u2):=hid (by rw [hu2];exact alloc_below _ _);have E2:Hid (u2.heap[u1.heap.size]?=some (.cells sh0 64 (0,0))):=hid (by rw [hu2];exact heap_alloc_new _ _);clear hu2 tkA _t)
    | (have _t:=tkB;refine run_event rfl (.alloc 66) rfl (.pointer (some ⟨u2.heap.size,0,none⟩)) (u2.alloc (.cells fa0 66)) (by kernel_rfl) ?_;intro u3 hu3;have B3:Hid (Below u2.heap.size u2 u3):=hid (by rw [hu3];exact alloc_below _ _);have E3:Hid (u3.heap[u2.heap.size]?=some (.cells fa0 66 (0,0))):=hid (by rw [hu3];exact heap_alloc_new _ _);have E23:=hid ((B3.out.block _ (gS.1 E2.out).1).trans E2.out);clear hu3 tkB _t)
    | ((with_reducible refine gate_store (t:=64) (p:=8) rfl ?_);refine put_event rfl 64 _ _ rfl u1.heap.size (shC cp (.slice Bv bi.length cb)) rfl rfl 64 sh0 E23.out (by kernel_rfl) rfl (by simp [Value.oneCell']) u1.heap.size (Nat.le_refl _) ?_;intro u4 hb4 hB4 hs4 ho4;have E4:=hid hb4;have B4:=hid hB4;have E34:=hid ((ho4 u2.heap.size (blk_ne E3.out E23.out (by decide))).trans E3.out);clear hb4 hB4 hs4 ho4)
    | ((with_reducible refine gate_store (t:=66) (p:=9) rfl ?_);refine put_event rfl 66 _ _ rfl u2.heap.size (faC code sp nm) rfl rfl 66 fa0 E34.out (by kernel_rfl) rfl (by simp [Value.oneCell']) u2.heap.size (Nat.le_refl _) ?_;intro u5 hb5 hB5 hs5 ho5;have F5:=hid hb5;have B5:=hid hB5;have S5:=hid ((ho5 u1.heap.size (blk_ne E4.out E34.out (by decide))).trans E4.out);clear hb5 hB5 hs5 ho5))
   have BU1:Hid (Below u1.heap.size u1 u5):=hid (((B2.out.trans (B3.out.mono B2.out.size)).trans B4.out).trans (B5.out.mono B2.out.size));have BU:Hid (Below wr.heap.size wr u5):=hid (B1.out.trans (BU1.out.mono B1.out.size));have CU:=hid (Kd.C_below C1.out BU1.out);have SU:=hid ((BU.out.block _ (gS.1 HI.out.sht).1).trans HI.out.sht);have WU:=hid ((BU.out.block _ (gS.1 HI.out.wri).1).trans HI.out.wri);have TU:=hid ((BU.out.block _ (gS.1 HI.out.tre).1).trans HI.out.tre);have ZU:=hid ((BU.out.block _ (gS.1 HI.out.z2).1).trans HI.out.z2);have BW:Hid (Below w.heap.size w u5):=hid (HI.out.bel.trans (BU.out.mono HI.out.bel.size));have RU:=hid (Kd.R_below HI.out.obs BU.out);clear B1 C1 B2 E2 B3 E3 E23 B4 E4 E34 B5 BU1 HRD BU;obtain ⟨r,hr⟩:∃ r,sameIs false bi s.items=r:=⟨_,rfl⟩;have HEQ:=hid (eqi_calls bi s.items Bv cb A c u5 r (by rw [HN.out];exact HL.out) CU.out (by rw [HN.out];exact Kd.C_below HC.out BW.out) hr (fun x y A7 c7 B7 d7 W q hy hW hC7 hD7 hq=>write1_calls x y A7 c7 B7 d7 W q (HS.out y hy) hC7 hD7 hq));rw [HN.out] at HEQ;have HR:=hid hr;clear hr;have s1:u5.cell? ⟨w.heap.size,1,none⟩=some (.slice A s.items.length c):=(cell_row SU.out 1).trans rfl;rw [HN.out] at s1;have s2:u5.cell? ⟨u1.heap.size,1,none⟩=some (.slice Bv bi.length cb):=(cell_row S5.out 1).trans rfl
   go_upto_region 12 with (first
    | (go_at_call 77;refine HEQ.out.mono ?_;rintro e u6 ⟨rfl,hB6⟩;have B6:=hid hB6;clear hB6 s1 s2))
   have W6:=hid ((B6.out.block _ (gS.1 WU.out).1).trans WU.out);have F6:=hid ((B6.out.block _ (gS.1 F5.out).1).trans F5.out);have T6:=hid ((B6.out.block _ (gS.1 TU.out).1).trans TU.out);have Z6:=hid ((B6.out.block _ (gS.1 ZU.out).1).trans ZU.out);have BW6:Hid (Below w.heap.size w u6):=hid (BW.out.trans (B6.out.mono BW.out.size));have RU6:=hid (Kd.R_below RU.out B6.out);clear WU F5 TU ZU BW RU B6 CU SU S5 HEQ;have k2:u6.cell? ⟨w4.heap.size,2,none⟩=some (.bool q):=(cell_row W6.out 2).trans rfl;have k0:u6.cell? ⟨u2.heap.size,0,none⟩=some (.int .i64 code):=(cell_row F6.out 0).trans rfl
   by_cases hgood:q=false/\code=0/\r=true
   ·obtain ⟨rfl,rfl,rfl⟩:=hgood
    have c0:u6.cell? ⟨w5.heap.size,0,none⟩=some (.string ver):=(cell_row T6.out 0).trans rfl;have c1:u6.cell? ⟨w5.heap.size,1,none⟩=some (.string s.cpu):=(cell_row T6.out 1).trans rfl;have c2:u6.cell? ⟨w5.heap.size,2,none⟩=some (.slice Ao acc.length co):=(cell_row T6.out 2).trans rfl;have c3:u6.cell? ⟨w5.heap.size,3,none⟩=some (.bool false):=(cell_row T6.out 3).trans rfl;have c4:u6.cell? ⟨w5.heap.size,4,none⟩=some (.string ⟨#[]⟩):=(cell_row T6.out 4).trans rfl
    have HWS:Hid (writeS s=some (⟨ver,s.cpu,acc,false,⟨#[]⟩⟩:ST)):=hid (by
     rcases HOR.out with ⟨_,cc,h⟩ | ⟨h,_⟩
     ·rw [<- HLT.out] at h ⊢
      exact write_ok h (by show (badS s||!sameIs false bi s.items)=false;rw [HQB.out,HR.out];rfl)
     ·exact absurd rfl h)
    go_wp2_with (first
     | ((with_reducible refine gate_store (t:=24) (p:=2) rfl ?_);refine put_event rfl 24 _ _ rfl w1.heap.size (trV s.cpu (.slice Ao acc.length co)) rfl rfl 24 tr0 Z6.out (by kernel_rfl) rfl (by simp [Value.oneCell']) w1.heap.size (Nat.le_refl _) ?_;intro u7 hb7 hB7 hs7 ho7;have E7:=hid hb7;have B7:=hid hB7;have O7:=hid ho7;clear hb7 hB7 hs7 ho7 c0 c1 c2 c3 c4 k2 k0))
    have hz:=E7.out
    refine bodyPost_ret (results_list (rs:=[.cell 2 24,.tmp 3]) rfl (by simp) (.cell w1.heap.size 24 (trV s.cpu (.slice Ao acc.length co)) (0,0) _ rfl hz Tryz.underlying24 rfl (by kernel_rfl) (.tmp .nil))) rfl ?_
    refine ⟨BW6.out.trans (B7.out.mono (by have:=HNB.out;omega)),?_⟩
    rw [HWS.out];exact ⟨_,rfl,Kd.R_mono (Kd.R_move RU6.out (fun k hk=>O7.out k (by have:=HNB.out;omega))) (fun _ _=>trivial)⟩
   ·have HWS:Hid (writeS s=none):=hid (by
     rcases HOR.out with ⟨h0,cc,h⟩ | ⟨_,f,h⟩
     ·rw [<- HLT.out] at h
      refine write_bad h ?_
      show (badS s||!sameIs false bi s.items)=true;rw [HQB.out,HR.out];cases q with
      | true=>rfl
      | false =>
       cases r with
       | true=>exact absurd ⟨rfl,h0,rfl⟩ hgood
       | false=>rfl
     ·rw [<- HLT.out] at h
      exact write_er h)
    have fin:True:=trivial
    by_cases hq:q=true
    ·subst hq
     clear hgood
     go_wp2_with (first
      | ((with_reducible refine gate_store (t:=24) (p:=2) rfl ?_);refine put_event rfl 24 _ _ rfl w1.heap.size tr0 rfl rfl 24 tr0 Z6.out (by kernel_rfl) rfl (by simp [Value.oneCell']) w1.heap.size (Nat.le_refl _) ?_;intro u7 hb7 hB7 hs7 ho7;have E7:=hid hb7;have B7:=hid hB7;clear hb7 hB7 hs7 ho7 k2 k0))
     have hz:=E7.out
     refine bodyPost_ret (results_list (rs:=[.cell 2 24,.tmp 3]) rfl (by simp) (.cell w1.heap.size 24 tr0 (0,0) _ rfl hz Tryz.underlying24 rfl (by kernel_rfl) (.tmp .nil))) rfl ?_
     refine ⟨BW6.out.trans (B7.out.mono (by have:=HNB.out;omega)),?_⟩
     rw [HWS.out]
     rfl
    ·have hq0:q=false:=by simpa using hq
     subst hq0
     by_cases hc:code=0
     ·subst hc
      have hr0:r=false:=by
       cases r with
       | false=>rfl
       | true=>exact absurd ⟨rfl,rfl,rfl⟩ hgood
      subst hr0;clear hgood hq
      go_wp2_with (first
       | ((with_reducible refine gate_store (t:=24) (p:=2) rfl ?_);refine put_event rfl 24 _ _ rfl w1.heap.size tr0 rfl rfl 24 tr0 Z6.out (by kernel_rfl) rfl (by simp [Value.oneCell']) w1.heap.size (Nat.le_refl _) ?_;intro u7 hb7 hB7 hs7 ho7;have E7:=hid hb7;have B7:=hid hB7;clear hb7 hB7 hs7 ho7 k2 k0))
      have hz:=E7.out
      refine bodyPost_ret (results_list (rs:=[.cell 2 24,.tmp 3]) rfl (by simp) (.cell w1.heap.size 24 tr0 (0,0) _ rfl hz Tryz.underlying24 rfl (by kernel_rfl) (.tmp .nil))) rfl ?_
      refine ⟨BW6.out.trans (B7.out.mono (by have:=HNB.out;omega)),?_⟩
      rw [HWS.out]
      rfl
     ·have hcb:(code != 0)=true:=by simp [hc]
      clear hgood hq hc
      go_wp2_with (first
       | ((with_reducible refine gate_store (t:=24) (p:=2) rfl ?_);refine put_event rfl 24 _ _ rfl w1.heap.size tr0 rfl rfl 24 tr0 Z6.out (by kernel_rfl) rfl (by simp [Value.oneCell']) w1.heap.size (Nat.le_refl _) ?_;intro u7 hb7 hB7 hs7 ho7;have E7:=hid hb7;have B7:=hid hB7;clear hb7 hB7 hs7 ho7 k2 k0))
      have hz:=E7.out
      refine bodyPost_ret (results_list (rs:=[.cell 2 24,.tmp 3]) rfl (by simp) (.cell w1.heap.size 24 tr0 (0,0) _ rfl hz Tryz.underlying24 rfl (by kernel_rfl) (.tmp .nil))) rfl ?_
      refine ⟨BW6.out.trans (B7.out.mono (by have:=HNB.out;omega)),?_⟩
      rw [HWS.out]
      rfl
end Go.Proofs.YtmfejjlmflgnbaaGreatDoor.Sc

/- CONTRACT: package schema's (*reader).attr: an attribute by its row, given (*reader).attrs for what stands in it. -/
import Derived.Test.YtmfejjlmflgnbaaGreatDoorVVal
set_option linter.unusedVariables false
set_option linter.unusedSimpArgs false
set_option maxRecDepth 100000
namespace Go.Proofs.YtmfejjlmflgnbaaGreatDoor.Sc
open RowKit PA YtmfejjlmflgnbaaGreatDoorW.PrintWords YtmfejjlmflgnbaaGreatDoorW.PrintLast Sp Tr Tok
open Lib (hid)
def flawC (eb:Int->Addr) (f:SF):Array Value:=#[errI eb f.code,.int .i64 f.spot.f0,.int .i64 f.spot.f1,.int .i64 f.spot.f2,.string f.name]
def FlawS (eb:Int->Addr) (w:World) (B b:Nat) (f:SF):Prop:=B<=b/\w.heap[b]?=some (.cells (flawC eb f) 131 (0,0))
abbrev flawP (b:Nat):Value:=.iface 129 (.pointer (some ⟨b,0,none⟩))
def attV (a:SA) (A:Option Addr) (c:Nat):Value:=.agg (attC a A c)
abbrev spotV (sp:SP):Value:=.agg #[.int .i64 sp.f0,.int .i64 sp.f1,.int .i64 sp.f2]
def AttrPost (eb:Int->Addr) (r:Except SF SE) (w:World) (e:Ending) (w':World):Prop :=
 Below w.heap.size w w'/\match r with
  | .ok x=>∃ v,e=.returned (.tuple #[.agg (entC x v),.nilIface])/\Kd.R kEnt 80 w' w.heap.size (fun _=>True) v x.params
  | .error f=>∃ b y,e=.returned (.tuple #[.agg (entC y (.slice none 0 0)),flawP b])/\FlawS eb w' w.heap.size b f
def AttrsPost (eb:Int->Addr) (r:Except SF (List SE)) (sm:Nat) (w:World) (e:Ending) (w':World):Prop :=
 w.grownBy w' (some sm)/\SeenAny w' sm/\match r with
  | .ok out=>∃ v,e=.returned (.tuple #[v,.nilIface])/\Kd.R kEnt 80 w' w.heap.size (fun _=>True) v out
  | .error f=>∃ b,e=.returned (.tuple #[.slice none 0 0,flawP b])/\FlawS eb w' w.heap.size b f
structure RdAt (w:World) (rb sm:Nat) (rs:List SR) (A:Option Addr) (c:Nat):Prop where
 rows:w.cell? ⟨rb,0,none⟩=some (.slice A rs.length c)
 seen:w.cell? ⟨rb,1,none⟩=some (.map (some sm))
 row:Kd.C kRow w A rs.length rs
 map:SeenAny w sm
 df:DfL rs
 len:rs.length<=1000
def AttrsC (eb:Int->Addr) (rs:List SR) (m:Nat):Prop :=
 ∀ (ats:List SA) (obj:ByteArray) (l:List SR) (sp:SP) (rb sm:Nat) (A:Option Addr) (c:Nat) (Al:Option Addr) (cl:Nat) (As:Option Addr) (cs:Nat) (w:World),szL ats<=m->szL ats<=1073741824->RdAt w rb sm rs A c->Kd.C kRow w Al l.length l->DfL l->l.length<=1000->Kd.C k50 w As ats.length ats->EGlob eb w ->
  Calls Tryz.prog 66 #[.pointer (some ⟨rb,0,none⟩),.string obj,.slice Al l.length cl,.slice As ats.length cs,spotV sp] w (AttrsPost eb (listedR rs obj l ats sp) sm w)
theorem reader_worlds {w7 w8:World} {c:Array Value} {T:TypeId} (h:w8=(w7.alloc (.map #[] 0)).alloc (.cells c T)) :
  Hid (Below w7.heap.size w7 w8)/\Hid (SeenAny w8 w7.heap.size)/\Hid (w8.heap[w7.heap.size + 1]?=some (.cells c T (0,0)))/\Hid (w8.heap.size=w7.heap.size + 2):=by
 subst h;have b1:=alloc_below w7 (.map #[] 0);have z1:(w7.alloc (.map #[] 0)).heap.size=w7.heap.size + 1:=by simp
 have s1:=seen_made w7;generalize w7.alloc (.map #[] 0)=w1 at *;have b2:=alloc_below w1 (.cells c T);have z2:(w1.alloc (.cells c T)).heap.size=w1.heap.size + 1:=by simp
 have h2:=heap_alloc_new w1 (.cells c T);have s2:=s1.kept (Go.Proofs.YtmfejjlmflgnbaaGreatDoor.Sc.below_grown (r:=none) b2) (by simp);rw [z1] at h2;exact ⟨hid (b1.trans (b2.mono (by omega))),hid s2,hid h2,hid (by rw [z2,z1])⟩
theorem C_nil {α:Type} (d:Kd α) (w:World) (A:Option Addr):d.C w A 0 []:=⟨rfl,by omega,fun h=>absurd h (by omega)⟩
set_option maxHeartbeats 32000000 in
theorem attr_calls (eb:Int->Addr) (rs:List SR) (m:Nat) (hA:AttrsC eb rs m) (obj:ByteArray) (x:SR) (a:SA) (rb sm:Nat) (A:Option Addr) (c:Nat) (A5:Option Addr) (c5:Nat) (A9:Option Addr) (c9:Nat) (w:World)
  (hm:szL a.f4<=m) (hm2:szL a.f4<=1073741824) (hR:RdAt w rb sm rs A c) (hC5:Kd.C Kd.string w A5 x.words.length x.words) (hC9:Kd.C k50 w A9 a.f4.length a.f4) (hn:x.name=a.f0) (hG:EGlob eb w) :
  Calls Tryz.prog 105 #[.pointer (some ⟨rb,0,none⟩),.string obj,rowV x A5 c5,attV a A9 c9] w (AttrPost eb (attrR rs obj x a) w):=by
 have HA:=hid hA;have HM:=hid hm;have HM2:=hid hm2;have HR:=hid hR;have HC9:=hid hC9;have HG:=hid hG;have HN:=hid hn;have HV:Hid (∀ W,Below w.heap.size w W->Calls Tryz.prog 136 #[rowV x A5 c5,valV a.f2] W (ValPost eb x.name (valR x a.f2 a.f0 z41) W)):=hid (fun W hB=>by rw [<- hn];exact value_calls eb x A5 c5 a.f2 W (Kd.C_below hC5 hB) (hG.below hB));obtain ⟨R,hRes⟩:∃ R,attrR rs obj x a=R:=⟨_,rfl⟩;rw [hRes];unfold attrR at hRes;clear hA hm hm2 hR hC5 hC9 hG hn;obtain ⟨rv,hrv⟩:∃ rv,valR x a.f2 a.f0 z41=rv:=⟨_,rfl⟩;rw [hrv] at HV hRes;have HRV:=hid hrv;clear hrv;unfold rowV rowC valV valC at HV;unfold rowV rowC attV attC;generalize hnw:x.words.length=nw at *;clear hnw
 go_enter Tryz.func105,Tryz.ntmps105
 go_upto_region 1 with fail
 obtain ⟨W0,hW0⟩:∃ W0:World,W0=(((w.alloc (.cells #[.string x.obj,.string x.un,.string x.uw,.string x.name,.int .i64 x.want,.slice A5 nw c5,.int .u32 x.lo,.int .u32 x.hi,.bool x.auto,.int .i64 x.times,.string x.dflt] 60)).alloc (.cells #[.string a.f0,.int .i64 a.f1.f0,.int .i64 a.f1.f1,.int .i64 a.f1.f2,.int .i64 a.f2.f0,.string a.f2.f1,.int .u32 a.f2.f2,.bool a.f2.f3,.bool a.f3,.slice A9 a.f4.length c9,.bool a.f5,.string a.f6] 50)).alloc (.cells #[.string ⟨#[]⟩,.int .i64 0,.int .i64 0,.int .i64 0,.int .u32 0,.bool false,.string ⟨#[]⟩,.slice none 0 0] 80)):=⟨_,rfl⟩;rw [<- hW0];obtain ⟨B0,G1,G2,G3,Z0⟩:=three_worlds hW0;clear hW0;have r0:W0.cell? ⟨w.heap.size,0,none⟩=some (.string x.obj):=(cell_row G1.out 0).trans rfl;have r1:W0.cell? ⟨w.heap.size,1,none⟩=some (.string x.un):=(cell_row G1.out 1).trans rfl;have r2:W0.cell? ⟨w.heap.size,2,none⟩=some (.string x.uw):=(cell_row G1.out 2).trans rfl;have r3:W0.cell? ⟨w.heap.size,3,none⟩=some (.string x.name):=(cell_row G1.out 3).trans rfl;have r4:W0.cell? ⟨w.heap.size,4,none⟩=some (.int .i64 x.want):=(cell_row G1.out 4).trans rfl;have r5:W0.cell? ⟨w.heap.size,5,none⟩=some (.slice A5 nw c5):=(cell_row G1.out 5).trans rfl;have r6:W0.cell? ⟨w.heap.size,6,none⟩=some (.int .u32 x.lo):=(cell_row G1.out 6).trans rfl;have r7:W0.cell? ⟨w.heap.size,7,none⟩=some (.int .u32 x.hi):=(cell_row G1.out 7).trans rfl;have r8:W0.cell? ⟨w.heap.size,8,none⟩=some (.bool x.auto):=(cell_row G1.out 8).trans rfl;have r9:W0.cell? ⟨w.heap.size,9,none⟩=some (.int .i64 x.times):=(cell_row G1.out 9).trans rfl;have r10:W0.cell? ⟨w.heap.size,10,none⟩=some (.string x.dflt):=(cell_row G1.out 10).trans rfl;have v0:W0.cell? ⟨w.heap.size + 1,4,none⟩=some (.int .i64 a.f2.f0):=(cell_row G2.out 4).trans rfl;have v1:W0.cell? ⟨w.heap.size + 1,5,none⟩=some (.string a.f2.f1):=(cell_row G2.out 5).trans rfl;have v2:W0.cell? ⟨w.heap.size + 1,6,none⟩=some (.int .u32 a.f2.f2):=(cell_row G2.out 6).trans rfl;have v3:W0.cell? ⟨w.heap.size + 1,7,none⟩=some (.bool a.f2.f3):=(cell_row G2.out 7).trans rfl;have tk1:True:=trivial;cases rv with
 | error cd =>
  dsimp only at hRes
  go_upto_region 2 with (first
   | (go_at_call 136;refine (HV.out W0 B0.out).mono ?_;rintro e w2 ⟨hB2,rfl⟩;have B02:=hid hB2;clear hB2 r0 r1 r2 r3 r4 r5 r6 r7 r8 r9 r10 v0 v1 v2 v3)
   | (have _t:=tk1;refine run_event rfl (.alloc 80) rfl (.pointer (some ⟨w2.heap.size,0,none⟩)) (w2.alloc (.cells ent0 80)) (by kernel_rfl) ?_;intro w3 hw3;have B23:Hid (Below w2.heap.size w2 w3):=hid (by rw [hw3];exact alloc_below _ _);have E3:Hid (w3.heap[w2.heap.size]?=some (.cells ent0 80 (0,0))):=hid (by rw [hw3];exact heap_alloc_new _ _);have Z3:Hid (w3.heap.size=w2.heap.size + 1):=hid (by rw [hw3];simp);clear hw3 tk1 _t)
   | ((with_reducible refine gate_store (t:=80) (p:=10) rfl ?_);refine put_event rfl 80 _ _ rfl w2.heap.size (entC (nameE x.name) (.slice none 0 0)) rfl rfl 80 ent0 E3.out (by kernel_rfl) rfl (ent_all _ _ _ _) w2.heap.size (Nat.le_refl _) ?_;intro w4 hb4 hB4 hs4 ho4;have E4:=hid hb4;have B24:Hid (Below w2.heap.size w2 w4):=hid (B23.out.trans hB4);have Z4:Hid (w4.heap.size=w2.heap.size + 1):=hid (by rw [hs4,Z3.out]);clear hb4 hB4 hs4 ho4))
  have B04:=hid (B02.out.trans (B24.out.mono B02.out.size));have B4:=hid (B0.out.trans (B04.out.mono B0.out.size));have hz9:w.heap.size + 3<=w2.heap.size:=by have:=B02.out.size;have:=Z0.out;omega
  have P1:=hid ((B04.out.block w.heap.size (by have:=Z0.out;omega)).trans G1.out);have P2:=hid ((B04.out.block (w.heap.size + 1) (by have:=Z0.out;omega)).trans G2.out);have P3:=hid ((B04.out.block (w.heap.size + 2) (by have:=Z0.out;omega)).trans G3.out);clear B02 B23 E3 Z3 B24 B04 G1 G2 G3;subst hRes;have hs7:7<w.heap.size:=lC w _ HG.out.g56
  go_upto_if 24 with fail
  go_wp2_with fail
  obtain ⟨e0,e1,e2,e3,e4,e5,e6,e7⟩:=ent_cells (show w4.heap[w2.heap.size]?=some (.cells #[.string x.name,.int .i64 0,.int .i64 0,.int .i64 0,.int .u32 0,.bool false,.string ⟨#[]⟩,.slice none 0 0] 80 (0,0)) from E4.out);obtain ⟨f0,f1,f2,f3,f4,f5,f6,f7⟩:=ent_cells P3.out;have ff:∀ k,w4.frozen? ⟨w.heap.size + 2,k,none⟩=false:=fun k=>frozen_row P3.out k;have a0:w4.cell? ⟨w.heap.size + 1,0,none⟩=some (.string a.f0):=(cell_row P2.out 0).trans rfl;have a1:w4.cell? ⟨w.heap.size + 1,1,none⟩=some (.int .i64 a.f1.f0):=(cell_row P2.out 1).trans rfl;have a2:w4.cell? ⟨w.heap.size + 1,2,none⟩=some (.int .i64 a.f1.f1):=(cell_row P2.out 2).trans rfl;have a3:w4.cell? ⟨w.heap.size + 1,3,none⟩=some (.int .i64 a.f1.f2):=(cell_row P2.out 3).trans rfl;have hq1:w2.heap.size<w4.heap.size:=by have:=Z4.out;omega
  have hq2:w.heap.size + 2<w4.heap.size:=by have:=Z4.out;omega
  have hq3:w.heap.size + 1<w4.heap.size:=by have:=Z4.out;omega
  have hq4:¬ (w2.heap.size=w.heap.size + 2):=by omega
  have hq5:¬ (w.heap.size + 2=w2.heap.size):=by omega
  go_region
  generalize hwx:World.setCell _ _ (.slice none 0 0)=wx;obtain ⟨hb5,hg5,hz5⟩:=put8 P3.out hwx;clear hwx e0 e1 e2 e3 e4 e5 e6 e7 f0 f1 f2 f3 f4 f5 f6 f7 ff a0 a1 a2 a3;have B5:=hid (B4.out.trans (belowG hg5 (by omega) B4.out.size));have hb6:=hid (((alloc_below wx (.cells (flawC eb ⟨cd,a.f1,a.f0⟩) 131)).block _ (by have:=hz5;omega)).trans hb5);have hb7:=hid (heap_alloc_new wx (.cells (flawC eb ⟨cd,a.f1,a.f0⟩) 131));unfold flawC at hb6 hb7;dsimp only at hb6 hb7
  go_wp2_with fail
  refine bodyPost_ret (results_list (rs:=[.cell 8 80,.tmp 9]) rfl (by simp) (.cell (w.heap.size + 2) 80 #[.string x.name,.int .i64 0,.int .i64 0,.int .i64 0,.int .u32 0,.bool false,.string ⟨#[]⟩,.slice none 0 0] (0,0) _ rfl hb6.out Tryz.underlying80 rfl (by kernel_rfl) (.tmp .nil))) rfl ?_
  rw [<- hz5];exact ⟨(B5.out.trans ((alloc_below wx _).mono B5.out.size)).drew,wx.heap.size,nameE x.name,rfl,by have:=B5.out.size;omega,hb7.out⟩
 | ok en =>
  dsimp only at hRes;obtain ⟨hen1,hen2,hen3⟩:=val_par HRV.out;obtain ⟨en1,en2,em,ea,ew,en6⟩:=en;dsimp only at hen1 hen2 hen3 hRes;subst hen1 hen2 hen3
  go_upto_region 2 with (first
   | (go_at_call 136;refine (HV.out W0 B0.out).mono ?_;rintro e w2 ⟨hB2,rfl⟩;have B02:=hid hB2;clear hB2 r0 r1 r2 r3 r4 r5 r6 r7 r8 r9 r10 v0 v1 v2 v3)
   | (have _t:=tk1;refine run_event rfl (.alloc 80) rfl (.pointer (some ⟨w2.heap.size,0,none⟩)) (w2.alloc (.cells ent0 80)) (by kernel_rfl) ?_;intro w3 hw3;have B23:Hid (Below w2.heap.size w2 w3):=hid (by rw [hw3];exact alloc_below _ _);have E3:Hid (w3.heap[w2.heap.size]?=some (.cells ent0 80 (0,0))):=hid (by rw [hw3];exact heap_alloc_new _ _);have Z3:Hid (w3.heap.size=w2.heap.size + 1):=hid (by rw [hw3];simp);clear hw3 tk1 _t)
   | ((with_reducible refine gate_store (t:=80) (p:=10) rfl ?_);refine put_event rfl 80 _ _ rfl w2.heap.size (entC ⟨a.f0,z41,em,ea,ew,[]⟩ (.slice none 0 0)) rfl rfl 80 ent0 E3.out (by kernel_rfl) rfl (ent_all _ _ _ _) w2.heap.size (Nat.le_refl _) ?_;intro w4 hb4 hB4 hs4 ho4;have E4:=hid hb4;have B24:Hid (Below w2.heap.size w2 w4):=hid (B23.out.trans hB4);have Z4:Hid (w4.heap.size=w2.heap.size + 1):=hid (by rw [hs4,Z3.out]);clear hb4 hB4 hs4 ho4))
  have B04:=hid (B02.out.trans (B24.out.mono B02.out.size));have B4:=hid (B0.out.trans (B04.out.mono B0.out.size));have hz9:w.heap.size + 3<=w2.heap.size:=by have:=B02.out.size;have:=Z0.out;omega
  have P1:=hid ((B04.out.block w.heap.size (by have:=Z0.out;omega)).trans G1.out);have P2:=hid ((B04.out.block (w.heap.size + 1) (by have:=Z0.out;omega)).trans G2.out);have P3:=hid ((B04.out.block (w.heap.size + 2) (by have:=Z0.out;omega)).trans G3.out);clear B02 B23 E3 Z3 B24 B04 G1 G2 G3;have hs7:7<w.heap.size:=lC w _ HG.out.g56;have a1:w4.cell? ⟨w.heap.size + 1,1,none⟩=some (.int .i64 a.f1.f0):=(cell_row P2.out 1).trans rfl;have a2:w4.cell? ⟨w.heap.size + 1,2,none⟩=some (.int .i64 a.f1.f1):=(cell_row P2.out 2).trans rfl;have a3:w4.cell? ⟨w.heap.size + 1,3,none⟩=some (.int .i64 a.f1.f2):=(cell_row P2.out 3).trans rfl
  go_upto_if 24 with fail
  go_upto_region 5 with (first
   | ((with_reducible refine gate_store (t:=41) (p:=36) rfl ?_);refine cells_ev rfl 41 _ _ rfl w2.heap.size 1 [.int .i64 a.f1.f0,.int .i64 a.f1.f1,.int .i64 a.f1.f2] rfl rfl (by simp [Value.oneCell']) (thereR E4.out (by simp [entC])) (by kernel_rfl) ?_;intro w5 hw5;obtain ⟨hr5,hk5,hz5⟩:=row3 E4.out hw5;have E5:Hid (w5.heap[w2.heap.size]?=some (.cells #[.string a.f0,.int .i64 a.f1.f0,.int .i64 a.f1.f1,.int .i64 a.f1.f2,.int .u32 em,.bool ea,.string ew,.slice none 0 0] 80 (0,0))):=hid hr5;have Z5:Hid (w5.heap.size=w2.heap.size + 1):=hid (by rw [hz5,Z4.out]);have B5:Hid (Below w.heap.size w w5):=hid (B4.out.trans (row3B hw5 (by have:=B4.out.size;omega)));have Q1:=hid ((hk5 w.heap.size (by omega)).trans P1.out);have Q2:=hid ((hk5 (w.heap.size + 1) (by omega)).trans P2.out);have Q3:=hid ((hk5 (w.heap.size + 2) (by omega)).trans P3.out);clear hw5 hr5 hk5 hz5 a1 a2 a3))
  clear B4 E4 Z4 P1 P2 P3;have b3:w5.cell? ⟨w.heap.size,4,none⟩=some (.int .i64 x.want):=(cell_row Q1.out 4).trans rfl;have b8:w5.cell? ⟨w.heap.size + 1,8,none⟩=some (.bool a.f3):=(cell_row Q2.out 8).trans rfl
  by_cases h2:x.want=2
  ·have hw2:(x.want != 2)=false:=by simp [h2]
   have hw3:(x.want == 2)=true:=by simp [h2]
   clear hw2 hw3 b3;obtain ⟨I,hI⟩:∃ I,underR rs obj a.f0 ew=I:=⟨_,rfl⟩;have HI:=hid hI;have HIL:Hid (I.length<=1000):=hid (by rw [<- hI];exact Nat.le_trans (under_len _ _ _ _) HR.out.len);have HBH:Hid (∀ W,Below w.heap.size w W->Calls Tryz.prog 67 #[.pointer (some ⟨rb,0,none⟩),.string obj,.string a.f0,.string ew] W fun e w'=>(∃ v,e=.returned v/\Kd.R (Kd.fixed kRow W) 60 w' W.heap.size (fun _=>True) v I)/\Below W.heap.size W w'):=hid (fun W hB=>by rw [<- hI];exact behind_calls rb rs A c obj a.f0 ew W ((hB.cell (lC w _ HR.out.rows)).trans HR.out.rows) (Kd.C_below HR.out.row hB) HR.out.len);clear hI;have hw2:(x.want != 2)=false:=by simp [h2]
   have hw3:(x.want == 2)=true:=by simp [h2]
   have b3:w5.cell? ⟨w.heap.size,4,none⟩=some (.int .i64 x.want):=(cell_row Q1.out 4).trans rfl;have a0:w5.cell? ⟨w.heap.size + 1,0,none⟩=some (.string a.f0):=(cell_row Q2.out 0).trans rfl;have e6:w5.cell? ⟨w2.heap.size,6,none⟩=some (.string ew):=(cell_row E5.out 6).trans rfl
   go_upto_if 39 with fail
   go_upto_region 10 with (first
    | (go_at_call 67;refine (HBH.out w5 B5.out).mono ?_;rintro e w6 ⟨⟨v6,rfl,hR6⟩,hB6⟩;obtain ⟨Ai,ci,rfl⟩:=RForm hR6;have RI:=hid hR6;have B56:=hid hB6;clear hR6 hB6 a0 e6 b3 b8))
   have HCI:Hid (Kd.C kRow w6 Ai I.length I):=hid (by
    obtain ⟨A',c',he,_,hc⟩:=Kd.R_reads RI.out;injection he with hA _ _
    rw [hA]
    exact fixed_C (keeps_below B56.out) hc)
   generalize hNI:I.length=nI at *;have HNI:=hid hNI;clear hNI;have B6:=hid (B5.out.trans (B56.out.mono B5.out.size));have U1:=hid ((B56.out.block w.heap.size (by have:=Z5.out;omega)).trans Q1.out);have U2:=hid ((B56.out.block (w.heap.size + 1) (by have:=Z5.out;omega)).trans Q2.out);have U3:=hid ((B56.out.block (w.heap.size + 2) (by have:=Z5.out;omega)).trans Q3.out);have F6:=hid ((B56.out.block w2.heap.size (by have:=Z5.out;omega)).trans E5.out);have Z6:Hid (w2.heap.size + 1<=w6.heap.size):=hid (by have:=Z5.out;have:=B56.out.size;omega);have un1:w6.cell? ⟨w.heap.size,1,none⟩=some (.string x.un):=(cell_row U1.out 1).trans rfl;clear Q1 Q2 Q3 E5 B5 Z5
   by_cases hu:x.un=⟨#[]⟩
   ·have hin:innerR rs obj x a.f0 ew=I:=by unfold innerR;rw [if_pos ⟨h2,hu⟩,HI.out]
    rw [hin] at hRes;rw [hu] at un1;obtain ⟨rm,hrm⟩:∃ rm,mustR I=rm:=⟨_,rfl⟩
    have HMU:Hid (Calls Tryz.prog 137 #[.slice Ai nI ci,.func (.func 138) #[] #[]] w6 fun e w'=>e=.returned (.bool rm)/\Below w6.heap.size w6 w'):=hid (by
     have h:=must_calls I Ai ci w6 (by rw [HNI.out];exact HCI.out) rm hrm;rw [HNI.out] at h
     exact h)
    rw [hrm] at hRes;clear hrm hin hu;have hemp:I.isEmpty=decide (nI=0):=by rw [<- HNI.out];cases I <;> simp
    rw [hemp] at hRes;clear hemp
    go_upto_region 13 with (first
     | (go_at_call 137;refine HMU.out.mono ?_;rintro e w7 ⟨rfl,hB7⟩;have B67:=hid hB7;clear hB7 un1))
    have B7:=hid (B6.out.trans (B67.out.mono B6.out.size));have S2:=hid ((B67.out.block (w.heap.size + 1) (by have:=Z6.out;omega)).trans U2.out);have S3:=hid ((B67.out.block (w.heap.size + 2) (by have:=Z6.out;omega)).trans U3.out);have F7:=hid ((B67.out.block w2.heap.size (by have:=Z6.out;omega)).trans F6.out);have Z7:Hid (w2.heap.size + 1<=w7.heap.size):=hid (by have:=Z6.out;have:=B67.out.size;omega);have b8:w7.cell? ⟨w.heap.size + 1,8,none⟩=some (.bool a.f3):=(cell_row S2.out 8).trans rfl;clear U1 U2 U3 F6 B6;cases hbr:a.f3 with
    | true =>
     rw [hbr] at hRes b8
     by_cases h0:nI=0
     ·rw [if_pos (by simp [h0])] at hRes
      subst hRes;have hn0:(nI == 0)=true:=by simp [h0]
      have hn1:((nI:Int) == 0)=true:=by simp [h0]
      go_upto_if 79 with fail
      go_wp2_with fail
      obtain ⟨e0,e1,e2,e3,e4,e5,e6,e7⟩:=ent_cells (show w7.heap[w2.heap.size]?=some (.cells #[.string a.f0,.int .i64 a.f1.f0,.int .i64 a.f1.f1,.int .i64 a.f1.f2,.int .u32 em,.bool ea,.string ew,.slice none 0 0] 80 (0,0)) from F7.out);obtain ⟨f0,f1,f2,f3,f4,f5,f6,f7⟩:=ent_cells S3.out;have ff:∀ k,w7.frozen? ⟨w.heap.size + 2,k,none⟩=false:=fun k=>frozen_row S3.out k;have a0:w7.cell? ⟨w.heap.size + 1,0,none⟩=some (.string a.f0):=(cell_row S2.out 0).trans rfl;have a1:w7.cell? ⟨w.heap.size + 1,1,none⟩=some (.int .i64 a.f1.f0):=(cell_row S2.out 1).trans rfl;have a2:w7.cell? ⟨w.heap.size + 1,2,none⟩=some (.int .i64 a.f1.f1):=(cell_row S2.out 2).trans rfl;have a3:w7.cell? ⟨w.heap.size + 1,3,none⟩=some (.int .i64 a.f1.f2):=(cell_row S2.out 3).trans rfl;have hGb:=(HG.out.below B7.out).g56;have hq1:w2.heap.size<w7.heap.size:=by have:=Z7.out;omega
      have hq2:w.heap.size + 2<w7.heap.size:=by have:=Z7.out;omega
      have hq3:w.heap.size + 1<w7.heap.size:=by have:=Z7.out;omega
      have hq4:¬ (w2.heap.size=w.heap.size + 2):=by omega
      have hq5:¬ (w.heap.size + 2=w2.heap.size):=by omega
      go_region
      generalize hwx:World.setCell _ _ (.slice none 0 0)=wx;obtain ⟨hb5,hg5,hz5⟩:=put8 S3.out hwx;clear hwx e0 e1 e2 e3 e4 e5 e6 e7 f0 f1 f2 f3 f4 f5 f6 f7 ff a0 a1 a2 a3;have B5:=hid (B7.out.trans (belowG hg5 (by omega) B7.out.size));have hb6:=hid (((alloc_below wx (.cells (flawC eb ⟨56,a.f1,a.f0⟩) 131)).block _ (by have:=hz5;omega)).trans hb5);have hb7:=hid (heap_alloc_new wx (.cells (flawC eb ⟨56,a.f1,a.f0⟩) 131));unfold flawC at hb6 hb7;dsimp only at hb6 hb7
      go_wp2_with fail
      refine bodyPost_ret (results_list (rs:=[.cell 8 80,.tmp 9]) rfl (by simp) (.cell (w.heap.size + 2) 80 #[.string a.f0,.int .i64 a.f1.f0,.int .i64 a.f1.f1,.int .i64 a.f1.f2,.int .u32 em,.bool ea,.string ew,.slice none 0 0] (0,0) _ rfl hb6.out Tryz.underlying80 rfl (by kernel_rfl) (.tmp .nil))) rfl ?_
      rw [<- hz5];exact ⟨(B5.out.trans ((alloc_below wx _).mono B5.out.size)).drew,wx.heap.size,(⟨a.f0,a.f1,em,ea,ew,[]⟩:SE),rfl,by have:=B5.out.size;omega,hb7.out⟩
     ·rw [if_neg (by simp [h0]),if_neg (by simp [h0])] at hRes
      rw [if_pos rfl] at hRes;have hn0:(nI == 0)=false:=by simp [h0]
      have hn1:((nI:Int) == 0)=false:=by simp;omega
      have hn2:decide (0<nI)=true:=by simp;omega
      have hn3:decide ((0:Int)<(nI:Int))=true:=by simp;omega
      have b9:w7.cell? ⟨w.heap.size + 1,9,none⟩=some (.slice A9 a.f4.length c9):=(cell_row S2.out 9).trans rfl;have hmm:=@run_makeMap Tryz.prog;have rr:w7.cell? ⟨rb,0,none⟩=some (.slice A rs.length c):=(B7.out.cell (lC w _ HR.out.rows)).trans HR.out.rows
      go_upto_if 79 with fail
      go_upto_region 20 with fail
      obtain ⟨w8,hw8⟩:∃ w8:World,w8=((w7.alloc (.map #[] 0)).alloc (.cells #[.slice A rs.length c,.map (some w7.heap.size)] 128)):=⟨_,rfl⟩;rw [<- hw8];obtain ⟨B78,M8,K8,Z8⟩:=reader_worlds hw8;clear hw8;have B8:=hid (B7.out.trans (B78.out.mono B7.out.size));have T2:=hid ((B78.out.block (w.heap.size + 1) (by have:=Z7.out;omega)).trans S2.out);have T3:=hid ((B78.out.block (w.heap.size + 2) (by have:=Z7.out;omega)).trans S3.out);have F8:=hid ((B78.out.block w2.heap.size (by have:=Z7.out;omega)).trans F7.out);have HRD:Hid (RdAt w8 (w7.heap.size + 1) w7.heap.size rs A c):=hid ⟨(cell_row K8.out 0).trans rfl,(cell_row K8.out 1).trans rfl,Kd.C_below HR.out.row B8.out,M8.out,HR.out.df,HR.out.len⟩
      have HAT:Hid (Calls Tryz.prog 66 #[.pointer (some ⟨w7.heap.size + 1,0,none⟩),.string obj,.slice Ai nI ci,.slice A9 a.f4.length c9,spotV a.f1] w8 (AttrsPost eb (listedR rs obj I a.f4 a.f1) w7.heap.size w8)):=hid (by
       have h:=HA.out a.f4 obj I a.f1 (w7.heap.size + 1) w7.heap.size A c Ai ci A9 c9 w8 HM.out HM2.out HRD.out (by rw [HNI.out];exact Kd.C_below HCI.out (B67.out.trans (B78.out.mono B67.out.size))) (by rw [<- HI.out];exact df_under HR.out.df _ _ _) (by have:=HIL.out;rw [HNI.out];omega) (Kd.C_below HC9.out B8.out) (HG.out.below B8.out);rw [HNI.out] at h
       exact h)
      obtain ⟨rl,hrl⟩:∃ rl,listedR rs obj I a.f4 a.f1=rl:=⟨_,rfl⟩;rw [hrl] at hRes HAT;clear hrl;have a1:w8.cell? ⟨w.heap.size + 1,1,none⟩=some (.int .i64 a.f1.f0):=(cell_row T2.out 1).trans rfl;have a2:w8.cell? ⟨w.heap.size + 1,2,none⟩=some (.int .i64 a.f1.f1):=(cell_row T2.out 2).trans rfl;have a3:w8.cell? ⟨w.heap.size + 1,3,none⟩=some (.int .i64 a.f1.f2):=(cell_row T2.out 3).trans rfl;cases rl with
      | ok out =>
       dsimp only at hRes;subst hRes
       go_upto_region 21 with (first
        | (go_at_call 66;refine HAT.out.mono ?_;rintro e w9 ⟨hg9,hs9,v9,rfl,hR9⟩;obtain ⟨Av,cv,rfl⟩:=RForm hR9;have R9:=hid hR9;have B89:=hid (belowG hg9 (Nat.le_refl _) (by have:=Z8.out;omega));clear hg9 hs9 hR9 a1 a2 a3)
        | ((with_reducible refine gate_store (t:=76) (p:=114) rfl ?_);refine cell_event rfl 76 _ _ rfl w2.heap.size 7 (.slice Av out.length cv) rfl rfl rfl (thereR ((B89.out.block w2.heap.size (by have:=Z7.out;omega)).trans ((B78.out.block w2.heap.size (by have:=Z7.out;omega)).trans F7.out)) (by simp)) (by kernel_rfl) w2.heap.size (Nat.le_refl _) ?_;intro w10 hw10 hB10 hs10;obtain ⟨hr10,hk10,hz10⟩:=row1 ((B89.out.block w2.heap.size (by have:=Z7.out;omega)).trans ((B78.out.block w2.heap.size (by have:=Z7.out;omega)).trans F7.out)) hw10;have F10:Hid (w10.heap[w2.heap.size]?=some (.cells #[.string a.f0,.int .i64 a.f1.f0,.int .i64 a.f1.f1,.int .i64 a.f1.f2,.int .u32 em,.bool ea,.string ew,.slice Av out.length cv] 80 (0,0))):=hid hr10;have K10:=hid hk10;have B10:Hid (Below w.heap.size w w10):=hid ((B7.out.trans ((B78.out.mono B7.out.size).trans (B89.out.mono B7.out.size))).trans (hB10.mono (by omega)));have T10:=hid ((hk10 (w.heap.size + 2) (by omega)).trans ((B89.out.block (w.heap.size + 2) (by have:=Z7.out;omega)).trans ((B78.out.block (w.heap.size + 2) (by have:=Z7.out;omega)).trans S3.out)));clear hw10 hr10 hk10 hz10 hB10 hs10))
       obtain ⟨e0,e1,e2,e3,e4,e5,e6,e7⟩:=ent_cells F10.out
       go_wp2_with (first
        | ((with_reducible refine gate_store (t:=80) (p:=8) rfl ?_);refine put_event rfl 80 _ _ rfl (w.heap.size + 2) #[.string a.f0,.int .i64 a.f1.f0,.int .i64 a.f1.f1,.int .i64 a.f1.f2,.int .u32 em,.bool ea,.string ew,.slice Av out.length cv] rfl rfl 80 ent0 T10.out (by kernel_rfl) rfl (by simp [Value.oneCell']) (w.heap.size + 2) (Nat.le_refl _) ?_;intro w12 hb12 hB9 hs9 ho9;have B9:=hid (B10.out.trans (hB9.mono (by omega)));have O9:=hid ho9;clear hB9 hs9 ho9))
       refine bodyPost_ret (results_list (rs:=[.cell 8 80,.tmp 9]) rfl (by simp) (.cell (w.heap.size + 2) 80 #[.string a.f0,.int .i64 a.f1.f0,.int .i64 a.f1.f1,.int .i64 a.f1.f2,.int .u32 em,.bool ea,.string ew,.slice Av out.length cv] (0,0) _ rfl hb12 Tryz.underlying80 rfl (by kernel_rfl) (.tmp .nil))) rfl ?_
       have hRR:Kd.R kEnt 80 w9 w8.heap.size (fun _=>True) (.slice Av out.length cv) out:=R9.out;exact ⟨B9.out,_,rfl,Kd.R_mono (RWide hRR (fun k h1 h2=>(O9.out k (by have:=Z8.out;have:=Z7.out;omega)).trans (K10.out k (by have:=Z8.out;have:=Z7.out;omega))) (by have:=B8.out.size;omega)) (fun _ _=>trivial)⟩
      | error f =>
       dsimp only at hRes;subst hRes
       go_upto_region 21 with (first
        | (go_at_call 66;refine HAT.out.mono ?_;rintro e w9 ⟨hg9,hs9,b9,rfl,hF9⟩;have R9:=hid hF9;have B89:=hid (belowG hg9 (Nat.le_refl _) (by have:=Z8.out;omega));clear hg9 hs9 hF9 a1 a2 a3)
        | ((with_reducible refine gate_store (t:=76) (p:=114) rfl ?_);refine cell_event rfl 76 _ _ rfl w2.heap.size 7 (.slice none 0 0) rfl rfl rfl (thereR ((B89.out.block w2.heap.size (by have:=Z7.out;omega)).trans ((B78.out.block w2.heap.size (by have:=Z7.out;omega)).trans F7.out)) (by simp)) (by kernel_rfl) w2.heap.size (Nat.le_refl _) ?_;intro w10 hw10 hB10 hs10;obtain ⟨hr10,hk10,hz10⟩:=row1 ((B89.out.block w2.heap.size (by have:=Z7.out;omega)).trans ((B78.out.block w2.heap.size (by have:=Z7.out;omega)).trans F7.out)) hw10;have F10:Hid (w10.heap[w2.heap.size]?=some (.cells #[.string a.f0,.int .i64 a.f1.f0,.int .i64 a.f1.f1,.int .i64 a.f1.f2,.int .u32 em,.bool ea,.string ew,.slice none 0 0] 80 (0,0))):=hid hr10;have K10:=hid hk10;have B10:Hid (Below w.heap.size w w10):=hid ((B7.out.trans ((B78.out.mono B7.out.size).trans (B89.out.mono B7.out.size))).trans (hB10.mono (by omega)));have T10:=hid ((hk10 (w.heap.size + 2) (by omega)).trans ((B89.out.block (w.heap.size + 2) (by have:=Z7.out;omega)).trans ((B78.out.block (w.heap.size + 2) (by have:=Z7.out;omega)).trans S3.out)));clear hw10 hr10 hk10 hz10 hB10 hs10))
       obtain ⟨e0,e1,e2,e3,e4,e5,e6,e7⟩:=ent_cells F10.out
       go_wp2_with (first
        | ((with_reducible refine gate_store (t:=80) (p:=8) rfl ?_);refine put_event rfl 80 _ _ rfl (w.heap.size + 2) #[.string a.f0,.int .i64 a.f1.f0,.int .i64 a.f1.f1,.int .i64 a.f1.f2,.int .u32 em,.bool ea,.string ew,.slice none 0 0] rfl rfl 80 ent0 T10.out (by kernel_rfl) rfl (by simp [Value.oneCell']) (w.heap.size + 2) (Nat.le_refl _) ?_;intro w12 hb12 hB9 hs9 ho9;have B9:=hid (B10.out.trans (hB9.mono (by omega)));have O9:=hid ho9;clear hB9 hs9 ho9))
       refine bodyPost_ret (results_list (rs:=[.cell 8 80,.tmp 9]) rfl (by simp) (.cell (w.heap.size + 2) 80 #[.string a.f0,.int .i64 a.f1.f0,.int .i64 a.f1.f1,.int .i64 a.f1.f2,.int .u32 em,.bool ea,.string ew,.slice none 0 0] (0,0) _ rfl hb12 Tryz.underlying80 rfl (by kernel_rfl) (.tmp .nil))) rfl ?_
       exact ⟨B9.out,b9,(⟨a.f0,a.f1,em,ea,ew,[]⟩:SE),rfl,by have:=R9.out.1;have:=B8.out.size;omega,(O9.out b9 (by have:=R9.out.1;have:=Z8.out;have:=Z7.out;omega)).trans ((K10.out b9 (by have:=R9.out.1;have:=Z8.out;have:=Z7.out;omega)).trans R9.out.2)⟩
    | false =>
     rw [hbr] at hRes b8;cases rm with
     | true =>
      rw [if_pos (by rfl)] at hRes;subst hRes
      go_upto_if 79 with fail
      go_wp2_with fail
      obtain ⟨e0,e1,e2,e3,e4,e5,e6,e7⟩:=ent_cells (show w7.heap[w2.heap.size]?=some (.cells #[.string a.f0,.int .i64 a.f1.f0,.int .i64 a.f1.f1,.int .i64 a.f1.f2,.int .u32 em,.bool ea,.string ew,.slice none 0 0] 80 (0,0)) from F7.out);obtain ⟨f0,f1,f2,f3,f4,f5,f6,f7⟩:=ent_cells S3.out;have ff:∀ k,w7.frozen? ⟨w.heap.size + 2,k,none⟩=false:=fun k=>frozen_row S3.out k;have a0:w7.cell? ⟨w.heap.size + 1,0,none⟩=some (.string a.f0):=(cell_row S2.out 0).trans rfl;have a1:w7.cell? ⟨w.heap.size + 1,1,none⟩=some (.int .i64 a.f1.f0):=(cell_row S2.out 1).trans rfl;have a2:w7.cell? ⟨w.heap.size + 1,2,none⟩=some (.int .i64 a.f1.f1):=(cell_row S2.out 2).trans rfl;have a3:w7.cell? ⟨w.heap.size + 1,3,none⟩=some (.int .i64 a.f1.f2):=(cell_row S2.out 3).trans rfl;have hGb:=(HG.out.below B7.out).g56;have hq1:w2.heap.size<w7.heap.size:=by have:=Z7.out;omega
      have hq2:w.heap.size + 2<w7.heap.size:=by have:=Z7.out;omega
      have hq3:w.heap.size + 1<w7.heap.size:=by have:=Z7.out;omega
      have hq4:¬ (w2.heap.size=w.heap.size + 2):=by omega
      have hq5:¬ (w.heap.size + 2=w2.heap.size):=by omega
      go_region
      generalize hwx:World.setCell _ _ (.slice none 0 0)=wx;obtain ⟨hb5,hg5,hz5⟩:=put8 S3.out hwx;clear hwx e0 e1 e2 e3 e4 e5 e6 e7 f0 f1 f2 f3 f4 f5 f6 f7 ff a0 a1 a2 a3;have B5:=hid (B7.out.trans (belowG hg5 (by omega) B7.out.size));have hb6:=hid (((alloc_below wx (.cells (flawC eb ⟨56,a.f1,a.f0⟩) 131)).block _ (by have:=hz5;omega)).trans hb5);have hb7:=hid (heap_alloc_new wx (.cells (flawC eb ⟨56,a.f1,a.f0⟩) 131));unfold flawC at hb6 hb7;dsimp only at hb6 hb7
      go_wp2_with fail
      refine bodyPost_ret (results_list (rs:=[.cell 8 80,.tmp 9]) rfl (by simp) (.cell (w.heap.size + 2) 80 #[.string a.f0,.int .i64 a.f1.f0,.int .i64 a.f1.f1,.int .i64 a.f1.f2,.int .u32 em,.bool ea,.string ew,.slice none 0 0] (0,0) _ rfl hb6.out Tryz.underlying80 rfl (by kernel_rfl) (.tmp .nil))) rfl ?_
      rw [<- hz5];exact ⟨(B5.out.trans ((alloc_below wx _).mono B5.out.size)).drew,wx.heap.size,(⟨a.f0,a.f1,em,ea,ew,[]⟩:SE),rfl,by have:=B5.out.size;omega,hb7.out⟩
     | false =>
      rw [if_neg (by simp)] at hRes
      by_cases h0:nI=0
      ·rw [if_pos (by simp [h0])] at hRes
       subst hRes;have hn2:decide (0<nI)=false:=by simp;omega
       have hn3:decide ((0:Int)<(nI:Int))=false:=by simp;omega
       obtain ⟨e0,e1,e2,e3,e4,e5,e6,e7⟩:=ent_cells F7.out
       go_wp2_with (first
        | ((with_reducible refine gate_store (t:=80) (p:=8) rfl ?_);refine put_event rfl 80 _ _ rfl (w.heap.size + 2) #[.string a.f0,.int .i64 a.f1.f0,.int .i64 a.f1.f1,.int .i64 a.f1.f2,.int .u32 em,.bool ea,.string ew,.slice none 0 0] rfl rfl 80 ent0 S3.out (by kernel_rfl) rfl (by simp [Value.oneCell']) (w.heap.size + 2) (Nat.le_refl _) ?_;intro w12 hb12 hB9 hs9 ho9;have B9:=hid (B7.out.trans (hB9.mono (by omega)));have O9:=hid ho9;clear hB9 hs9 ho9))
       refine bodyPost_ret (results_list (rs:=[.cell 8 80,.tmp 9]) rfl (by simp) (.cell (w.heap.size + 2) 80 #[.string a.f0,.int .i64 a.f1.f0,.int .i64 a.f1.f1,.int .i64 a.f1.f2,.int .u32 em,.bool ea,.string ew,.slice none 0 0] (0,0) _ rfl hb12 Tryz.underlying80 rfl (by kernel_rfl) (.tmp .nil))) rfl ?_
       exact ⟨B9.out,_,rfl,Kd.R_nil _ _ _ _ (fun _=>True)⟩
      ·rw [if_neg (by simp [h0])] at hRes
       rw [if_neg (by simp)] at hRes;have hn2:decide (0<nI)=true:=by simp;omega
       have hn3:decide ((0:Int)<(nI:Int))=true:=by simp;omega
       have b9:w7.cell? ⟨w.heap.size + 1,9,none⟩=some (.slice A9 a.f4.length c9):=(cell_row S2.out 9).trans rfl;have hmm:=@run_makeMap Tryz.prog;have rr:w7.cell? ⟨rb,0,none⟩=some (.slice A rs.length c):=(B7.out.cell (lC w _ HR.out.rows)).trans HR.out.rows
       go_upto_if 79 with fail
       go_upto_region 20 with fail
       obtain ⟨w8,hw8⟩:∃ w8:World,w8=((w7.alloc (.map #[] 0)).alloc (.cells #[.slice A rs.length c,.map (some w7.heap.size)] 128)):=⟨_,rfl⟩;rw [<- hw8];obtain ⟨B78,M8,K8,Z8⟩:=reader_worlds hw8;clear hw8;have B8:=hid (B7.out.trans (B78.out.mono B7.out.size));have T2:=hid ((B78.out.block (w.heap.size + 1) (by have:=Z7.out;omega)).trans S2.out);have T3:=hid ((B78.out.block (w.heap.size + 2) (by have:=Z7.out;omega)).trans S3.out);have F8:=hid ((B78.out.block w2.heap.size (by have:=Z7.out;omega)).trans F7.out);have HRD:Hid (RdAt w8 (w7.heap.size + 1) w7.heap.size rs A c):=hid ⟨(cell_row K8.out 0).trans rfl,(cell_row K8.out 1).trans rfl,Kd.C_below HR.out.row B8.out,M8.out,HR.out.df,HR.out.len⟩
       have HAT:Hid (Calls Tryz.prog 66 #[.pointer (some ⟨w7.heap.size + 1,0,none⟩),.string obj,.slice Ai nI ci,.slice none 0 0,spotV a.f1] w8 (AttrsPost eb (listedR rs obj I [] a.f1) w7.heap.size w8)):=hid (by
        have h:=HA.out [] obj I a.f1 (w7.heap.size + 1) w7.heap.size A c Ai ci none 0 w8 (by simp [szL]) (by simp [szL]) HRD.out (by rw [HNI.out];exact Kd.C_below HCI.out (B67.out.trans (B78.out.mono B67.out.size))) (by rw [<- HI.out];exact df_under HR.out.df _ _ _) (by have:=HIL.out;rw [HNI.out];omega) (C_nil _ _ _) (HG.out.below B8.out);rw [HNI.out] at h
        exact h)
       obtain ⟨rl,hrl⟩:∃ rl,listedR rs obj I [] a.f1=rl:=⟨_,rfl⟩;rw [hrl] at hRes HAT;clear hrl;have a1:w8.cell? ⟨w.heap.size + 1,1,none⟩=some (.int .i64 a.f1.f0):=(cell_row T2.out 1).trans rfl;have a2:w8.cell? ⟨w.heap.size + 1,2,none⟩=some (.int .i64 a.f1.f1):=(cell_row T2.out 2).trans rfl;have a3:w8.cell? ⟨w.heap.size + 1,3,none⟩=some (.int .i64 a.f1.f2):=(cell_row T2.out 3).trans rfl;cases rl with
       | ok out =>
        dsimp only at hRes;subst hRes
        go_upto_region 21 with (first
         | (go_at_call 66;refine HAT.out.mono ?_;rintro e w9 ⟨hg9,hs9,v9,rfl,hR9⟩;obtain ⟨Av,cv,rfl⟩:=RForm hR9;have R9:=hid hR9;have B89:=hid (belowG hg9 (Nat.le_refl _) (by have:=Z8.out;omega));clear hg9 hs9 hR9 a1 a2 a3)
         | ((with_reducible refine gate_store (t:=76) (p:=114) rfl ?_);refine cell_event rfl 76 _ _ rfl w2.heap.size 7 (.slice Av out.length cv) rfl rfl rfl (thereR ((B89.out.block w2.heap.size (by have:=Z7.out;omega)).trans ((B78.out.block w2.heap.size (by have:=Z7.out;omega)).trans F7.out)) (by simp)) (by kernel_rfl) w2.heap.size (Nat.le_refl _) ?_;intro w10 hw10 hB10 hs10;obtain ⟨hr10,hk10,hz10⟩:=row1 ((B89.out.block w2.heap.size (by have:=Z7.out;omega)).trans ((B78.out.block w2.heap.size (by have:=Z7.out;omega)).trans F7.out)) hw10;have F10:Hid (w10.heap[w2.heap.size]?=some (.cells #[.string a.f0,.int .i64 a.f1.f0,.int .i64 a.f1.f1,.int .i64 a.f1.f2,.int .u32 em,.bool ea,.string ew,.slice Av out.length cv] 80 (0,0))):=hid hr10;have K10:=hid hk10;have B10:Hid (Below w.heap.size w w10):=hid ((B7.out.trans ((B78.out.mono B7.out.size).trans (B89.out.mono B7.out.size))).trans (hB10.mono (by omega)));have T10:=hid ((hk10 (w.heap.size + 2) (by omega)).trans ((B89.out.block (w.heap.size + 2) (by have:=Z7.out;omega)).trans ((B78.out.block (w.heap.size + 2) (by have:=Z7.out;omega)).trans S3.out)));clear hw10 hr10 hk10 hz10 hB10 hs10))
        obtain ⟨e0,e1,e2,e3,e4,e5,e6,e7⟩:=ent_cells F10.out
        go_wp2_with (first
         | ((with_reducible refine gate_store (t:=80) (p:=8) rfl ?_);refine put_event rfl 80 _ _ rfl (w.heap.size + 2) #[.string a.f0,.int .i64 a.f1.f0,.int .i64 a.f1.f1,.int .i64 a.f1.f2,.int .u32 em,.bool ea,.string ew,.slice Av out.length cv] rfl rfl 80 ent0 T10.out (by kernel_rfl) rfl (by simp [Value.oneCell']) (w.heap.size + 2) (Nat.le_refl _) ?_;intro w12 hb12 hB9 hs9 ho9;have B9:=hid (B10.out.trans (hB9.mono (by omega)));have O9:=hid ho9;clear hB9 hs9 ho9))
        refine bodyPost_ret (results_list (rs:=[.cell 8 80,.tmp 9]) rfl (by simp) (.cell (w.heap.size + 2) 80 #[.string a.f0,.int .i64 a.f1.f0,.int .i64 a.f1.f1,.int .i64 a.f1.f2,.int .u32 em,.bool ea,.string ew,.slice Av out.length cv] (0,0) _ rfl hb12 Tryz.underlying80 rfl (by kernel_rfl) (.tmp .nil))) rfl ?_
        have hRR:Kd.R kEnt 80 w9 w8.heap.size (fun _=>True) (.slice Av out.length cv) out:=R9.out;exact ⟨B9.out,_,rfl,Kd.R_mono (RWide hRR (fun k h1 h2=>(O9.out k (by have:=Z8.out;have:=Z7.out;omega)).trans (K10.out k (by have:=Z8.out;have:=Z7.out;omega))) (by have:=B8.out.size;omega)) (fun _ _=>trivial)⟩
       | error f =>
        dsimp only at hRes;subst hRes
        go_upto_region 21 with (first
         | (go_at_call 66;refine HAT.out.mono ?_;rintro e w9 ⟨hg9,hs9,b9,rfl,hF9⟩;have R9:=hid hF9;have B89:=hid (belowG hg9 (Nat.le_refl _) (by have:=Z8.out;omega));clear hg9 hs9 hF9 a1 a2 a3)
         | ((with_reducible refine gate_store (t:=76) (p:=114) rfl ?_);refine cell_event rfl 76 _ _ rfl w2.heap.size 7 (.slice none 0 0) rfl rfl rfl (thereR ((B89.out.block w2.heap.size (by have:=Z7.out;omega)).trans ((B78.out.block w2.heap.size (by have:=Z7.out;omega)).trans F7.out)) (by simp)) (by kernel_rfl) w2.heap.size (Nat.le_refl _) ?_;intro w10 hw10 hB10 hs10;obtain ⟨hr10,hk10,hz10⟩:=row1 ((B89.out.block w2.heap.size (by have:=Z7.out;omega)).trans ((B78.out.block w2.heap.size (by have:=Z7.out;omega)).trans F7.out)) hw10;have F10:Hid (w10.heap[w2.heap.size]?=some (.cells #[.string a.f0,.int .i64 a.f1.f0,.int .i64 a.f1.f1,.int .i64 a.f1.f2,.int .u32 em,.bool ea,.string ew,.slice none 0 0] 80 (0,0))):=hid hr10;have K10:=hid hk10;have B10:Hid (Below w.heap.size w w10):=hid ((B7.out.trans ((B78.out.mono B7.out.size).trans (B89.out.mono B7.out.size))).trans (hB10.mono (by omega)));have T10:=hid ((hk10 (w.heap.size + 2) (by omega)).trans ((B89.out.block (w.heap.size + 2) (by have:=Z7.out;omega)).trans ((B78.out.block (w.heap.size + 2) (by have:=Z7.out;omega)).trans S3.out)));clear hw10 hr10 hk10 hz10 hB10 hs10))
        obtain ⟨e0,e1,e2,e3,e4,e5,e6,e7⟩:=ent_cells F10.out
        go_wp2_with (first
         | ((with_reducible refine gate_store (t:=80) (p:=8) rfl ?_);refine put_event rfl 80 _ _ rfl (w.heap.size + 2) #[.string a.f0,.int .i64 a.f1.f0,.int .i64 a.f1.f1,.int .i64 a.f1.f2,.int .u32 em,.bool ea,.string ew,.slice none 0 0] rfl rfl 80 ent0 T10.out (by kernel_rfl) rfl (by simp [Value.oneCell']) (w.heap.size + 2) (Nat.le_refl _) ?_;intro w12 hb12 hB9 hs9 ho9;have B9:=hid (B10.out.trans (hB9.mono (by omega)));have O9:=hid ho9;clear hB9 hs9 ho9))
        refine bodyPost_ret (results_list (rs:=[.cell 8 80,.tmp 9]) rfl (by simp) (.cell (w.heap.size + 2) 80 #[.string a.f0,.int .i64 a.f1.f0,.int .i64 a.f1.f1,.int .i64 a.f1.f2,.int .u32 em,.bool ea,.string ew,.slice none 0 0] (0,0) _ rfl hb12 Tryz.underlying80 rfl (by kernel_rfl) (.tmp .nil))) rfl ?_
        exact ⟨B9.out,b9,(⟨a.f0,a.f1,em,ea,ew,[]⟩:SE),rfl,by have:=R9.out.1;have:=B8.out.size;omega,(O9.out b9 (by have:=R9.out.1;have:=Z8.out;have:=Z7.out;omega)).trans ((K10.out b9 (by have:=R9.out.1;have:=Z8.out;have:=Z7.out;omega)).trans R9.out.2)⟩
   ·have hin:innerR rs obj x a.f0 ew=[]:=by unfold innerR;rw [if_neg (fun h=>hu h.2)]
    rw [hin] at hRes
    have hu1:x.un.toList.isEmpty=false:=by
     rw [ByteArray.toList_eq];cases h:x.un.data.toList with
     | nil=>exact absurd (ByteArray.ext (Array.toList_inj.1 h)) hu
     | cons q r=>rfl
    have hu2:(x.un.toList == [])=false:=by
     rw [ByteArray.toList_eq];cases h:x.un.data.toList with
     | nil=>exact absurd (ByteArray.ext (Array.toList_inj.1 h)) hu
     | cons q r=>rfl
    have HMU:Hid (Calls Tryz.prog 137 #[.slice none 0 0,.func (.func 138) #[] #[]] w6 fun e w'=>e=.returned (.bool false)/\Below w6.heap.size w6 w'):=hid (must_calls [] none 0 w6 (C_nil _ _ _) false rfl);clear hin hu
    go_upto_region 13 with (first
     | (go_at_call 137;refine HMU.out.mono ?_;rintro e w7 ⟨rfl,hB7⟩;have B67:=hid hB7;clear hB7 un1))
    have B7:=hid (B6.out.trans (B67.out.mono B6.out.size));have S2:=hid ((B67.out.block (w.heap.size + 1) (by have:=Z6.out;omega)).trans U2.out);have S3:=hid ((B67.out.block (w.heap.size + 2) (by have:=Z6.out;omega)).trans U3.out);have F7:=hid ((B67.out.block w2.heap.size (by have:=Z6.out;omega)).trans F6.out);have Z7:Hid (w2.heap.size + 1<=w7.heap.size):=hid (by have:=Z6.out;have:=B67.out.size;omega);have b8:w7.cell? ⟨w.heap.size + 1,8,none⟩=some (.bool a.f3):=(cell_row S2.out 8).trans rfl;clear U1 U2 U3 F6 B6;cases hbr:a.f3 with
    | true =>
     rw [hbr] at hRes b8;rw [if_pos (by rfl)] at hRes;subst hRes
     go_upto_if 79 with fail
     go_wp2_with fail
     obtain ⟨e0,e1,e2,e3,e4,e5,e6,e7⟩:=ent_cells (show w7.heap[w2.heap.size]?=some (.cells #[.string a.f0,.int .i64 a.f1.f0,.int .i64 a.f1.f1,.int .i64 a.f1.f2,.int .u32 em,.bool ea,.string ew,.slice none 0 0] 80 (0,0)) from F7.out);obtain ⟨f0,f1,f2,f3,f4,f5,f6,f7⟩:=ent_cells S3.out;have ff:∀ k,w7.frozen? ⟨w.heap.size + 2,k,none⟩=false:=fun k=>frozen_row S3.out k;have a0:w7.cell? ⟨w.heap.size + 1,0,none⟩=some (.string a.f0):=(cell_row S2.out 0).trans rfl;have a1:w7.cell? ⟨w.heap.size + 1,1,none⟩=some (.int .i64 a.f1.f0):=(cell_row S2.out 1).trans rfl;have a2:w7.cell? ⟨w.heap.size + 1,2,none⟩=some (.int .i64 a.f1.f1):=(cell_row S2.out 2).trans rfl;have a3:w7.cell? ⟨w.heap.size + 1,3,none⟩=some (.int .i64 a.f1.f2):=(cell_row S2.out 3).trans rfl;have hGb:=(HG.out.below B7.out).g56;have hq1:w2.heap.size<w7.heap.size:=by have:=Z7.out;omega
     have hq2:w.heap.size + 2<w7.heap.size:=by have:=Z7.out;omega
     have hq3:w.heap.size + 1<w7.heap.size:=by have:=Z7.out;omega
     have hq4:¬ (w2.heap.size=w.heap.size + 2):=by omega
     have hq5:¬ (w.heap.size + 2=w2.heap.size):=by omega
     go_region
     generalize hwx:World.setCell _ _ (.slice none 0 0)=wx;obtain ⟨hb5,hg5,hz5⟩:=put8 S3.out hwx;clear hwx e0 e1 e2 e3 e4 e5 e6 e7 f0 f1 f2 f3 f4 f5 f6 f7 ff a0 a1 a2 a3;have B5:=hid (B7.out.trans (belowG hg5 (by omega) B7.out.size));have hb6:=hid (((alloc_below wx (.cells (flawC eb ⟨56,a.f1,a.f0⟩) 131)).block _ (by have:=hz5;omega)).trans hb5);have hb7:=hid (heap_alloc_new wx (.cells (flawC eb ⟨56,a.f1,a.f0⟩) 131));unfold flawC at hb6 hb7;dsimp only at hb6 hb7
     go_wp2_with fail
     refine bodyPost_ret (results_list (rs:=[.cell 8 80,.tmp 9]) rfl (by simp) (.cell (w.heap.size + 2) 80 #[.string a.f0,.int .i64 a.f1.f0,.int .i64 a.f1.f1,.int .i64 a.f1.f2,.int .u32 em,.bool ea,.string ew,.slice none 0 0] (0,0) _ rfl hb6.out Tryz.underlying80 rfl (by kernel_rfl) (.tmp .nil))) rfl ?_
     rw [<- hz5];exact ⟨(B5.out.trans ((alloc_below wx _).mono B5.out.size)).drew,wx.heap.size,(⟨a.f0,a.f1,em,ea,ew,[]⟩:SE),rfl,by have:=B5.out.size;omega,hb7.out⟩
    | false =>
     rw [hbr] at hRes b8;rw [if_neg (by decide),if_pos (by rfl)] at hRes;subst hRes;obtain ⟨e0,e1,e2,e3,e4,e5,e6,e7⟩:=ent_cells F7.out
     go_wp2_with (first
      | ((with_reducible refine gate_store (t:=80) (p:=8) rfl ?_);refine put_event rfl 80 _ _ rfl (w.heap.size + 2) #[.string a.f0,.int .i64 a.f1.f0,.int .i64 a.f1.f1,.int .i64 a.f1.f2,.int .u32 em,.bool ea,.string ew,.slice none 0 0] rfl rfl 80 ent0 S3.out (by kernel_rfl) rfl (by simp [Value.oneCell']) (w.heap.size + 2) (Nat.le_refl _) ?_;intro w12 hb12 hB9 hs9 ho9;have B9:=hid (B7.out.trans (hB9.mono (by omega)));have O9:=hid ho9;clear hB9 hs9 ho9))
     refine bodyPost_ret (results_list (rs:=[.cell 8 80,.tmp 9]) rfl (by simp) (.cell (w.heap.size + 2) 80 #[.string a.f0,.int .i64 a.f1.f0,.int .i64 a.f1.f1,.int .i64 a.f1.f2,.int .u32 em,.bool ea,.string ew,.slice none 0 0] (0,0) _ rfl hb12 Tryz.underlying80 rfl (by kernel_rfl) (.tmp .nil))) rfl ?_
     exact ⟨B9.out,_,rfl,Kd.R_nil _ _ _ _ (fun _=>True)⟩
  ·have hw2:(x.want != 2)=true:=by simp [h2]
   have hw3:(x.want == 2)=false:=by simp [h2]
   have hin:innerR rs obj x a.f0 ew=[]:=by unfold innerR;rw [if_neg (fun h=>h2 h.1)]
   rw [hin] at hRes;cases hbr:a.f3 with
   | true =>
    rw [hbr] at hRes;rw [if_pos (by rfl)] at hRes;subst hRes;rw [hbr] at b8
    go_wp2_with fail
    obtain ⟨e0,e1,e2,e3,e4,e5,e6,e7⟩:=ent_cells (show w5.heap[w2.heap.size]?=some (.cells #[.string a.f0,.int .i64 a.f1.f0,.int .i64 a.f1.f1,.int .i64 a.f1.f2,.int .u32 em,.bool ea,.string ew,.slice none 0 0] 80 (0,0)) from E5.out);obtain ⟨f0,f1,f2,f3,f4,f5,f6,f7⟩:=ent_cells Q3.out;have ff:∀ k,w5.frozen? ⟨w.heap.size + 2,k,none⟩=false:=fun k=>frozen_row Q3.out k;have a0:w5.cell? ⟨w.heap.size + 1,0,none⟩=some (.string a.f0):=(cell_row Q2.out 0).trans rfl;have a1:w5.cell? ⟨w.heap.size + 1,1,none⟩=some (.int .i64 a.f1.f0):=(cell_row Q2.out 1).trans rfl;have a2:w5.cell? ⟨w.heap.size + 1,2,none⟩=some (.int .i64 a.f1.f1):=(cell_row Q2.out 2).trans rfl;have a3:w5.cell? ⟨w.heap.size + 1,3,none⟩=some (.int .i64 a.f1.f2):=(cell_row Q2.out 3).trans rfl;have hGb:=(HG.out.below B5.out).g56;have hq1:w2.heap.size<w5.heap.size:=by have:=Z5.out;omega
    have hq2:w.heap.size + 2<w5.heap.size:=by have:=Z5.out;omega
    have hq3:w.heap.size + 1<w5.heap.size:=by have:=Z5.out;omega
    have hq4:¬ (w2.heap.size=w.heap.size + 2):=by omega
    have hq5:¬ (w.heap.size + 2=w2.heap.size):=by omega
    go_region
    generalize hwx:World.setCell _ _ (.slice none 0 0)=wx;obtain ⟨hb5,hg5,hz5⟩:=put8 Q3.out hwx;clear hwx e0 e1 e2 e3 e4 e5 e6 e7 f0 f1 f2 f3 f4 f5 f6 f7 ff a0 a1 a2 a3;have B5:=hid (B5.out.trans (belowG hg5 (by omega) B5.out.size));have hb6:=hid (((alloc_below wx (.cells (flawC eb ⟨56,a.f1,a.f0⟩) 131)).block _ (by have:=hz5;omega)).trans hb5);have hb7:=hid (heap_alloc_new wx (.cells (flawC eb ⟨56,a.f1,a.f0⟩) 131));unfold flawC at hb6 hb7;dsimp only at hb6 hb7
    go_wp2_with fail
    refine bodyPost_ret (results_list (rs:=[.cell 8 80,.tmp 9]) rfl (by simp) (.cell (w.heap.size + 2) 80 #[.string a.f0,.int .i64 a.f1.f0,.int .i64 a.f1.f1,.int .i64 a.f1.f2,.int .u32 em,.bool ea,.string ew,.slice none 0 0] (0,0) _ rfl hb6.out Tryz.underlying80 rfl (by kernel_rfl) (.tmp .nil))) rfl ?_
    rw [<- hz5];exact ⟨(B5.out.trans ((alloc_below wx _).mono B5.out.size)).drew,wx.heap.size,(⟨a.f0,a.f1,em,ea,ew,[]⟩:SE),rfl,by have:=B5.out.size;omega,hb7.out⟩
   | false =>
    rw [hbr] at hRes;rw [if_neg (by decide),if_pos (by rfl)] at hRes;subst hRes;rw [hbr] at b8;obtain ⟨e0,e1,e2,e3,e4,e5,e6,e7⟩:=ent_cells E5.out
    go_wp2_with (first
     | ((with_reducible refine gate_store (t:=80) (p:=8) rfl ?_);refine put_event rfl 80 _ _ rfl (w.heap.size + 2) #[.string a.f0,.int .i64 a.f1.f0,.int .i64 a.f1.f1,.int .i64 a.f1.f2,.int .u32 em,.bool ea,.string ew,.slice none 0 0] rfl rfl 80 ent0 Q3.out (by kernel_rfl) rfl (by simp [Value.oneCell']) (w.heap.size + 2) (Nat.le_refl _) ?_;intro w12 hb12 hB9 hs9 ho9;have B9:=hid (B5.out.trans (hB9.mono (by omega)));have O9:=hid ho9;clear hB9 hs9 ho9))
    refine bodyPost_ret (results_list (rs:=[.cell 8 80,.tmp 9]) rfl (by simp) (.cell (w.heap.size + 2) 80 #[.string a.f0,.int .i64 a.f1.f0,.int .i64 a.f1.f1,.int .i64 a.f1.f2,.int .u32 em,.bool ea,.string ew,.slice none 0 0] (0,0) _ rfl hb12 Tryz.underlying80 rfl (by kernel_rfl) (.tmp .nil))) rfl ?_
    exact ⟨B9.out,_,rfl,Kd.R_nil _ _ _ _ (fun _=>True)⟩
end Go.Proofs.YtmfejjlmflgnbaaGreatDoor.Sc

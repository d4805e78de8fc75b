/- CONTRACT: package schema's value: a value by its row. -/
import Derived.Test.YtmfejjlmflgnbaaGreatDoorVKinds
import Derived.RegionTactic
import Derived.Laws.RangeString
import Derived.Maps.Own
import Derived.Maps.Views
import Derived.StringKeys
set_option linter.unusedVariables false
set_option linter.unusedSimpArgs false
set_option maxRecDepth 100000
set_option maxHeartbeats 64000000
namespace Go.Proofs.YtmfejjlmflgnbaaGreatDoor.Sc
open RowKit PA YtmfejjlmflgnbaaGreatDoorW.PrintWords YtmfejjlmflgnbaaGreatDoorW.PrintLast Sp Tr Tok
open Lib (hid)
structure EGlob (eb:Int->Addr) (w:World):Prop where
 g50:w.cell? ⟨0,0,none⟩=some (.iface 341 (.pointer (some (eb 50))))
 g51:w.cell? ⟨1,0,none⟩=some (.iface 341 (.pointer (some (eb 51))))
 g52:w.cell? ⟨5,0,none⟩=some (.iface 341 (.pointer (some (eb 52))))
 g53:w.cell? ⟨6,0,none⟩=some (.iface 341 (.pointer (some (eb 53))))
 g54:w.cell? ⟨3,0,none⟩=some (.iface 341 (.pointer (some (eb 54))))
 g55:w.cell? ⟨2,0,none⟩=some (.iface 341 (.pointer (some (eb 55))))
 g56:w.cell? ⟨7,0,none⟩=some (.iface 341 (.pointer (some (eb 56))))
 apart:∀ i j:Int,50<=i->i<=56->50<=j->j<=56->eb i=eb j->i=j
 blk:∀ i:Int,50<=i->i<=56->∃ c t,w.heap[(eb i).block]?=some (.cells c t (0,0))
theorem EGlob.keeps {eb:Int->Addr} {w w':World} (h:EGlob eb w) (hk:Keeps w w'):EGlob eb w' :=
 ⟨hk _ _ h.g50,hk _ _ h.g51,hk _ _ h.g52,hk _ _ h.g53,hk _ _ h.g54,hk _ _ h.g55,hk _ _ h.g56,h.apart,fun i h1 h2=>by
  obtain ⟨c,t,e⟩:=h.blk i h1 h2
  exact ⟨c,t,hk.blk _ _ _ e⟩⟩
theorem EGlob.below {eb:Int->Addr} {w w':World} (h:EGlob eb w) (hB:Below w.heap.size w w'):EGlob eb w':=h.keeps (keeps_below hB)
abbrev errI (eb:Int->Addr) (c:Int):Value:=.iface 341 (.pointer (some (eb c)))
def valC (v:SV):Array Value:=#[.int .i64 v.f0,.string v.f1,.int .u32 v.f2,.bool v.f3]
def valV (v:SV):Value:=.agg (valC v)
def nameE (n:ByteArray):SE:=⟨n,z41,0,false,⟨#[]⟩,[]⟩
theorem four_worlds {w W0:World} {a b c d:Array Value} {A B C D:TypeId} (h:W0=(((w.alloc (.cells a A)).alloc (.cells b B)).alloc (.cells c C)).alloc (.cells d D)) :
  Hid (Below w.heap.size w W0)/\Hid (W0.heap[w.heap.size]?=some (.cells a A (0,0)))/\Hid (W0.heap[w.heap.size + 1]?=some (.cells b B (0,0)))/\Hid (W0.heap[w.heap.size + 2]?=some (.cells c C (0,0)))/\Hid (W0.heap[w.heap.size + 3]?=some (.cells d D (0,0)))/\Hid (W0.heap.size=w.heap.size + 4):=by
 subst h;have b1:=alloc_below w (.cells a A);have z1:(w.alloc (.cells a A)).heap.size=w.heap.size + 1:=by simp
 have h1:=heap_alloc_new w (.cells a A);generalize w.alloc (.cells a A)=w1 at *;have b2:=alloc_below w1 (.cells b B);have z2:(w1.alloc (.cells b B)).heap.size=w1.heap.size + 1:=by simp
 have h2:=heap_alloc_new w1 (.cells b B);generalize w1.alloc (.cells b B)=w2 at *;have b3:=alloc_below w2 (.cells c C);have z3:(w2.alloc (.cells c C)).heap.size=w2.heap.size + 1:=by simp
 have h3:=heap_alloc_new w2 (.cells c C);generalize w2.alloc (.cells c C)=w3 at *;have b4:=alloc_below w3 (.cells d D);have z4:(w3.alloc (.cells d D)).heap.size=w3.heap.size + 1:=by simp
 have h4:=heap_alloc_new w3 (.cells d D);generalize w3.alloc (.cells d D)=w4 at *;have e1:=(b2.block w.heap.size (by omega)).trans h1;have e2:=(b3.block w.heap.size (by omega)).trans e1;have e3:=(b4.block w.heap.size (by omega)).trans e2;have f2:=(b3.block w1.heap.size (by omega)).trans h2;have f3:=(b4.block w1.heap.size (by omega)).trans f2;have g3:=(b4.block w2.heap.size (by omega)).trans h3;rw [z1] at f3;rw [z2,z1] at g3;rw [z3,z2,z1] at h4;exact ⟨hid (b1.trans ((b2.mono (by omega)).trans ((b3.mono (by omega)).trans (b4.mono (by omega))))),hid e3,hid f3,hid g3,hid h4,hid (by rw [z4,z3,z2,z1])⟩
theorem ent_cells {w:World} {g:Nat} {a0 a1 a2 a3 a4 a5 a6 a7:Value} {t:TypeId} (h:w.heap[g]?=some (.cells #[a0,a1,a2,a3,a4,a5,a6,a7] t (0,0))) :
  w.cell? ⟨g,0,none⟩=some a0/\w.cell? ⟨g,1,none⟩=some a1/\w.cell? ⟨g,2,none⟩=some a2/\w.cell? ⟨g,3,none⟩=some a3/\w.cell? ⟨g,4,none⟩=some a4/\w.cell? ⟨g,5,none⟩=some a5/\w.cell? ⟨g,6,none⟩=some a6/\w.cell? ⟨g,7,none⟩=some a7 :=
 ⟨(cell_row h 0).trans rfl,(cell_row h 1).trans rfl,(cell_row h 2).trans rfl,(cell_row h 3).trans rfl,(cell_row h 4).trans rfl,(cell_row h 5).trans rfl,(cell_row h 6).trans rfl,(cell_row h 7).trans rfl⟩
theorem put8 {w4 w5:World} {g:Nat} {t:TypeId} {b0 b1 b2 b3 b4 b5 b6 b7:Value} (h:w4.heap[g]?=some (.cells #[b0,b1,b2,b3,b4,b5,b6,b7] t (0,0))) {a0 a1 a2 a3 a4 a5 a6 a7:Value}
  (hw:((((((((w4.setCell ⟨g,0,none⟩ a0).setCell ⟨g,1,none⟩ a1).setCell ⟨g,2,none⟩ a2).setCell ⟨g,3,none⟩ a3).setCell ⟨g,4,none⟩ a4).setCell ⟨g,5,none⟩ a5).setCell ⟨g,6,none⟩ a6).setCell ⟨g,7,none⟩ a7)=w5) :
  w5.heap[g]?=some (.cells #[a0,a1,a2,a3,a4,a5,a6,a7] t (0,0))/\w4.grownBy w5 (some g)/\w5.heap.size=w4.heap.size:=by
 subst hw;have hz:∀ (W:World) (j:Nat) (u:Value),(W.setCell ⟨g,j,none⟩ u).heap.size=W.heap.size:=fun W j u=>by simp [World.setCell]
 have h0:(w4.setCell ⟨g,0,none⟩ a0).heap[g]?=some (.cells #[a0,b1,b2,b3,b4,b5,b6,b7] t (0,0)):=setCell_row h a0;have h1:((w4.setCell ⟨g,0,none⟩ a0).setCell ⟨g,1,none⟩ a1).heap[g]?=some (.cells #[a0,a1,b2,b3,b4,b5,b6,b7] t (0,0)):=setCell_row h0 a1;have h2:(((w4.setCell ⟨g,0,none⟩ a0).setCell ⟨g,1,none⟩ a1).setCell ⟨g,2,none⟩ a2).heap[g]?=some (.cells #[a0,a1,a2,b3,b4,b5,b6,b7] t (0,0)):=setCell_row h1 a2;have h3:((((w4.setCell ⟨g,0,none⟩ a0).setCell ⟨g,1,none⟩ a1).setCell ⟨g,2,none⟩ a2).setCell ⟨g,3,none⟩ a3).heap[g]?=some (.cells #[a0,a1,a2,a3,b4,b5,b6,b7] t (0,0)):=setCell_row h2 a3;have h4:(((((w4.setCell ⟨g,0,none⟩ a0).setCell ⟨g,1,none⟩ a1).setCell ⟨g,2,none⟩ a2).setCell ⟨g,3,none⟩ a3).setCell ⟨g,4,none⟩ a4).heap[g]?=some (.cells #[a0,a1,a2,a3,a4,b5,b6,b7] t (0,0)):=setCell_row h3 a4;have h5:((((((w4.setCell ⟨g,0,none⟩ a0).setCell ⟨g,1,none⟩ a1).setCell ⟨g,2,none⟩ a2).setCell ⟨g,3,none⟩ a3).setCell ⟨g,4,none⟩ a4).setCell ⟨g,5,none⟩ a5).heap[g]?=some (.cells #[a0,a1,a2,a3,a4,a5,b6,b7] t (0,0)):=setCell_row h4 a5;have h6:(((((((w4.setCell ⟨g,0,none⟩ a0).setCell ⟨g,1,none⟩ a1).setCell ⟨g,2,none⟩ a2).setCell ⟨g,3,none⟩ a3).setCell ⟨g,4,none⟩ a4).setCell ⟨g,5,none⟩ a5).setCell ⟨g,6,none⟩ a6).heap[g]?=some (.cells #[a0,a1,a2,a3,a4,a5,a6,b7] t (0,0)):=setCell_row h5 a6;have h7:((((((((w4.setCell ⟨g,0,none⟩ a0).setCell ⟨g,1,none⟩ a1).setCell ⟨g,2,none⟩ a2).setCell ⟨g,3,none⟩ a3).setCell ⟨g,4,none⟩ a4).setCell ⟨g,5,none⟩ a5).setCell ⟨g,6,none⟩ a6).setCell ⟨g,7,none⟩ a7).heap[g]?=some (.cells #[a0,a1,a2,a3,a4,a5,a6,a7] t (0,0)):=setCell_row h6 a7
 refine ⟨h7,(((((((setCell_grown _ _ _ _).trans (setCell_grown _ _ _ _)).trans (setCell_grown _ _ _ _)).trans (setCell_grown _ _ _ _)).trans (setCell_grown _ _ _ _)).trans (setCell_grown _ _ _ _)).trans (setCell_grown _ _ _ _)).trans (setCell_grown _ _ _ _),?_⟩
 rw [hz,hz,hz,hz,hz,hz,hz,hz]
def ValPost (eb:Int->Addr) (n:ByteArray) (r:Except Int SE) (w:World) (e:Ending) (w':World):Prop :=
 Below w.heap.size w w'/\match r with
  | .ok x=>e=.returned (.tuple #[.agg (entC x (.slice none 0 0)),.nilIface])
  | .error c=>e=.returned (.tuple #[.agg (entC (nameE n) (.slice none 0 0)),errI eb c])
theorem value_calls (eb:Int->Addr) (x:SR) (A:Option Addr) (c:Nat) (v:SV) (w:World) (hC:Kd.C Kd.string w A x.words.length x.words) (hG:EGlob eb w) :
  Calls Tryz.prog 136 #[rowV x A c,valV v] w (ValPost eb x.name (valR x v x.name z41) w):=by
 have HG:=hid hG;have HCT:Hid (∀ W,Below w.heap.size w W->Calls Tryz.prog 65 #[.slice A x.words.length c,.string v.f1] W fun e w'=>e=.returned (.bool (inB x.words v.f1))/\W=w'):=hid (fun W hB=>(scontains_calls x.words v.f1 A c W (Kd.C_below hC hB) _ rfl).mono fun e w' ⟨h1,h2⟩=>⟨h1,h2.symm⟩);clear hC hG;obtain ⟨k,t,vn,vh⟩:=v;obtain ⟨xo,xn,xw,xm,want,words,lo,hi,auto,times,dflt⟩:=x;unfold rowV rowC valV valC valR;dsimp only at HCT ⊢;generalize hnw:words.length=nw at HCT ⊢;clear hnw;generalize hcb:inB words t=cb at HCT ⊢;clear hcb
 obtain ⟨R,hR⟩:∃ R,(if want=1 then
   if (auto&&decide (k=1)&&decide (t=sAuto))=true then (Except.ok ⟨xm,z41,0,true,⟨#[]⟩,[]⟩:Except Int SE)
   else if k≠2 then .error 52 else if vn<lo∨hi<vn then .error 53 else .ok ⟨xm,z41,vn,false,⟨#[]⟩,[]⟩
  else if want=4 then if k≠3∨(0<nw/\cb=false) then .error 52 else .ok ⟨xm,z41,0,false,t,[]⟩
  else if k≠1∨(want=2/\cb=false) then .error 52 else .ok ⟨xm,z41,0,false,t,[]⟩)=R:=⟨_,rfl⟩
 rw [hR]
 go_enter Tryz.func136,Tryz.ntmps136
 go_upto_region 2 with fail
 obtain ⟨W0,hW0⟩:∃ W0:World,W0=((((w.alloc (.cells #[.string xo,.string xn,.string xw,.string xm,.int .i64 want,.slice A nw c,.int .u32 lo,.int .u32 hi,.bool auto,.int .i64 times,.string dflt] 60)).alloc (.cells #[.int .i64 k,.string t,.int .u32 vn,.bool vh] 48)).alloc (.cells #[.string ⟨#[]⟩,.int .i64 0,.int .i64 0,.int .i64 0,.int .u32 0,.bool false,.string ⟨#[]⟩,.slice none 0 0] 80)).alloc (.cells #[.string xm,.int .i64 0,.int .i64 0,.int .i64 0,.int .u32 0,.bool false,.string ⟨#[]⟩,.slice none 0 0] 80)):=⟨_,rfl⟩;rw [<- hW0];obtain ⟨B0,G1,G2,G3,G4,Z0⟩:=four_worlds hW0;clear hW0;have G0:=hid (HG.out.below B0.out);have r3:W0.cell? ⟨w.heap.size,4,none⟩=some (.int .i64 want):=(cell_row G1.out 4).trans rfl;have r4:W0.cell? ⟨w.heap.size,5,none⟩=some (.slice A nw c):=(cell_row G1.out 5).trans rfl;have r5:W0.cell? ⟨w.heap.size,6,none⟩=some (.int .u32 lo):=(cell_row G1.out 6).trans rfl;have r6:W0.cell? ⟨w.heap.size,7,none⟩=some (.int .u32 hi):=(cell_row G1.out 7).trans rfl;have r7:W0.cell? ⟨w.heap.size,8,none⟩=some (.bool auto):=(cell_row G1.out 8).trans rfl;have v0:W0.cell? ⟨w.heap.size + 1,0,none⟩=some (.int .i64 k):=(cell_row G2.out 0).trans rfl;have v1:W0.cell? ⟨w.heap.size + 1,1,none⟩=some (.string t):=(cell_row G2.out 1).trans rfl;have v2:W0.cell? ⟨w.heap.size + 1,2,none⟩=some (.int .u32 vn):=(cell_row G2.out 2).trans rfl;have HER:Hid (∀ (cd:Int) (w5:World),w5.heap[w.heap.size + 2]?=some (.cells #[.string xm,.int .i64 0,.int .i64 0,.int .i64 0,.int .u32 0,.bool false,.string ⟨#[]⟩,.slice none 0 0] 80 (0,0))->W0.grownBy w5 (some (w.heap.size + 2))->ValPost eb xm (.error cd) w (.returned (.tuple #[.agg #[.string xm,.int .i64 0,.int .i64 0,.int .i64 0,.int .u32 0,.bool false,.string ⟨#[]⟩,.slice none 0 0],errI eb cd])) w5.drew):=hid (fun cd w5 _ hg=>⟨(B0.out.trans (belowG hg (by omega) B0.out.size)).drew,rfl⟩);have HOK:Hid (∀ (e:SE) (w5:World),Below w.heap.size w w5->ValPost eb xm (.ok e) w (.returned (.tuple #[.agg (entC e (.slice none 0 0)),.nilIface])) w5):=hid (fun e w5 hB=>⟨hB,rfl⟩);have hs7:7<w.heap.size:=lC w _ HG.out.g56;have hGk:=G0.out.g52;have hGr:=G0.out.g53
 by_cases h1:want=1
 ·have hw1:(want == 1)=true:=by simp [h1]
  rw [if_pos h1] at hR;cases hau:(auto&&decide (k=1)&&decide (t=sAuto)) with
  | true =>
   rw [hau,if_pos rfl] at hR;simp only [Bool.and_eq_true,decide_eq_true_eq] at hau;obtain ⟨⟨rfl,rfl⟩,rfl⟩:=hau;subst hR
   go_wp2_with (first
    | (go_at_call 65;refine (HCT.out W0 B0.out).mono ?_;rintro e w2 ⟨rfl,rfl⟩)
    | ((with_reducible refine gate_store (t:=4) (p:=35) rfl ?_);refine cell_event rfl 4 _ _ rfl (w.heap.size + 3) 5 (.bool true) rfl rfl rfl (thereR G4.out (by simp)) (by kernel_rfl) (w.heap.size + 3) (Nat.le_refl _) ?_;intro w3 hw3 hB3 hs3;obtain ⟨hr3,hk3,hz3⟩:=row1 G4.out hw3;have T3:=hid ((hk3 (w.heap.size + 2) (by omega)).trans G3.out);have E3:Hid (w3.heap[w.heap.size + 3]?=some (.cells #[.string xm,.int .i64 0,.int .i64 0,.int .i64 0,.int .u32 0,.bool true,.string ⟨#[]⟩,.slice none 0 0] 80 (0,0))):=hid hr3;have B3:Hid (Below w.heap.size w w3):=hid (B0.out.trans (hB3.mono (by omega)));obtain ⟨e0,e1,e2,e3,e4,e5,e6,e7⟩:=ent_cells E3.out;clear hw3 hB3 hs3 hr3 hk3 hz3 r3 r4 r5 r6 r7 v0 v1 v2)
    | ((with_reducible refine gate_store (t:=80) (p:=4) rfl ?_);refine put_event rfl 80 _ _ rfl (w.heap.size + 2) #[.string xm,.int .i64 0,.int .i64 0,.int .i64 0,.int .u32 0,.bool true,.string ⟨#[]⟩,.slice none 0 0] rfl rfl 80 ent0 T3.out (by kernel_rfl) rfl (by simp [Value.oneCell']) (w.heap.size + 2) (Nat.le_refl _) ?_;intro w4 hb4 hB4 hs4 ho4;have B4:=hid (B3.out.trans (hB4.mono (by omega)));clear hB4 hs4 ho4 e0 e1 e2 e3 e4 e5 e6 e7))
   refine bodyPost_ret (results_list (rs:=[.cell 4 80,.tmp 5]) rfl (by simp) (.cell (w.heap.size + 2) 80 #[.string xm,.int .i64 0,.int .i64 0,.int .i64 0,.int .u32 0,.bool true,.string ⟨#[]⟩,.slice none 0 0] (0,0) _ rfl hb4 Tryz.underlying80 rfl (by kernel_rfl) (.tmp .nil))) rfl ?_
   exact HOK.out ⟨xm,z41,0,true,⟨#[]⟩,[]⟩ w4 B4.out
  | false =>
   rw [hau] at hR;rw [if_neg (show ¬ (false=true) by decide)] at hR;have hpk:∃ q1 q2:Bool,(k == 1)=q1/\(t.toList == [65,85,84,79])=q2/\(auto&&(q1&&q2))=false:=⟨_,_,rfl,rfl,by rw [show ([65,85,84,79]:List UInt8)=sAuto.toList from by rw [ByteArray.toList_eq],beq_str];rw [Bool.and_assoc] at hau;exact hau⟩;obtain ⟨q1,q2,hq1,hq2,hqq⟩:=hpk;have hcb3:auto=false∨(auto=true/\q1=false)∨(auto=true/\q1=true/\q2=false):=by cases auto <;> cases q1 <;> cases q2 <;> simp_all
   clear hau
   by_cases hk2:k=2
   ·have hcb3:auto=false∨(auto=true/\q1=false):=by
     rcases hcb3 with h | ⟨h,h'⟩ | ⟨h,h',h''⟩
     ·exact Or.inl h
     ·exact Or.inr ⟨h,h'⟩
     ·rw [<- hq1,hk2] at h';exact absurd h' (by decide)
    have hk3:(k != 2)=false:=by simp [hk2]
    have hk4:(k == 2)=true:=by simp [hk2]
    rw [if_neg (show ¬ (k≠2) by simp [hk2])] at hR
    by_cases hlo:vn<lo
    ·rw [if_pos (Or.inl hlo)] at hR
     have hlo1:decide (vn<lo)=true:=by simp [hlo]
     clear HOK;rcases hcb3 with rfl | ⟨rfl,rfl⟩
     all_goals
      subst hR
      go_upto_region 12 with (first
       | (go_at_call 65;refine (HCT.out W0 B0.out).mono ?_;rintro e w2 ⟨rfl,rfl⟩))
      obtain ⟨e0,e1,e2,e3,e4,e5,e6,e7⟩:=ent_cells G4.out;obtain ⟨f0,f1,f2,f3,f4,f5,f6,f7⟩:=ent_cells G3.out;have ff:∀ k,W0.frozen? ⟨w.heap.size + 2,k,none⟩=false:=fun k=>frozen_row G3.out k
      go_region
      generalize hwx:World.setCell _ _ (.slice none 0 0)=wx;obtain ⟨hb5,hg5,hz5⟩:=put8 G3.out hwx;clear hwx e0 e1 e2 e3 e4 e5 e6 e7 f0 f1 f2 f3 f4 f5 f6 f7 ff
      go_wp2_with fail
      refine bodyPost_ret (results_list (rs:=[.cell 4 80,.tmp 5]) rfl (by simp) (.cell (w.heap.size + 2) 80 #[.string xm,.int .i64 0,.int .i64 0,.int .i64 0,.int .u32 0,.bool false,.string ⟨#[]⟩,.slice none 0 0] (0,0) _ rfl hb5 Tryz.underlying80 rfl (by kernel_rfl) (.tmp .nil))) rfl ?_
      exact HER.out 53 wx hb5 hg5
    ·have hlo1:decide (vn<lo)=false:=by simp [hlo]
     by_cases hhi:hi<vn
     ·rw [if_pos (Or.inr hhi)] at hR
      have hhi1:decide (hi<vn)=true:=by simp [hhi]
      rcases hcb3 with rfl | ⟨rfl,rfl⟩
      all_goals
       subst hR
       go_upto_region 12 with (first
        | (go_at_call 65;refine (HCT.out W0 B0.out).mono ?_;rintro e w2 ⟨rfl,rfl⟩))
       obtain ⟨e0,e1,e2,e3,e4,e5,e6,e7⟩:=ent_cells G4.out;obtain ⟨f0,f1,f2,f3,f4,f5,f6,f7⟩:=ent_cells G3.out;have ff:∀ k,W0.frozen? ⟨w.heap.size + 2,k,none⟩=false:=fun k=>frozen_row G3.out k
       go_region
       generalize hwx:World.setCell _ _ (.slice none 0 0)=wx;obtain ⟨hb5,hg5,hz5⟩:=put8 G3.out hwx;clear hwx e0 e1 e2 e3 e4 e5 e6 e7 f0 f1 f2 f3 f4 f5 f6 f7 ff
       go_wp2_with fail
       refine bodyPost_ret (results_list (rs:=[.cell 4 80,.tmp 5]) rfl (by simp) (.cell (w.heap.size + 2) 80 #[.string xm,.int .i64 0,.int .i64 0,.int .i64 0,.int .u32 0,.bool false,.string ⟨#[]⟩,.slice none 0 0] (0,0) _ rfl hb5 Tryz.underlying80 rfl (by kernel_rfl) (.tmp .nil))) rfl ?_
       exact HER.out 53 wx hb5 hg5
     ·have hhi1:decide (hi<vn)=false:=by simp [hhi]
      rw [if_neg (by rintro (h | h);exact hlo h;exact hhi h)] at hR;rcases hcb3 with rfl | ⟨rfl,rfl⟩
      all_goals
       subst hR
       go_wp2_with (first
        | (go_at_call 65;refine (HCT.out W0 B0.out).mono ?_;rintro e w2 ⟨rfl,rfl⟩)
        | ((with_reducible refine gate_store (t:=46) (p:=21) rfl ?_);refine cell_event rfl 46 _ _ rfl (w.heap.size + 3) 4 (.int .u32 vn) rfl rfl rfl (thereR G4.out (by simp)) (by kernel_rfl) (w.heap.size + 3) (Nat.le_refl _) ?_;intro w3 hw3 hB3 hs3;obtain ⟨hr3,hk3,hz3⟩:=row1 G4.out hw3;have T3:=hid ((hk3 (w.heap.size + 2) (by omega)).trans G3.out);have E3:Hid (w3.heap[w.heap.size + 3]?=some (.cells #[.string xm,.int .i64 0,.int .i64 0,.int .i64 0,.int .u32 vn,.bool false,.string ⟨#[]⟩,.slice none 0 0] 80 (0,0))):=hid hr3;have B3:Hid (Below w.heap.size w w3):=hid (B0.out.trans (hB3.mono (by omega)));obtain ⟨e0,e1,e2,e3,e4,e5,e6,e7⟩:=ent_cells E3.out;clear hw3 hB3 hs3 hr3 hk3 hz3 r3 r4 r5 r6 r7 v0 v1 v2)
        | ((with_reducible refine gate_store (t:=80) (p:=4) rfl ?_);refine put_event rfl 80 _ _ rfl (w.heap.size + 2) #[.string xm,.int .i64 0,.int .i64 0,.int .i64 0,.int .u32 vn,.bool false,.string ⟨#[]⟩,.slice none 0 0] rfl rfl 80 ent0 T3.out (by kernel_rfl) rfl (by simp [Value.oneCell']) (w.heap.size + 2) (Nat.le_refl _) ?_;intro w4 hb4 hB4 hs4 ho4;have B4:=hid (B3.out.trans (hB4.mono (by omega)));clear hB4 hs4 ho4 e0 e1 e2 e3 e4 e5 e6 e7))
       refine bodyPost_ret (results_list (rs:=[.cell 4 80,.tmp 5]) rfl (by simp) (.cell (w.heap.size + 2) 80 #[.string xm,.int .i64 0,.int .i64 0,.int .i64 0,.int .u32 vn,.bool false,.string ⟨#[]⟩,.slice none 0 0] (0,0) _ rfl hb4 Tryz.underlying80 rfl (by kernel_rfl) (.tmp .nil))) rfl ?_
       exact HOK.out ⟨xm,z41,vn,false,⟨#[]⟩,[]⟩ w4 B4.out
   ·have hk3:(k != 2)=true:=by simp [hk2]
    have hk4:(k == 2)=false:=by simp [hk2]
    rw [if_pos hk2] at hR;rcases hcb3 with rfl | ⟨rfl,rfl⟩ | ⟨rfl,rfl,rfl⟩
    all_goals
     subst hR
     go_upto_region 10 with (first
      | (go_at_call 65;refine (HCT.out W0 B0.out).mono ?_;rintro e w2 ⟨rfl,rfl⟩))
     obtain ⟨e0,e1,e2,e3,e4,e5,e6,e7⟩:=ent_cells G4.out;obtain ⟨f0,f1,f2,f3,f4,f5,f6,f7⟩:=ent_cells G3.out;have ff:∀ k,W0.frozen? ⟨w.heap.size + 2,k,none⟩=false:=fun k=>frozen_row G3.out k
     go_region
     generalize hwx:World.setCell _ _ (.slice none 0 0)=wx;obtain ⟨hb5,hg5,hz5⟩:=put8 G3.out hwx;clear hwx e0 e1 e2 e3 e4 e5 e6 e7 f0 f1 f2 f3 f4 f5 f6 f7 ff
     go_wp2_with fail
     refine bodyPost_ret (results_list (rs:=[.cell 4 80,.tmp 5]) rfl (by simp) (.cell (w.heap.size + 2) 80 #[.string xm,.int .i64 0,.int .i64 0,.int .i64 0,.int .u32 0,.bool false,.string ⟨#[]⟩,.slice none 0 0] (0,0) _ rfl hb5 Tryz.underlying80 rfl (by kernel_rfl) (.tmp .nil))) rfl ?_
     exact HER.out 52 wx hb5 hg5
 ·have hw1:(want == 1)=false:=by simp [h1]
  rw [if_neg h1] at hR
  by_cases h4:want=4
  ·have hw4:(want == 4)=true:=by simp [h4]
   rw [if_pos h4] at hR
   by_cases hk3:k=3
   ·have hk4:(k != 3)=false:=by simp [hk3]
    have hk5:(k == 3)=true:=by simp [hk3]
    rcases Nat.eq_zero_or_pos nw with hz | hz
    ·have hwq:¬ 0<nw:=by omega
     rw [if_neg (by rintro (h | h);exact h hk3;exact hwq h.1)] at hR;clear hwq;subst hz;subst hR
     go_wp2_with (first
      | (go_at_call 65;refine (HCT.out W0 B0.out).mono ?_;rintro e w2 ⟨rfl,rfl⟩)
      | ((with_reducible refine gate_store (t:=9) (p:=96) rfl ?_);refine cell_event rfl 9 _ _ rfl (w.heap.size + 3) 6 (.string t) rfl rfl rfl (thereR G4.out (by simp)) (by kernel_rfl) (w.heap.size + 3) (Nat.le_refl _) ?_;intro w3 hw3 hB3 hs3;obtain ⟨hr3,hk3,hz3⟩:=row1 G4.out hw3;have T3:=hid ((hk3 (w.heap.size + 2) (by omega)).trans G3.out);have E3:Hid (w3.heap[w.heap.size + 3]?=some (.cells #[.string xm,.int .i64 0,.int .i64 0,.int .i64 0,.int .u32 0,.bool false,.string t,.slice none 0 0] 80 (0,0))):=hid hr3;have B3:Hid (Below w.heap.size w w3):=hid (B0.out.trans (hB3.mono (by omega)));obtain ⟨e0,e1,e2,e3,e4,e5,e6,e7⟩:=ent_cells E3.out;clear hw3 hB3 hs3 hr3 hk3 hz3 r3 r4 r5 r6 r7 v0 v1 v2)
      | ((with_reducible refine gate_store (t:=80) (p:=4) rfl ?_);refine put_event rfl 80 _ _ rfl (w.heap.size + 2) #[.string xm,.int .i64 0,.int .i64 0,.int .i64 0,.int .u32 0,.bool false,.string t,.slice none 0 0] rfl rfl 80 ent0 T3.out (by kernel_rfl) rfl (by simp [Value.oneCell']) (w.heap.size + 2) (Nat.le_refl _) ?_;intro w4 hb4 hB4 hs4 ho4;have B4:=hid (B3.out.trans (hB4.mono (by omega)));clear hB4 hs4 ho4 e0 e1 e2 e3 e4 e5 e6 e7))
     refine bodyPost_ret (results_list (rs:=[.cell 4 80,.tmp 5]) rfl (by simp) (.cell (w.heap.size + 2) 80 #[.string xm,.int .i64 0,.int .i64 0,.int .i64 0,.int .u32 0,.bool false,.string t,.slice none 0 0] (0,0) _ rfl hb4 Tryz.underlying80 rfl (by kernel_rfl) (.tmp .nil))) rfl ?_
     exact HOK.out ⟨xm,z41,0,false,t,[]⟩ w4 B4.out
    ·have hwq:0<nw:=hz
     have hz1:decide (0<nw)=true:=by simp [hz]
     have hz2:decide ((0:Int)<(nw:Int))=true:=by simp [hz]
     cases cb with
     | true =>
      rw [if_neg (by rintro (h | h);exact h hk3;exact absurd h.2 (by simp))] at hR;clear hwq;subst hR
      go_wp2_with (first
       | (go_at_call 65;refine (HCT.out W0 B0.out).mono ?_;rintro e w2 ⟨rfl,rfl⟩)
       | ((with_reducible refine gate_store (t:=9) (p:=96) rfl ?_);refine cell_event rfl 9 _ _ rfl (w.heap.size + 3) 6 (.string t) rfl rfl rfl (thereR G4.out (by simp)) (by kernel_rfl) (w.heap.size + 3) (Nat.le_refl _) ?_;intro w3 hw3 hB3 hs3;obtain ⟨hr3,hk3,hz3⟩:=row1 G4.out hw3;have T3:=hid ((hk3 (w.heap.size + 2) (by omega)).trans G3.out);have E3:Hid (w3.heap[w.heap.size + 3]?=some (.cells #[.string xm,.int .i64 0,.int .i64 0,.int .i64 0,.int .u32 0,.bool false,.string t,.slice none 0 0] 80 (0,0))):=hid hr3;have B3:Hid (Below w.heap.size w w3):=hid (B0.out.trans (hB3.mono (by omega)));obtain ⟨e0,e1,e2,e3,e4,e5,e6,e7⟩:=ent_cells E3.out;clear hw3 hB3 hs3 hr3 hk3 hz3 r3 r4 r5 r6 r7 v0 v1 v2)
       | ((with_reducible refine gate_store (t:=80) (p:=4) rfl ?_);refine put_event rfl 80 _ _ rfl (w.heap.size + 2) #[.string xm,.int .i64 0,.int .i64 0,.int .i64 0,.int .u32 0,.bool false,.string t,.slice none 0 0] rfl rfl 80 ent0 T3.out (by kernel_rfl) rfl (by simp [Value.oneCell']) (w.heap.size + 2) (Nat.le_refl _) ?_;intro w4 hb4 hB4 hs4 ho4;have B4:=hid (B3.out.trans (hB4.mono (by omega)));clear hB4 hs4 ho4 e0 e1 e2 e3 e4 e5 e6 e7))
      refine bodyPost_ret (results_list (rs:=[.cell 4 80,.tmp 5]) rfl (by simp) (.cell (w.heap.size + 2) 80 #[.string xm,.int .i64 0,.int .i64 0,.int .i64 0,.int .u32 0,.bool false,.string t,.slice none 0 0] (0,0) _ rfl hb4 Tryz.underlying80 rfl (by kernel_rfl) (.tmp .nil))) rfl ?_
      exact HOK.out ⟨xm,z41,0,false,t,[]⟩ w4 B4.out
     | false =>
      rw [if_pos (Or.inr ⟨hwq,rfl⟩)] at hR;clear hwq;subst hR
      go_upto_region 16 with (first
       | (go_at_call 65;refine (HCT.out W0 B0.out).mono ?_;rintro e w2 ⟨rfl,rfl⟩))
      obtain ⟨e0,e1,e2,e3,e4,e5,e6,e7⟩:=ent_cells G4.out;obtain ⟨f0,f1,f2,f3,f4,f5,f6,f7⟩:=ent_cells G3.out;have ff:∀ k,W0.frozen? ⟨w.heap.size + 2,k,none⟩=false:=fun k=>frozen_row G3.out k
      go_region
      generalize hwx:World.setCell _ _ (.slice none 0 0)=wx;obtain ⟨hb5,hg5,hz5⟩:=put8 G3.out hwx;clear hwx e0 e1 e2 e3 e4 e5 e6 e7 f0 f1 f2 f3 f4 f5 f6 f7 ff
      go_wp2_with fail
      refine bodyPost_ret (results_list (rs:=[.cell 4 80,.tmp 5]) rfl (by simp) (.cell (w.heap.size + 2) 80 #[.string xm,.int .i64 0,.int .i64 0,.int .i64 0,.int .u32 0,.bool false,.string ⟨#[]⟩,.slice none 0 0] (0,0) _ rfl hb5 Tryz.underlying80 rfl (by kernel_rfl) (.tmp .nil))) rfl ?_
      exact HER.out 52 wx hb5 hg5
   ·have hk4:(k != 3)=true:=by simp [hk3]
    have hk5:(k == 3)=false:=by simp [hk3]
    rw [if_pos (Or.inl hk3)] at hR;subst hR
    go_upto_region 16 with (first
     | (go_at_call 65;refine (HCT.out W0 B0.out).mono ?_;rintro e w2 ⟨rfl,rfl⟩))
    obtain ⟨e0,e1,e2,e3,e4,e5,e6,e7⟩:=ent_cells G4.out;obtain ⟨f0,f1,f2,f3,f4,f5,f6,f7⟩:=ent_cells G3.out;have ff:∀ k,W0.frozen? ⟨w.heap.size + 2,k,none⟩=false:=fun k=>frozen_row G3.out k
    go_region
    generalize hwx:World.setCell _ _ (.slice none 0 0)=wx;obtain ⟨hb5,hg5,hz5⟩:=put8 G3.out hwx;clear hwx e0 e1 e2 e3 e4 e5 e6 e7 f0 f1 f2 f3 f4 f5 f6 f7 ff
    go_wp2_with fail
    refine bodyPost_ret (results_list (rs:=[.cell 4 80,.tmp 5]) rfl (by simp) (.cell (w.heap.size + 2) 80 #[.string xm,.int .i64 0,.int .i64 0,.int .i64 0,.int .u32 0,.bool false,.string ⟨#[]⟩,.slice none 0 0] (0,0) _ rfl hb5 Tryz.underlying80 rfl (by kernel_rfl) (.tmp .nil))) rfl ?_
    exact HER.out 52 wx hb5 hg5
  ·have hw4:(want == 4)=false:=by simp [h4]
   rw [if_neg h4] at hR
   by_cases h2:want=2
   ·have hw2:(want == 2)=true:=by simp [h2]
    by_cases hk3:k=1
    ·have hk4:(k != 1)=false:=by simp [hk3]
     have hk5:(k == 1)=true:=by simp [hk3]
     cases cb with
     | true =>
      rw [if_neg (by rintro (h | h);exact h hk3;exact absurd h.2 (by simp))] at hR;subst hR
      go_wp2_with (first
       | (go_at_call 65;refine (HCT.out W0 B0.out).mono ?_;rintro e w2 ⟨rfl,rfl⟩)
       | ((with_reducible refine gate_store (t:=9) (p:=96) rfl ?_);refine cell_event rfl 9 _ _ rfl (w.heap.size + 3) 6 (.string t) rfl rfl rfl (thereR G4.out (by simp)) (by kernel_rfl) (w.heap.size + 3) (Nat.le_refl _) ?_;intro w3 hw3 hB3 hs3;obtain ⟨hr3,hk3,hz3⟩:=row1 G4.out hw3;have T3:=hid ((hk3 (w.heap.size + 2) (by omega)).trans G3.out);have E3:Hid (w3.heap[w.heap.size + 3]?=some (.cells #[.string xm,.int .i64 0,.int .i64 0,.int .i64 0,.int .u32 0,.bool false,.string t,.slice none 0 0] 80 (0,0))):=hid hr3;have B3:Hid (Below w.heap.size w w3):=hid (B0.out.trans (hB3.mono (by omega)));obtain ⟨e0,e1,e2,e3,e4,e5,e6,e7⟩:=ent_cells E3.out;clear hw3 hB3 hs3 hr3 hk3 hz3 r3 r4 r5 r6 r7 v0 v1 v2)
       | ((with_reducible refine gate_store (t:=80) (p:=4) rfl ?_);refine put_event rfl 80 _ _ rfl (w.heap.size + 2) #[.string xm,.int .i64 0,.int .i64 0,.int .i64 0,.int .u32 0,.bool false,.string t,.slice none 0 0] rfl rfl 80 ent0 T3.out (by kernel_rfl) rfl (by simp [Value.oneCell']) (w.heap.size + 2) (Nat.le_refl _) ?_;intro w4 hb4 hB4 hs4 ho4;have B4:=hid (B3.out.trans (hB4.mono (by omega)));clear hB4 hs4 ho4 e0 e1 e2 e3 e4 e5 e6 e7))
      refine bodyPost_ret (results_list (rs:=[.cell 4 80,.tmp 5]) rfl (by simp) (.cell (w.heap.size + 2) 80 #[.string xm,.int .i64 0,.int .i64 0,.int .i64 0,.int .u32 0,.bool false,.string t,.slice none 0 0] (0,0) _ rfl hb4 Tryz.underlying80 rfl (by kernel_rfl) (.tmp .nil))) rfl ?_
      exact HOK.out ⟨xm,z41,0,false,t,[]⟩ w4 B4.out
     | false =>
      rw [if_pos (Or.inr ⟨h2,rfl⟩)] at hR;subst hR
      go_upto_region 19 with (first
       | (go_at_call 65;refine (HCT.out W0 B0.out).mono ?_;rintro e w2 ⟨rfl,rfl⟩))
      obtain ⟨e0,e1,e2,e3,e4,e5,e6,e7⟩:=ent_cells G4.out;obtain ⟨f0,f1,f2,f3,f4,f5,f6,f7⟩:=ent_cells G3.out;have ff:∀ k,W0.frozen? ⟨w.heap.size + 2,k,none⟩=false:=fun k=>frozen_row G3.out k
      go_region
      generalize hwx:World.setCell _ _ (.slice none 0 0)=wx;obtain ⟨hb5,hg5,hz5⟩:=put8 G3.out hwx;clear hwx e0 e1 e2 e3 e4 e5 e6 e7 f0 f1 f2 f3 f4 f5 f6 f7 ff
      go_wp2_with fail
      refine bodyPost_ret (results_list (rs:=[.cell 4 80,.tmp 5]) rfl (by simp) (.cell (w.heap.size + 2) 80 #[.string xm,.int .i64 0,.int .i64 0,.int .i64 0,.int .u32 0,.bool false,.string ⟨#[]⟩,.slice none 0 0] (0,0) _ rfl hb5 Tryz.underlying80 rfl (by kernel_rfl) (.tmp .nil))) rfl ?_
      exact HER.out 52 wx hb5 hg5
    ·have hk4:(k != 1)=true:=by simp [hk3]
     have hk5:(k == 1)=false:=by simp [hk3]
     rw [if_pos (Or.inl hk3)] at hR;subst hR
     go_upto_region 19 with (first
      | (go_at_call 65;refine (HCT.out W0 B0.out).mono ?_;rintro e w2 ⟨rfl,rfl⟩))
     obtain ⟨e0,e1,e2,e3,e4,e5,e6,e7⟩:=ent_cells G4.out;obtain ⟨f0,f1,f2,f3,f4,f5,f6,f7⟩:=ent_cells G3.out;have ff:∀ k,W0.frozen? ⟨w.heap.size + 2,k,none⟩=false:=fun k=>frozen_row G3.out k
     go_region
     generalize hwx:World.setCell _ _ (.slice none 0 0)=wx;obtain ⟨hb5,hg5,hz5⟩:=put8 G3.out hwx;clear hwx e0 e1 e2 e3 e4 e5 e6 e7 f0 f1 f2 f3 f4 f5 f6 f7 ff
     go_wp2_with fail
     refine bodyPost_ret (results_list (rs:=[.cell 4 80,.tmp 5]) rfl (by simp) (.cell (w.heap.size + 2) 80 #[.string xm,.int .i64 0,.int .i64 0,.int .i64 0,.int .u32 0,.bool false,.string ⟨#[]⟩,.slice none 0 0] (0,0) _ rfl hb5 Tryz.underlying80 rfl (by kernel_rfl) (.tmp .nil))) rfl ?_
     exact HER.out 52 wx hb5 hg5
   ·have hw2:(want == 2)=false:=by simp [h2]
    by_cases hk3:k=1
    ·have hk4:(k != 1)=false:=by simp [hk3]
     have hk5:(k == 1)=true:=by simp [hk3]
     rw [if_neg (by rintro (h | h);exact h hk3;exact h2 h.1)] at hR;subst hR
     go_wp2_with (first
      | (go_at_call 65;refine (HCT.out W0 B0.out).mono ?_;rintro e w2 ⟨rfl,rfl⟩)
      | ((with_reducible refine gate_store (t:=9) (p:=96) rfl ?_);refine cell_event rfl 9 _ _ rfl (w.heap.size + 3) 6 (.string t) rfl rfl rfl (thereR G4.out (by simp)) (by kernel_rfl) (w.heap.size + 3) (Nat.le_refl _) ?_;intro w3 hw3 hB3 hs3;obtain ⟨hr3,hk3,hz3⟩:=row1 G4.out hw3;have T3:=hid ((hk3 (w.heap.size + 2) (by omega)).trans G3.out);have E3:Hid (w3.heap[w.heap.size + 3]?=some (.cells #[.string xm,.int .i64 0,.int .i64 0,.int .i64 0,.int .u32 0,.bool false,.string t,.slice none 0 0] 80 (0,0))):=hid hr3;have B3:Hid (Below w.heap.size w w3):=hid (B0.out.trans (hB3.mono (by omega)));obtain ⟨e0,e1,e2,e3,e4,e5,e6,e7⟩:=ent_cells E3.out;clear hw3 hB3 hs3 hr3 hk3 hz3 r3 r4 r5 r6 r7 v0 v1 v2)
      | ((with_reducible refine gate_store (t:=80) (p:=4) rfl ?_);refine put_event rfl 80 _ _ rfl (w.heap.size + 2) #[.string xm,.int .i64 0,.int .i64 0,.int .i64 0,.int .u32 0,.bool false,.string t,.slice none 0 0] rfl rfl 80 ent0 T3.out (by kernel_rfl) rfl (by simp [Value.oneCell']) (w.heap.size + 2) (Nat.le_refl _) ?_;intro w4 hb4 hB4 hs4 ho4;have B4:=hid (B3.out.trans (hB4.mono (by omega)));clear hB4 hs4 ho4 e0 e1 e2 e3 e4 e5 e6 e7))
     refine bodyPost_ret (results_list (rs:=[.cell 4 80,.tmp 5]) rfl (by simp) (.cell (w.heap.size + 2) 80 #[.string xm,.int .i64 0,.int .i64 0,.int .i64 0,.int .u32 0,.bool false,.string t,.slice none 0 0] (0,0) _ rfl hb4 Tryz.underlying80 rfl (by kernel_rfl) (.tmp .nil))) rfl ?_
     exact HOK.out ⟨xm,z41,0,false,t,[]⟩ w4 B4.out
    ·have hk4:(k != 1)=true:=by simp [hk3]
     have hk5:(k == 1)=false:=by simp [hk3]
     rw [if_pos (Or.inl hk3)] at hR;subst hR
     go_upto_region 4 with (first
      | (go_at_call 65;refine (HCT.out W0 B0.out).mono ?_;rintro e w2 ⟨rfl,rfl⟩))
     obtain ⟨e0,e1,e2,e3,e4,e5,e6,e7⟩:=ent_cells G4.out;obtain ⟨f0,f1,f2,f3,f4,f5,f6,f7⟩:=ent_cells G3.out;have ff:∀ k,W0.frozen? ⟨w.heap.size + 2,k,none⟩=false:=fun k=>frozen_row G3.out k
     go_region
     generalize hwx:World.setCell _ _ (.slice none 0 0)=wx;obtain ⟨hb5,hg5,hz5⟩:=put8 G3.out hwx;clear hwx e0 e1 e2 e3 e4 e5 e6 e7 f0 f1 f2 f3 f4 f5 f6 f7 ff
     go_wp2_with fail
     refine bodyPost_ret (results_list (rs:=[.cell 4 80,.tmp 5]) rfl (by simp) (.cell (w.heap.size + 2) 80 #[.string xm,.int .i64 0,.int .i64 0,.int .i64 0,.int .u32 0,.bool false,.string ⟨#[]⟩,.slice none 0 0] (0,0) _ rfl hb5 Tryz.underlying80 rfl (by kernel_rfl) (.tmp .nil))) rfl ?_
     exact HER.out 52 wx hb5 hg5
theorem digits0_calls (w:World):Calls Tryz.prog 139 #[.string ⟨#[48]⟩,.int .u64 4294967295] w fun e w'=>e=.returned (.tuple #[.int .u64 0,.int .i64 0])/\Below w.heap.size w w':=by
 have hn:=fun ty=>run_next_ascii (P:=Tryz.prog) w ⟨#[48]⟩ 0 ty (by decide) (by decide);have hx:=fun ty=>run_next_end (P:=Tryz.prog) w ⟨#[48]⟩ 1 ty (by decide)
 go_enter Tryz.func139,Tryz.ntmps139
 go_wp2
 refine wp_loop_rounds 2 ?_
 rw [rounds_succ]
 go_wp2
 rw [rounds_succ]
 go_wp2
 go_ret2
 exact ⟨rfl,by unfold World.iter;exact alloc_below _ _⟩
def DfOk (x:SR):Prop:=(x.auto=true/\x.dflt=sAuto)∨(¬ x.dflt=sAuto/\(x.want=1->x.dflt=⟨#[48]⟩))
instance (x:SR):Decidable (DfOk x):=by unfold DfOk;infer_instance
theorem tab_dflt:∀ x ∈ tab,x.times=2->DfOk x:=by decide
theorem three_worlds {w W0:World} {a b c:Array Value} {A B C:TypeId} (h:W0=((w.alloc (.cells a A)).alloc (.cells b B)).alloc (.cells c C)) :
  Hid (Below w.heap.size w W0)/\Hid (W0.heap[w.heap.size]?=some (.cells a A (0,0)))/\Hid (W0.heap[w.heap.size + 1]?=some (.cells b B (0,0)))/\Hid (W0.heap[w.heap.size + 2]?=some (.cells c C (0,0)))/\Hid (W0.heap.size=w.heap.size + 3):=by
 subst h;have b1:=alloc_below w (.cells a A);have z1:(w.alloc (.cells a A)).heap.size=w.heap.size + 1:=by simp
 have h1:=heap_alloc_new w (.cells a A);generalize w.alloc (.cells a A)=w1 at *;have b2:=alloc_below w1 (.cells b B);have z2:(w1.alloc (.cells b B)).heap.size=w1.heap.size + 1:=by simp
 have h2:=heap_alloc_new w1 (.cells b B);generalize w1.alloc (.cells b B)=w2 at *;have b3:=alloc_below w2 (.cells c C);have z3:(w2.alloc (.cells c C)).heap.size=w2.heap.size + 1:=by simp
 have h3:=heap_alloc_new w2 (.cells c C);generalize w2.alloc (.cells c C)=w3 at *;have e1:=(b2.block w.heap.size (by omega)).trans h1;have e2:=(b3.block w.heap.size (by omega)).trans e1;have f2:=(b3.block w1.heap.size (by omega)).trans h2;rw [z1] at f2;rw [z2,z1] at h3;exact ⟨hid (b1.trans ((b2.mono (by omega)).trans (b3.mono (by omega)))),hid e2,hid f2,hid h3,hid (by rw [z3,z2,z1])⟩
theorem byDefault_calls (x:SR) (A:Option Addr) (c:Nat) (w:World) (hD:DfOk x) :
  Calls Tryz.prog 106 #[rowV x A c] w fun e w'=>e=.returned (.agg (entC (dfltR x) (.slice none 0 0)))/\Below w.heap.size w w':=by
 obtain ⟨xo,xn,xw,xm,want,words,lo,hi,auto,times,dflt⟩:=x;unfold rowV rowC dfltR;unfold DfOk at hD;dsimp only at hD ⊢;generalize words.length=nw;obtain ⟨R,hR⟩:∃ R,(if dflt=sAuto then (⟨xm,z41,0,true,⟨#[]⟩,[]⟩:SE) else if want=1 then ⟨xm,z41,0,false,⟨#[]⟩,[]⟩ else ⟨xm,z41,0,false,dflt,[]⟩)=R:=⟨_,rfl⟩;rw [hR]
 go_enter Tryz.func106,Tryz.ntmps106
 go_upto_region 3 with fail
 obtain ⟨W0,hW0⟩:∃ W0:World,W0=(((w.alloc (.cells #[.string xo,.string xn,.string xw,.string xm,.int .i64 want,.slice A nw c,.int .u32 lo,.int .u32 hi,.bool auto,.int .i64 times,.string dflt] 60)).alloc (.cells #[.string ⟨#[]⟩,.int .i64 0,.int .i64 0,.int .i64 0,.int .u32 0,.bool false,.string ⟨#[]⟩,.slice none 0 0] 80)).alloc (.cells #[.string xm,.int .i64 0,.int .i64 0,.int .i64 0,.int .u32 0,.bool false,.string ⟨#[]⟩,.slice none 0 0] 80)):=⟨_,rfl⟩;rw [<- hW0];obtain ⟨B0,G1,G3,G4,Z0⟩:=three_worlds hW0;clear hW0;have r3:W0.cell? ⟨w.heap.size,4,none⟩=some (.int .i64 want):=(cell_row G1.out 4).trans rfl;have r7:W0.cell? ⟨w.heap.size,8,none⟩=some (.bool auto):=(cell_row G1.out 8).trans rfl;have r9:W0.cell? ⟨w.heap.size,10,none⟩=some (.string dflt):=(cell_row G1.out 10).trans rfl
 by_cases hd:dflt=sAuto
 ·rw [if_pos hd] at hR
  have hau:auto=true:=by
   rcases hD with h | h
   ·exact h.1
   ·exact absurd hd h.1
  subst hau hd;subst hR
  go_wp2_with (first
   | ((with_reducible refine gate_store (t:=4) (p:=20) rfl ?_);refine cell_event rfl 4 _ _ rfl (w.heap.size + 2) 5 (.bool true) rfl rfl rfl (thereR G4.out (by simp)) (by kernel_rfl) (w.heap.size + 2) (Nat.le_refl _) ?_;intro w3 hw3 hB3 hs3;obtain ⟨hr3,hk3,hz3⟩:=row1 G4.out hw3;have T3:=hid ((hk3 (w.heap.size + 1) (by omega)).trans G3.out);have E3:Hid (w3.heap[w.heap.size + 2]?=some (.cells #[.string xm,.int .i64 0,.int .i64 0,.int .i64 0,.int .u32 0,.bool true,.string ⟨#[]⟩,.slice none 0 0] 80 (0,0))):=hid hr3;have B3:Hid (Below w.heap.size w w3):=hid (B0.out.trans (hB3.mono (by omega)));obtain ⟨e0,e1,e2,e3,e4,e5,e6,e7⟩:=ent_cells E3.out;clear hw3 hB3 hs3 hr3 hk3 hz3)
   | ((with_reducible refine gate_store (t:=80) (p:=2) rfl ?_);refine put_event rfl 80 _ _ rfl (w.heap.size + 1) #[.string xm,.int .i64 0,.int .i64 0,.int .i64 0,.int .u32 0,.bool true,.string ⟨#[]⟩,.slice none 0 0] rfl rfl 80 ent0 T3.out (by kernel_rfl) rfl (by simp [Value.oneCell']) (w.heap.size + 1) (Nat.le_refl _) ?_;intro w4 hb4 hB4 hs4 ho4;have B4:=hid (B3.out.trans (hB4.mono (by omega)));clear hB4 hs4 ho4 e0 e1 e2 e3 e4 e5 e6 e7))
  obtain ⟨c0,c1,c2,c3,c4,c5,c6,c7⟩:=ent_cells hb4;exact bodyPost_ret (v:=.agg #[.string xm,.int .i64 0,.int .i64 0,.int .i64 0,.int .u32 0,.bool true,.string ⟨#[]⟩,.slice none 0 0]) (by simp [results,Tryz.results106,go_sem,c0,c1,c2,c3,c4,c5,c6,c7]) rfl ⟨rfl,B4.out⟩
 ·rw [if_neg hd] at hR
  have hd2:(dflt.toList == [65,85,84,79])=false:=by rw [show ([65,85,84,79]:List UInt8)=sAuto.toList from by rw [ByteArray.toList_eq],beq_str];simp [hd]
  have hw:want=1->dflt=⟨#[48]⟩:=by
   rcases hD with h | h
   ·exact absurd h.2 hd
   ·exact h.2
  by_cases h1:want=1
  ·rw [if_pos h1] at hR
   have hd3:=hw h1;subst hd3;have h2:(want == 1)=true:=by simp [h1]
   clear hw hD hd hd2 h1;cases auto
   all_goals
    subst hR
    go_upto_region 7 with (first
     | (go_at_call 139;refine (digits0_calls W0).mono ?_;rintro e w2 ⟨rfl,hB2⟩;have P2:=hid hB2;clear hB2))
    have B0:=hid (B0.out.trans (P2.out.mono B0.out.size));have G3:=hid ((P2.out.block (w.heap.size + 1) (by have:=Z0.out;omega)).trans G3.out);have G4:=hid ((P2.out.block (w.heap.size + 2) (by have:=Z0.out;omega)).trans G4.out)
    go_wp2_with (first
     | ((with_reducible refine gate_store (t:=46) (p:=33) rfl ?_);refine cell_event rfl 46 _ _ rfl (w.heap.size + 2) 4 (.int .u32 0) rfl rfl rfl (thereR G4.out (by simp)) (by kernel_rfl) (w.heap.size + 2) (Nat.le_refl _) ?_;intro w3 hw3 hB3 hs3;obtain ⟨hr3,hk3,hz3⟩:=row1 G4.out hw3;have T3:=hid ((hk3 (w.heap.size + 1) (by omega)).trans G3.out);have E3:Hid (w3.heap[w.heap.size + 2]?=some (.cells #[.string xm,.int .i64 0,.int .i64 0,.int .i64 0,.int .u32 0,.bool false,.string ⟨#[]⟩,.slice none 0 0] 80 (0,0))):=hid hr3;have B3:Hid (Below w.heap.size w w3):=hid (B0.out.trans (hB3.mono (by omega)));obtain ⟨e0,e1,e2,e3,e4,e5,e6,e7⟩:=ent_cells E3.out;clear hw3 hB3 hs3 hr3 hk3 hz3)
     | ((with_reducible refine gate_store (t:=80) (p:=2) rfl ?_);refine put_event rfl 80 _ _ rfl (w.heap.size + 1) #[.string xm,.int .i64 0,.int .i64 0,.int .i64 0,.int .u32 0,.bool false,.string ⟨#[]⟩,.slice none 0 0] rfl rfl 80 ent0 T3.out (by kernel_rfl) rfl (by simp [Value.oneCell']) (w.heap.size + 1) (Nat.le_refl _) ?_;intro w4 hb4 hB4 hs4 ho4;have B4:=hid (B3.out.trans (hB4.mono (by omega)));clear hB4 hs4 ho4 e0 e1 e2 e3 e4 e5 e6 e7))
    obtain ⟨c0,c1,c2,c3,c4,c5,c6,c7⟩:=ent_cells hb4;exact bodyPost_ret (v:=.agg #[.string xm,.int .i64 0,.int .i64 0,.int .i64 0,.int .u32 0,.bool false,.string ⟨#[]⟩,.slice none 0 0]) (by simp [results,Tryz.results106,go_sem,c0,c1,c2,c3,c4,c5,c6,c7]) rfl ⟨rfl,B4.out⟩
  ·rw [if_neg h1] at hR
   have h2:(want == 1)=false:=by simp [h1]
   clear hw hD hd h1;cases auto
   all_goals
    subst hR
    go_wp2_with (first
     | ((with_reducible refine gate_store (t:=9) (p:=11) rfl ?_);refine cell_event rfl 9 _ _ rfl (w.heap.size + 2) 6 (.string dflt) rfl rfl rfl (thereR G4.out (by simp)) (by kernel_rfl) (w.heap.size + 2) (Nat.le_refl _) ?_;intro w3 hw3 hB3 hs3;obtain ⟨hr3,hk3,hz3⟩:=row1 G4.out hw3;have T3:=hid ((hk3 (w.heap.size + 1) (by omega)).trans G3.out);have E3:Hid (w3.heap[w.heap.size + 2]?=some (.cells #[.string xm,.int .i64 0,.int .i64 0,.int .i64 0,.int .u32 0,.bool false,.string dflt,.slice none 0 0] 80 (0,0))):=hid hr3;have B3:Hid (Below w.heap.size w w3):=hid (B0.out.trans (hB3.mono (by omega)));obtain ⟨e0,e1,e2,e3,e4,e5,e6,e7⟩:=ent_cells E3.out;clear hw3 hB3 hs3 hr3 hk3 hz3)
     | ((with_reducible refine gate_store (t:=80) (p:=2) rfl ?_);refine put_event rfl 80 _ _ rfl (w.heap.size + 1) #[.string xm,.int .i64 0,.int .i64 0,.int .i64 0,.int .u32 0,.bool false,.string dflt,.slice none 0 0] rfl rfl 80 ent0 T3.out (by kernel_rfl) rfl (by simp [Value.oneCell']) (w.heap.size + 1) (Nat.le_refl _) ?_;intro w4 hb4 hB4 hs4 ho4;have B4:=hid (B3.out.trans (hB4.mono (by omega)));clear hB4 hs4 ho4 e0 e1 e2 e3 e4 e5 e6 e7))
    obtain ⟨c0,c1,c2,c3,c4,c5,c6,c7⟩:=ent_cells hb4;exact bodyPost_ret (v:=.agg #[.string xm,.int .i64 0,.int .i64 0,.int .i64 0,.int .u32 0,.bool false,.string dflt,.slice none 0 0]) (by simp [results,Tryz.results106,go_sem,c0,c1,c2,c3,c4,c5,c6,c7]) rfl ⟨rfl,B4.out⟩
open Maps ChangeMaps MapKept
theorem lawS:Keyed Tryz.prog 9:=string_keyed Tryz.underlying9
theorem zeroI (w:World):(zeroValue 3).run Tryz.prog w=.ok (.int .i64 0) w:=by kernel_rfl
theorem zeroL (w:World):(zeroValue 76).run Tryz.prog w=.ok (.slice none 0 0) w:=by kernel_rfl
def keyS (s:ByteArray):Lit:=.string s.data.toList
theorem keyS_of {s:ByteArray} (h:s.size<=maxLen):keyOf Tryz.prog 9 (.string s)=some (keyS s):=Go.WideMaps.keyOf_string_mk Tryz.underlying9 h
theorem keyS_ne {s t:ByteArray} (h:¬ s=t):keyS s≠keyS t:=fun e=>h (by
 unfold keyS at e;injection e with e
 exact ByteArray.ext (Array.toList_inj.1 e))
theorem map_is {H:Type} {w:World} {P:Program} {k:TypeId} {R:Value->Option (DataW H × List MemPlace)} {b n:Nat} {D:DataW H} (h:w.ownsMap P k R b n D):IsMap D:=by
 obtain ⟨es,cl,_,_,_,rfl⟩:=h;exact ⟨_,rfl⟩
noncomputable abbrev RI:Value->Option (DataW Value × List MemPlace):=plainElem Tryz.prog 3
def SeenAny (w:World) (b:Nat):Prop:=∃ n D,w.ownsMap Tryz.prog 9 RI b n D
def Seen (w:World) (b k:Nat) (c:ByteArray->Nat):Prop:=∃ n D,w.ownsMap Tryz.prog 9 RI b n D/\n<=k/\∀ s:ByteArray,s.size<=maxLen->D.atKey (keyS s) (.lit (.int .i64 0))=.lit (.int .i64 (c s:Int))
theorem Seen.any {w:World} {b k:Nat} {c:ByteArray->Nat} (h:Seen w b k c):SeenAny w b:=by
 obtain ⟨n,D,h,_⟩:=h;exact ⟨n,D,h⟩
theorem Seen.kept {w w':World} {row:Option Nat} {b k:Nat} {c:ByteArray->Nat} (h:Seen w b k c) (hg:w.grownBy w' row) (hne:some b≠row):Seen w' b k c:=by
 obtain ⟨n,D,h,h1,h2⟩:=h;exact ⟨n,D,h.kept hg hne,h1,h2⟩
theorem SeenAny.kept {w w':World} {row:Option Nat} {b:Nat} (h:SeenAny w b) (hg:w.grownBy w' row) (hne:some b≠row):SeenAny w' b:=by
 obtain ⟨n,D,h⟩:=h;exact ⟨n,D,h.kept hg hne⟩
theorem SeenAny.lt {w:World} {b:Nat} (h:SeenAny w b):b<w.heap.size:=by
 obtain ⟨n,D,h⟩:=h;exact h.lt
theorem SeenAny.block {w:World} {b:Nat} (h:SeenAny w b):∃ es cl,w.heap[b]?=some (.map es cl):=by
 obtain ⟨n,D,es,cl,hb,_⟩:=h;exact ⟨es,cl,hb⟩
theorem seen_made (w:World):SeenAny (w.alloc (.map #[] 0)) w.heap.size:=⟨0,_,World.ownsMap_made w Tryz.prog 9 RI⟩
theorem seen_clear {w:World} {b:Nat} (h:SeenAny w b):∃ w',(∀ ty,(Builtin.clear_ #[126] ty #[.map (some b)]).run Tryz.prog w=.ok (.tuple #[]) w')/\Seen w' b 0 (fun _=>0)/\w.grownBy w' (some b):=by
 obtain ⟨n,D,es,cl,hb,F,hn,_⟩:=h
 refine ⟨setBlock w b (.map #[] cl),fun ty=>?_,⟨0,.map [],⟨#[],cl,heap_setBlock_same hb _,⟨by simp,stamped_empty cl,by simp⟩,Nat.le_refl _,rfl⟩,Nat.le_refl _,fun s _=>rfl⟩,⟨rfl,rfl,rfl,by simp [setBlock],fun i _ hi=>heap_setBlock_other hb _ (fun e=>hi (by rw [e]))⟩⟩
 simp [Builtin.clear_,run_underlying Tryz.underlying126,MapKept.run_getObj_map hb,MapKept.run_setObj_map _ hb,Result.andThen,setBlock]
theorem seen_look {w:World} {b k:Nat} {c:ByteArray->Nat} (h:Seen w b k c) {s:ByteArray} (hs:s.size<=maxLen):(Instr.lookup 126 (.map (some b)) (.string s) false).run Tryz.prog w=.ok (.int .i64 (c s:Int)) w:=by
 obtain ⟨n,D,h,h1,h2⟩:=h;obtain ⟨v,hrun,hat,_⟩:=h.lookup_int lawS Tryz.underlying126 Tryz.underlying3 (zeroI w) (keyS_of hs);rw [h2 s hs] at hat;injection hat with hat
 injection hat with _ hat
 rw [hrun,hat]
theorem seen_put {w:World} {b k:Nat} {c:ByteArray->Nat} (h:Seen w b k c) (hk:k<maxLen) {s:ByteArray} (hs:s.size<=maxLen) (hc:c s + 1<9223372036854775808) :
  ∃ w',(Instr.mapUpdate 126 (.map (some b)) (.string s) (.int .i64 ((c s:Int) + 1))).run Tryz.prog w=.ok () w'/\Seen w' b (k + 1) (fun t=>if t=s then c s + 1 else c t)/\w.grownBy w' (some b):=by
 obtain ⟨n,D,h,h1,h2⟩:=h;obtain ⟨w',hrun,hown,hg⟩:=h.update lawS Tryz.underlying126 (by omega) (keyS_of hs) (plainElem_int (a:=(c s:Int) + 1) Tryz.underlying3 (WalkArith.wf_i64 (by omega)))
 refine ⟨w',hrun,⟨n + 1,_,hown,by omega,fun t ht=>?_⟩,hg⟩
 by_cases e:t=s
 ·subst e
  dsimp only;rw [if_pos rfl,atKey_put_same (map_is h) (by first | trivial | exact True.intro | simp [keyS,WideAt.IsKeyLit])];simp
 ·dsimp only
  rw [if_neg e,atKey_put_other (keyS_ne e),h2 t ht]
def RH (v:Value):Option (DataW Value × List MemPlace):=some (.held v,[])
def Got (w:World) (b k:Nat) (V:ByteArray->Value):Prop:=∃ n D,w.ownsMap Tryz.prog 9 RH b n D/\n<=k/\∀ s:ByteArray,s.size<=maxLen->D.atKey (keyS s) (.held (.slice none 0 0))=.held (V s)
theorem Got.kept {w w':World} {row:Option Nat} {b k:Nat} {V:ByteArray->Value} (h:Got w b k V) (hg:w.grownBy w' row) (hne:some b≠row):Got w' b k V:=by
 obtain ⟨n,D,h,h1,h2⟩:=h;exact ⟨n,D,h.kept hg hne,h1,h2⟩
theorem Got.lt {w:World} {b k:Nat} {V:ByteArray->Value} (h:Got w b k V):b<w.heap.size:=by
 obtain ⟨n,D,h,_⟩:=h;exact h.lt
theorem Got.block {w:World} {b k:Nat} {V:ByteArray->Value} (h:Got w b k V):∃ es cl,w.heap[b]?=some (.map es cl):=by
 obtain ⟨n,D,⟨es,cl,hb,_⟩,_⟩:=h;exact ⟨es,cl,hb⟩
theorem got_made (w:World):Got (w.alloc (.map #[] 0)) w.heap.size 0 (fun _=>.slice none 0 0):=⟨0,_,World.ownsMap_made w Tryz.prog 9 RH,Nat.le_refl _,fun s _=>rfl⟩
theorem got_look {w:World} {b k:Nat} {V:ByteArray->Value} (h:Got w b k V) {s:ByteArray} (hs:s.size<=maxLen):(Instr.lookup 180 (.map (some b)) (.string s) false).run Tryz.prog w=.ok (V s) w:=by
 obtain ⟨n,D,h,h1,h2⟩:=h;obtain ⟨v,ps,hrun,hv⟩:=h.lookup lawS Tryz.underlying180 (zeroL w) (zd:=.held (.slice none 0 0)) (zp:=[]) rfl (keyS_of hs);rw [h2 s hs] at hv;unfold RH at hv;injection hv with hv
 injection hv with hv _
 injection hv with hv
 rw [hrun,hv]
theorem got_put {w:World} {b k:Nat} {V:ByteArray->Value} (h:Got w b k V) (hk:k<maxLen) {s:ByteArray} (hs:s.size<=maxLen) (v:Value) :
  ∃ w',(Instr.mapUpdate 180 (.map (some b)) (.string s) v).run Tryz.prog w=.ok () w'/\Got w' b (k + 1) (fun t=>if t=s then v else V t)/\w.grownBy w' (some b):=by
 obtain ⟨n,D,h,h1,h2⟩:=h;obtain ⟨w',hrun,hown,hg⟩:=h.update lawS Tryz.underlying180 (by omega) (keyS_of hs) (val:=v) (d:=.held v) (ps:=[]) rfl
 refine ⟨w',hrun,⟨n + 1,_,hown,by omega,fun t ht=>?_⟩,hg⟩
 by_cases e:t=s
 ·subst e
  dsimp only;rw [if_pos rfl,atKey_put_same (map_is h) (by first | trivial | exact True.intro | simp [keyS,WideAt.IsKeyLit])]
 ·dsimp only
  rw [if_neg e,atKey_put_other (keyS_ne e),h2 t ht]
end Go.Proofs.YtmfejjlmflgnbaaGreatDoor.Sc
namespace Go.Proofs.YtmfejjlmflgnbaaGreatDoor.Sc
open RowKit PA YtmfejjlmflgnbaaGreatDoorW.PrintWords YtmfejjlmflgnbaaGreatDoorW.PrintLast Sp Tr Tok
mutual
def szA:SA->Nat
 | ⟨n,sp,v,br,ps,noted,note⟩=>n.size + 1 + szL ps
def szL:List SA->Nat
 | []=>0
 | a :: r=>szA a + szL r
end
theorem sz_eq (a:SA):szA a=a.f0.size + 1 + szL a.f4:=by cases a;simp only [szA]
theorem sz_len:∀ l:List SA,l.length<=szL l
 | []=>by simp [szL]
 | a :: r=>by
  have:=sz_len r;have:=sz_eq a;simp only [szL,List.length_cons];omega
theorem sz_get:∀ (l:List SA) (j:Nat) (a:SA),l[j]?=some a->szA a<=szL l
 | [],j,a,h=>by simp at h
 | b :: r,0,a,h=>by
  simp only [List.getElem?_cons_zero,Option.some.injEq] at h;subst h;simp only [szL];omega
 | b :: r,j + 1,a,h=>by
  have:=sz_get r j a (by simpa using h);simp only [szL];omega
def DfL (l:List SR):Prop:=∀ x ∈ l,(x.times=2->DfOk x)/\x.name.size<=1073741824
theorem df_under {l:List SR} (h:DfL l) (obj nm wd:ByteArray):DfL (underR l obj nm wd):=fun x hx=>h x (List.mem_filter.1 hx).1
theorem inner_len {l:List SR} (h:l.length<=1000) (obj:ByteArray) (x:SR) (n wd:ByteArray):(innerR l obj x n wd).length<=1000:=by
 unfold innerR
 split
 ·exact Nat.le_trans (under_len _ _ _ _) h
 ·simp
def withSp (e:SE) (sp:SP):SE:=⟨e.name,sp,e.num,e.auto,e.word,e.params⟩
def attrR (rows:List SR) (obj:ByteArray) (x:SR) (a:SA):Except SF SE :=
 match valR x a.f2 a.f0 z41 with
 | .error c=>.error ⟨c,a.f1,a.f0⟩
 | .ok e =>
  if (a.f3&&(innerR rows obj x a.f0 e.word).isEmpty)||(!a.f3&&mustR (innerR rows obj x a.f0 e.word)) then .error ⟨56,a.f1,a.f0⟩
  else if (innerR rows obj x a.f0 e.word).isEmpty then .ok (withSp e a.f1)
  else match listedR rows obj (innerR rows obj x a.f0 e.word) (if a.f3 then a.f4 else []) a.f1 with
   | .error f=>.error f
   | .ok p=>.ok (addP (withSp e a.f1) p)
theorem val_spot (x:SR) (v:SV) (n:ByteArray) (sp:SP):valR x v n sp=match valR x v n z41 with
  | .error c=>.error c
  | .ok e=>.ok (withSp e sp):=by
 unfold valR
 repeat' split
 all_goals first | rfl | (rename_i h;cases h;rfl) | simp_all [withSp]
theorem val_par {x:SR} {v:SV} {n:ByteArray} {sp:SP} {e:SE} (h:valR x v n sp=.ok e):e.name=n/\e.params=[]/\e.spot=sp:=by
 unfold valR at h
 repeat' split at h
 all_goals first | (cases h;exact ⟨rfl,rfl,rfl⟩) | cases h
theorem val_code {x:SR} {v:SV} {n:ByteArray} {sp:SP} {c:Int} (h:valR x v n sp=.error c):c=52∨c=53:=by
 unfold valR at h
 repeat' split at h
 all_goals first | (cases h;simp) | cases h
theorem readL_nil (rows:List SR) (obj:ByteArray) (l:List SR) (got:List SE):readL rows obj l got []=.ok got:=by simp only [readL]
theorem readL_cons (rows:List SR) (obj:ByteArray) (l:List SR) (got:List SE) (a:SA) (r:List SA):readL rows obj l got (a :: r)=match readA rows obj l got a with
  | .error f=>.error f
  | .ok e=>readL rows obj l (got++[e]) r:=by (first | (simp only [readL];done) | (simp only [readL];rfl))
theorem readA_eq (rows:List SR) (obj:ByteArray) (l:List SR) (got:List SE) (a:SA):readA rows obj l got a=match findR l a.f0 with
  | none=>.error ⟨51,a.f1,a.f0⟩
  | some x=>if !(named got a.f0).isEmpty&&decide (x.times≠3) then .error ⟨55,a.f1,a.f0⟩ else attrR rows obj x a:=by
 obtain ⟨n,sp,v,br,ps,noted,note⟩:=a;rw [readA.eq_def];dsimp only;cases findR l n with
 | none=>rfl
 | some x =>
  dsimp only
  split
  ·rfl
  ·unfold attrR
   dsimp only;rw [val_spot];cases hv:valR x v n z41 with
   | error c=>rfl
   | ok e =>
    dsimp only;have hw:(withSp e sp).word=e.word:=rfl;rw [hw]
    split
    ·rfl
    ·split
     ·rfl
     ·unfold listedR
      cases br with
      | true =>
       simp only [if_true];cases readL rows obj (innerR rows obj x n e.word) [] ps <;> rfl
      | false =>
       simp only [Bool.false_eq_true,if_false,readL_nil]
       rfl
theorem readL_hit {rows:List SR} {obj:ByteArray} {l:List SR} {got:List SE} {ats:List SA} {j:Nat} {a:SA} {f:SF} (h:ats[j]?=some a) (hr:readA rows obj l got a=.error f):readL rows obj l got (ats.drop j)=.error f:=by
 obtain ⟨hj,rfl⟩:=List.getElem?_eq_some_iff.1 h;rw [List.drop_eq_getElem_cons hj,readL_cons,hr]
theorem readL_go {rows:List SR} {obj:ByteArray} {l:List SR} {got:List SE} {ats:List SA} {j:Nat} {a:SA} {e:SE} (h:ats[j]?=some a) (hr:readA rows obj l got a=.ok e):readL rows obj l got (ats.drop j)=readL rows obj l (got++[e]) (ats.drop (j + 1)):=by
 obtain ⟨hj,rfl⟩:=List.getElem?_eq_some_iff.1 h;rw [List.drop_eq_getElem_cons hj,readL_cons,hr]
theorem readL_end {rows:List SR} {obj:ByteArray} {l:List SR} {got:List SE} {ats:List SA}:readL rows obj l got (ats.drop ats.length)=.ok got:=by
 rw [List.drop_length,readL_nil]
theorem attrR_name {rows:List SR} {obj:ByteArray} {x:SR} {a:SA} {e:SE} (h:attrR rows obj x a=.ok e):e.name=a.f0:=by
 unfold attrR at h;cases hv:valR x a.f2 a.f0 z41 with
 | error c=>rw [hv] at h;cases h
 | ok e0 =>
  rw [hv] at h;dsimp only at h;have hn:=(val_par hv).1
  split at h
  ·cases h
  ·split at h
   ·cases h;exact hn
   ·split at h
    ·cases h
    ·cases h;exact hn
theorem find_idx (l:List SR) (n:ByteArray):∀ k:Nat,match findR l n with
  | none=>idxF (fun x=>decide (x.name=n)) l k=-1
  | some x=>∃ i:Nat,idxF (fun x=>decide (x.name=n)) l k=((k + i:Nat):Int)/\l[i]?=some x/\x.name=n:=by
 induction l with
 | nil=>intro k;rfl
 | cons y r ih =>
  intro k;unfold findR at *;rw [List.find?_cons];unfold idxF;cases h:decide (y.name=n) with
  | true=>exact ⟨0,by simp,by simp,of_decide_eq_true h⟩
  | false =>
   have h2:=ih (k + 1);simp only [Bool.false_eq_true,if_false];cases hf:r.find? (fun x=>decide (x.name=n)) with
   | none=>rw [hf] at h2;exact h2
   | some x =>
    rw [hf] at h2;obtain ⟨i,h3,h4,h5⟩:=h2;exact ⟨i + 1,by rw [h3];congr 1;omega,by simpa using h4,h5⟩
theorem named_app (g:List SE) (e:SE) (n:ByteArray):named (g++[e]) n=named g n++(if e.name=n then [e] else []):=by
 unfold named;rw [List.filter_append]
 congr 1
 by_cases h:e.name=n <;> simp [h]
theorem named_len (g:List SE) (n:ByteArray):(named g n).length<=g.length:=List.length_filter_le _ _
end Go.Proofs.YtmfejjlmflgnbaaGreatDoor.Sc
namespace Go.Proofs.YtmfejjlmflgnbaaGreatDoor.Sc
open RowKit PA YtmfejjlmflgnbaaGreatDoorW.PrintWords Sp Tr
def layV (x:SR) (m:Int) (au:Bool) (wd:ByteArray):SV :=
 if x.want=1 then (if au then ⟨1,sAuto,0,false⟩ else ⟨2,⟨#[]⟩,m,false⟩)
 else if x.want=4 then ⟨3,wd,0,false⟩ else ⟨1,wd,0,false⟩
def badV (x:SR) (wd:ByteArray):Bool:=if x.want=1 then false else if x.want=4 then !stringB (bs wd) else !nameB (bs wd)
mutual
def layE (rows:List SR) (obj:ByteArray) (l:List SR):SE->Option (SA × Bool)
 | ⟨n,_,m,au,wd,ps⟩ =>
  match findR l n with
  | none=>none
  | some x =>
   if (innerR rows obj x n wd).isEmpty then some (⟨n,z41,layV x m au wd,false,[],false,⟨#[]⟩⟩,badV x wd)
   else some (⟨n,z41,layV x m au wd,true,(layL rows obj (innerR rows obj x n wd) [] false ps).1,false,⟨#[]⟩⟩,badV x wd||(layL rows obj (innerR rows obj x n wd) [] false ps).2)
def layL (rows:List SR) (obj:ByteArray) (l:List SR) (out:List SA) (bad:Bool):List SE->List SA × Bool
 | []=>(out,bad)
 | e :: r=>match layE rows obj l e with
  | none=>([],true)
  | some (a,b)=>layL rows obj l (out++[a]) (bad||b) r
end
def layI (s:SI):SO × Bool:=(⟨s.kind,s.name,z41,(layL tab s.kind (underR tab s.kind ⟨#[]⟩ ⟨#[]⟩) [] false s.ents).1,false,⟨#[]⟩⟩,!nameB (bs s.name)||(layL tab s.kind (underR tab s.kind ⟨#[]⟩ ⟨#[]⟩) [] false s.ents).2)
def layT (s:SS):ST:=⟨⟨#[50,46,53]⟩,s.cpu,s.items.map (fun i=>(layI i).1),false,⟨#[]⟩⟩
def badS (s:SS):Bool:=!nameB (bs s.cpu)||s.items.any (fun i=>(layI i).2)
def writeS (s:SS):Option ST:=match readT (layT s) with
 | .error _=>none
 | .ok b=>if badS s||!sameIs false b.items s.items then none else some (layT s)
mutual
def szE:SE->Nat
 | ⟨n,_,_,_,_,ps⟩=>n.size + 1 + szEs ps
def szEs:List SE->Nat
 | []=>0
 | e :: r=>szE e + szEs r
end
theorem szL_app:∀ (l r:List SA),szL (l++r)=szL l + szL r
 | [],r=>by simp [szL]
 | a :: l,r=>by rw [List.cons_append];simp only [szL];rw [szL_app l r];omega
theorem szE_eq (e:SE):szE e=e.name.size + 1 + szEs e.params:=by cases e;simp only [szE]
theorem szEs_len:∀ l:List SE,l.length<=szEs l
 | []=>by simp [szEs]
 | a :: r=>by
  have:=szEs_len r;have:=szE_eq a;simp only [szEs,List.length_cons];omega
theorem szEs_get:∀ (l:List SE) (j:Nat) (a:SE),l[j]?=some a->szE a<=szEs l
 | [],j,a,h=>by simp at h
 | b :: r,0,a,h=>by
  simp only [List.getElem?_cons_zero,Option.some.injEq] at h;subst h;simp only [szEs];omega
 | b :: r,j + 1,a,h=>by
  have:=szEs_get r j a (by simpa using h);simp only [szEs];omega
mutual
theorem layE_sz (rows:List SR) (obj:ByteArray):∀ (e:SE) (l:List SR) (a:SA) (b:Bool),layE rows obj l e=some (a,b)->szA a<=szE e
 | ⟨n,sp,m,au,wd,ps⟩,l,a,b,h=>by
  unfold layE at h;cases hf:findR l n with
  | none=>rw [hf] at h;cases h
  | some x =>
   rw [hf] at h;simp only [] at h
   split at h
   ·cases h
    simp only [szA,szE,szL];omega
   ·cases h
    have:=layL_sz rows obj ps (innerR rows obj x n wd) [] false;simp only [szA,szE,szL] at this ⊢;omega
theorem layL_sz (rows:List SR) (obj:ByteArray):∀ (es:List SE) (l:List SR) (out:List SA) (bad:Bool),szL (layL rows obj l out bad es).1<=szL out + szEs es
 | [],l,out,bad=>by simp [layL,szEs]
 | e :: r,l,out,bad=>by
  unfold layL;cases he:layE rows obj l e with
  | none=>simp [szL]
  | some p =>
   obtain ⟨a,b⟩:=p;have h1:=layE_sz rows obj e l a b he;have h2:=layL_sz rows obj r l (out++[a]) (bad||b);rw [szL_app] at h2;simp only [szL,szEs] at h2 ⊢;omega
end
open YtmfejjlmflgnbaaGreatDoorW.PrintLast Tok
def CodeOk (f:SF):Prop:=50<=f.code/\f.code<=56
theorem cOk (c:Int) (sp:SP) (n:ByteArray) (h:50<=c/\c<=56):CodeOk ⟨c,sp,n⟩:=h
theorem outR_code {g:List SE} {sp:SP}:∀ {l:List SR} {f:SF},outR g sp l=.error f->CodeOk f
 | [],f,h=>by cases h
 | x :: r,f,h=>by
  unfold outR at h
  split at h
  ·cases h;exact cOk _ _ _ (by decide)
  ·cases ho:outR g sp r with
   | error f'=>rw [ho] at h;cases h;exact outR_code ho
   | ok o=>rw [ho] at h;cases h
theorem readL_code {rows:List SR} {obj:ByteArray} {l:List SR}:∀ {ats:List SA} {got:List SE} {f:SF},(∀ a x f,a ∈ ats->attrR rows obj x a=.error f->CodeOk f)->readL rows obj l got ats=.error f->CodeOk f
 | [],got,f,ha,h=>by rw [readL_nil] at h;cases h
 | a :: r,got,f,ha,h=>by
  rw [readL_cons] at h;cases hr:readA rows obj l got a with
  | error f' =>
   rw [hr] at h;cases h;rw [readA_eq] at hr;cases hf:findR l a.f0 with
   | none=>rw [hf] at hr;cases hr;exact cOk _ _ _ (by decide)
   | some x =>
    rw [hf] at hr;dsimp only at hr
    split at hr
    ·cases hr;exact cOk _ _ _ (by decide)
    ·exact ha a x _ List.mem_cons_self hr
  | ok e =>
   rw [hr] at h;exact readL_code (fun a' x' f' hm=>ha a' x' f' (List.mem_cons_of_mem _ hm)) h
theorem listed_code (rows:List SR):∀ (m:Nat) (ats:List SA) (obj:ByteArray) (l:List SR) (sp:SP) (f:SF),szL ats<=m->listedR rows obj l ats sp=.error f->CodeOk f:=by
 intro m
 induction m using Nat.strongRecOn with
 | _ m ih =>
  intro ats obj l sp f hm h;unfold listedR at h;cases hr:readL rows obj l [] ats with
  | error f' =>
   rw [hr] at h;cases h
   refine readL_code (fun a x f ha hx=>?_) hr
   unfold attrR at hx;cases hv:valR x a.f2 a.f0 z41 with
   | error c =>
    rw [hv] at hx;cases hx;rcases val_code hv with h | h <;> (subst h;exact cOk _ _ _ (by decide))
   | ok e =>
    rw [hv] at hx;dsimp only at hx
    split at hx
    ·cases hx;exact cOk _ _ _ (by decide)
    ·split at hx
     ·cases hx
     ·cases hl:listedR rows obj (innerR rows obj x a.f0 e.word) (if a.f3 then a.f4 else []) a.f1 with
      | error f'' =>
       rw [hl] at hx;cases hx;obtain ⟨j,hj⟩:=List.mem_iff_getElem?.1 ha;have h1:=sz_get ats j a hj;have h2:=sz_eq a;cases hb:a.f3 with
       | true=>rw [hb] at hl;exact ih (szL a.f4) (by omega) a.f4 obj _ a.f1 _ (Nat.le_refl _) hl
       | false=>rw [hb] at hl;exact ih 0 (by omega) [] obj _ a.f1 _ (by simp [szL]) hl
      | ok p=>rw [hl] at hx;cases hx
  | ok g =>
   rw [hr] at h;exact outR_code h
theorem tab_len:tab.length=49:=by decide
theorem tab_names:∀ x ∈ tab,x.name.size<=1073741824:=by decide
theorem tab_df:DfL tab:=fun x hx=>⟨tab_dflt x hx,tab_names x hx⟩
theorem readOs_get {rows:List SR}:∀ {os:List SO} {acc l:List SI},readOs rows acc os=.ok l->∃ r,l=acc++r/\r.length=os.length/\∀ (j:Nat) (o:SO),os[j]?=some o->∃ i:SI,r[j]?=some i/\readO rows o=.ok i
 | [],acc,l,h=>by
  unfold readOs at h;cases h;exact ⟨[],by simp,rfl,fun j o ho=>by simp at ho⟩
 | o :: os,acc,l,h=>by
  unfold readOs at h;cases hr:readO rows o with
  | error f=>rw [hr] at h;cases h
  | ok i =>
   rw [hr] at h;obtain ⟨r,h1,h2,h3⟩:=readOs_get h
   refine ⟨i :: r,by rw [h1];simp,by simp [h2],fun j o' ho=>?_⟩
   cases j with
   | zero =>
    simp only [List.getElem?_cons_zero,Option.some.injEq] at ho;subst ho;exact ⟨i,rfl,hr⟩
   | succ j=>exact h3 j o' (by simpa using ho)
theorem readT_get {t:ST} {s:SS} (h:readT t=.ok s):s.cpu=t.f1/\s.items.length=t.f2.length/\∀ (j:Nat) (o:SO),t.f2[j]?=some o->∃ i:SI,s.items[j]?=some i/\readO tab o=.ok i:=by
 unfold readT at h;cases hr:readOs tab [] t.f2 with
 | error f=>rw [hr] at h;cases h
 | ok l =>
  rw [hr] at h;cases h;obtain ⟨r,h1,h2,h3⟩:=readOs_get hr;rw [List.nil_append] at h1;subst h1;exact ⟨rfl,h2,h3⟩
theorem write_back {s:SS} {u:ST} (h:writeS s=some u):u=layT s/\∃ b,readT (layT s)=.ok b/\sameS false b s=true:=by
 unfold writeS at h;cases hr:readT (layT s) with
 | error f=>rw [hr] at h;cases h
 | ok b =>
  rw [hr] at h;dsimp only at h
  split at h
  ·cases h
  ·rename_i hq
   cases h
   refine ⟨rfl,b,rfl,?_⟩
   have hc:=(readT_get hr).1;unfold sameS;rw [show b.cpu=s.cpu from hc,decide_eq_true rfl,Bool.true_and];cases hb:sameIs false b.items s.items with
   | true=>rfl
   | false=>exact absurd (by rw [hb];simp) hq
theorem layI_sz (i:SI):szL (layI i).1.f3<=szEs i.ents:=by
 have h:=layL_sz tab i.kind i.ents (underR tab i.kind ⟨#[]⟩ ⟨#[]⟩) [] false;simp only [szL,Nat.zero_add] at h;exact h
theorem lay_sz {s:SS} (h:∀ i ∈ s.items,szEs i.ents<=1073741824):∀ o ∈ (layT s).f2,szL o.f3<=1073741824:=by
 intro o ho;obtain ⟨i,hi,rfl⟩:=List.mem_map.1 (show o ∈ s.items.map (fun i=>(layI i).1) from ho);exact Nat.le_trans (layI_sz i) (h i hi)
end Go.Proofs.YtmfejjlmflgnbaaGreatDoor.Sc

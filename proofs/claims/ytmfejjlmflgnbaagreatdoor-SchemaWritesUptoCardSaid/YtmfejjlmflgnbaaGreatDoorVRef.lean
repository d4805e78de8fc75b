/- SMALL LAWS: strings that are empty, blocks of a few cells, blocks in later worlds. -/
import Derived.Test.YtmfejjlmflgnbaaGreatDoorVAttrs
import Derived.Test.YtmfejjlmflgnbaaGreatDoorVAlk
import Derived.Test.YtmfejjlmflgnbaaGreatDoorVInv
import Derived.Test.YtmfejjlmflgnbaaGreatDoorVVal
import Derived.BigQuiet
import Derived.Deep.CutRange
set_option linter.unusedVariables false
set_option linter.unusedSimpArgs false
set_option maxRecDepth 100000
set_option maxHeartbeats 64000000
namespace Go.Proofs.YtmfejjlmflgnbaaGreatDoor.Sc
open RowKit PA YtmfejjlmflgnbaaGreatDoorW.PrintWords YtmfejjlmflgnbaaGreatDoorW.PrintLast Sp Tr Tok
open Go.Lib (hid)
theorem str_some {x:ByteArray} (h:¬ x=⟨#[]⟩):x.toList.isEmpty=false/\(x.toList == [])=false:=by
 rw [ByteArray.toList_eq];cases h':x.data.toList with
 | nil=>exact absurd (ByteArray.ext (Array.toList_inj.1 h')) h
 | cons q r=>exact ⟨rfl,rfl⟩
theorem tre_cells {w:World} {g:Nat} {a0 a1 a2 a3 a4:Value} {t:TypeId} (h:w.heap[g]?=some (.cells #[a0,a1,a2,a3,a4] t (0,0))) :
  w.cell? ⟨g,0,none⟩=some a0/\w.cell? ⟨g,1,none⟩=some a1/\w.cell? ⟨g,2,none⟩=some a2/\w.cell? ⟨g,3,none⟩=some a3/\w.cell? ⟨g,4,none⟩=some a4 :=
 ⟨(cell_row h 0).trans rfl,(cell_row h 1).trans rfl,(cell_row h 2).trans rfl,(cell_row h 3).trans rfl,(cell_row h 4).trans rfl⟩
theorem she_cells {w:World} {g:Nat} {a0 a1:Value} {t:TypeId} (h:w.heap[g]?=some (.cells #[a0,a1] t (0,0))) :
  w.cell? ⟨g,0,none⟩=some a0/\w.cell? ⟨g,1,none⟩=some a1:=⟨(cell_row h 0).trans rfl,(cell_row h 1).trans rfl⟩
theorem blk_b {w w':World} {k:Nat} {o:Obj} (h:w.heap[k]?=some o) (hB:Below w.heap.size w w'):w'.heap[k]?=some o:=(hB.block _ (gS.1 h).1).trans h
theorem in_at {l:List ByteArray} {s x:ByteArray} {j:Nat} (h:l[j]?=some x):inB (l.drop j) s=(decide (x=s)||inB (l.drop (j + 1)) s):=by
 obtain ⟨hj,rfl⟩:=List.getElem?_eq_some_iff.1 h;rw [List.drop_eq_getElem_cons hj]
 rfl
theorem rin_calls (l:List ByteArray) (s:ByteArray) (A:Option Addr) (c:Nat) (w:World) (hC:Kd.C Kd.string w A l.length l) (r:Bool) (hr:inB l s=r) :
  Calls Tryz.prog 70 #[.slice A l.length c,.string s] w fun e w'=>e=.returned (.bool r)/\w'=w:=by
 have HC:=hid hC;have hm:=hC.2.1;have HM:=hid hm;have HR:=hid hr;clear hC hm hr;generalize hn:l.length=n at HC HM;have HN:=hid hn;clear hn
 go_enter Tryz.func70,Tryz.ntmps70
 go_wp2_with fail
 go_loopw [5] (fun v wr=>∃ j:Nat,v=.int .i64 (j:Int)/\j<=n/\Hid (inB (l.drop j) s=r)/\wr=w) (fun v _=>n - (intOf v).toNat)
 case atStart=>exact ⟨0,by go_num,by omega,HR,rfl⟩
 case round =>
  obtain ⟨j,rfl,hj,RL,rfl⟩:=hrel;have hm:=HM.out
  by_cases hlt:j<n
  ·have hx:l[j]?=some (l[j]'(by rw [HN.out];exact hlt)):=List.getElem?_eq_getElem _
   obtain ⟨ad,rfl,hc⟩:=at_str HC.out j hlt hx;generalize (l[j]'(by rw [HN.out];exact hlt))=x at hx hc;have HX:=hid hx;clear hx;cases hp:decide (x=s) with
   | true =>
    have hp':(x.toList == s.toList)=true:=by rw [beq_str];exact hp
    have HP:=hid hp;clear hp;have HT:Hid (r=true):=hid (by rw [<- RL.out,in_at HX.out,HP.out,Bool.true_or])
    go_wp2_with fail
    go_ret
    refine ⟨?_,by first | rfl | trivial⟩
    rw [HT.out]
    rfl
   | false =>
    have hp':(x.toList == s.toList)=false:=by rw [beq_str];exact hp
    have HP:=hid hp;clear hp;have HT:Hid (inB (l.drop (j + 1)) s=r):=hid (by rw [<- RL.out,in_at HX.out,HP.out,Bool.false_or])
    go_wp2_with fail
    exact ⟨⟨j + 1,by go_num,by omega,HT,by first | rfl | trivial⟩,by simp [intOf];omega⟩
  ·obtain rfl:j=n:=by omega
   have HT:Hid (r=false):=hid (by rw [<- RL.out,List.drop_eq_nil_of_le (by rw [HN.out];exact Nat.le_refl _)];rfl)
   go_wp2_with fail
   go_ret
   refine ⟨?_,by first | rfl | trivial⟩
   rw [HT.out]
   rfl
theorem rfind_calls (l:List SR) (nm:ByteArray) (A:Option Addr) (c:Nat) (w:World) (hC:Kd.C kRow w A l.length l) (hl:l.length<=1000) :
  Calls Tryz.prog 111 #[.slice A l.length c,.string nm] w fun e w'=>e=.returned (.int .i64 (idxF (fun x=>decide (x.name=nm)) l 0))/\w'=w:=by
 have HC:=hid hC;have HL:=hid hl;clear hC hl;generalize hn:l.length=n at HC HL;have HN:=hid hn;clear hn
 go_enter Tryz.func111,Tryz.ntmps111
 go_wp2_with fail
 go_loopw [5] (fun v wr=>∃ j:Nat,v=.int .i64 (j:Int)/\j<=n/\Hid (idxF (fun x=>decide (x.name=nm)) (l.drop j) j=idxF (fun x=>decide (x.name=nm)) l 0)/\wr=w) (fun v _=>n - (intOf v).toNat)
 case atStart=>exact ⟨0,by go_num,by omega,hid rfl,rfl⟩
 case round =>
  obtain ⟨j,rfl,hj,RL,rfl⟩:=hrel;have hm:=HL.out
  by_cases hlt:j<n
  ·have hx:l[j]?=some (l[j]'(by rw [HN.out];exact hlt)):=List.getElem?_eq_getElem _
   obtain ⟨ad,A5,c5,eA,x0,x1,x2,x3,x4,x5,x6,x7,x8,x9,x10,l5,C5⟩:=at_Row HC.out (j:Int) (by omega) (by omega);rw [row_at l j _ hx] at x3;clear x0 x1 x2 x4 x5 x6 x7 x8 x9 x10 l5 C5;generalize (l[j]'(by rw [HN.out];exact hlt))=x at hx x3;subst eA;simp only [Int.toNat_natCast] at x3;have HX:=hid hx;clear hx;cases hp:decide (x.name=nm) with
   | true =>
    have hp':(x.name.toList == nm.toList)=true:=by rw [beq_str];exact hp
    have HP:=hid hp;clear hp
    go_wp2_with fail
    go_ret
    refine ⟨?_,by first | rfl | trivial⟩
    show Ending.returned (Value.int .i64 (j:Int))=_;rw [<- RL.out,idx_hit HX.out HP.out]
   | false =>
    have hp':(x.name.toList == nm.toList)=false:=by rw [beq_str];exact hp
    have HP:=hid hp;clear hp
    go_wp2_with fail
    exact ⟨⟨j + 1,by go_num,by omega,hid (by rw [<- idx_miss HX.out HP.out];exact RL.out),by first | rfl | trivial⟩,by simp [intOf];omega⟩
  ·obtain rfl:j=n:=by omega
   go_wp2_with fail
   go_ret
   refine ⟨?_,by first | rfl | trivial⟩
   have h0:=RL.out;rw [<- HN.out,idx_end] at h0;show Ending.returned (Value.int .i64 (-1))=_;rw [h0]
theorem rfault_calls (k:Int) (sp:SP) (nm:ByteArray) (w:World) :
  Calls Tryz.prog 71 #[.int .i64 k,.agg #[.int .i64 sp.f0,.int .i64 sp.f1,.int .i64 sp.f2],.string nm] w fun e w'=>e=.returned (.agg (faC k sp nm))/\Below w.heap.size w w':=by
 go_enter Tryz.func71,Tryz.ntmps71
 have tk1:True:=trivial
 go_wp2_with (first
  | (have _t:=tk1;refine run_event rfl (.box 41 _) rfl (.pointer (some ⟨w.heap.size,0,none⟩)) (w.alloc (.cells #[.int .i64 sp.f0,.int .i64 sp.f1,.int .i64 sp.f2] 41)) (by kernel_rfl) ?_;intro w1 hw1;have B1:Hid (Below w.heap.size w w1):=hid (by rw [hw1];exact alloc_below _ _);have E1:Hid (w1.heap[w.heap.size]?=some (.cells #[.int .i64 sp.f0,.int .i64 sp.f1,.int .i64 sp.f2] 41 (0,0))):=hid (by rw [hw1];exact heap_alloc_new _ _);clear hw1 tk1 _t)
  | (refine run_event rfl (.alloc 66) rfl (.pointer (some ⟨w1.heap.size,0,none⟩)) (w1.alloc (.cells fa0 66)) (by kernel_rfl) ?_;intro w2 hw2;have B2:Hid (Below w1.heap.size w1 w2):=hid (by rw [hw2];exact alloc_below _ _);have E2:Hid (w2.heap[w1.heap.size]?=some (.cells fa0 66 (0,0))):=hid (by rw [hw2];exact heap_alloc_new _ _);have E12:Hid (w2.heap[w.heap.size]?=some (.cells #[.int .i64 sp.f0,.int .i64 sp.f1,.int .i64 sp.f2] 41 (0,0))):=hid ((B2.out.block _ (gS.1 E1.out).1).trans E1.out);clear hw2;have p0:w2.cell? ⟨w.heap.size,0,none⟩=some (.int .i64 sp.f0):=(cell_row E12.out 0).trans rfl;have p1:w2.cell? ⟨w.heap.size,1,none⟩=some (.int .i64 sp.f1):=(cell_row E12.out 1).trans rfl;have p2:w2.cell? ⟨w.heap.size,2,none⟩=some (.int .i64 sp.f2):=(cell_row E12.out 2).trans rfl)
  | ((with_reducible refine gate_store (t:=66) (p:=6) rfl ?_);refine put_event rfl 66 _ _ rfl w1.heap.size (faC k sp nm) rfl rfl 66 fa0 E2.out (by kernel_rfl) rfl (by simp [Value.oneCell']) w1.heap.size (Nat.le_refl _) ?_;intro w3 hb3 hB3 hs3 ho3;have G3:=hid hb3;have B3:Hid (Below w.heap.size w w3):=hid (B1.out.trans ((B2.out.trans hB3).mono B1.out.size));clear hb3 hB3 hs3 ho3 p0 p1 p2))
 refine bodyPost_ret (results_single (r:=.cell 6 66) rfl (.cell w1.heap.size 66 (faC k sp nm) (0,0) _ rfl G3.out Tryz.underlying66 rfl (by kernel_rfl) .nil)) rfl ?_
 exact ⟨rfl,B3.out⟩
theorem runder_calls (l:List SR) (A:Option Addr) (c:Nat) (obj nm wd:ByteArray) (w:World) (hC:Kd.C kRow w A l.length l) (hl:l.length<=1000) :
  Calls Tryz.prog 73 #[.slice A l.length c,.string obj,.string nm,.string wd] w fun e w'=>(∃ v,e=.returned v/\Kd.R (Kd.fixed kRow w) 60 w' w.heap.size (fun _=>True) v (underR l obj nm wd))/\Below w.heap.size w w':=by
 have HC:=hid hC;have HL:=hid hl;have hm:=hl;clear hC hl;generalize hn:l.length=n at *;have HN:=hid hn;clear hn
 go_enter Tryz.func73,Tryz.ntmps73
 go_wp2_with fail
 go_loopw [9,10] (fun ov v wr=>∃ j:Nat,v=.int .i64 (j:Int)/\j<=n/\Hid (Kd.R (Kd.fixed kRow w) 60 wr w.heap.size (fun _=>True) ov (underR (l.take j) obj nm wd))/\Hid (Below w.heap.size w wr)) (fun _ v _=>n - (intOf v).toNat)
 case atStart=>exact ⟨0,by go_num,by omega,hid (by rw [List.take_zero];exact Kd.R_nil _ _ _ _ (fun _=>True)),hid (Below.refl _ _)⟩
 case round =>
  obtain ⟨j,rfl,hj,RO,BL⟩:=hrel;obtain ⟨acc,hacc⟩:∃ acc,acc=underR (l.take j) obj nm wd:=⟨_,rfl⟩
  by_cases hlt:j<n
  ·have hx:l[j]?=some (l[j]'(by rw [HN.out];exact hlt)):=List.getElem?_eq_getElem _
   obtain ⟨ad,A5,c5,eA,z0,z1,z2,z3,z4,z5,z6,z7,z8,z9,z10,l50,C50⟩:=at_Row HC.out (j:Int) (by omega) (by omega);rw [row_at l j _ hx] at z0 z1 z2 z3 z4 z5 z6 z7 z8 z9 z10 l50 C50;have HTK:=hid (under_take l obj nm wd j _ hx);generalize (l[j]'(by rw [HN.out];exact hlt))=x at hx HTK z0 z1 z2 z3 z4 z5 z6 z7 z8 z9 z10 l50 C50;subst eA;simp only [Int.toNat_natCast] at z0 z1 z2 z3 z4 z5 z6 z7 z8 z9 z10;have x0:=(BL.out.cell (lC w _ z0)).trans z0;have x1:=(BL.out.cell (lC w _ z1)).trans z1;have x2:=(BL.out.cell (lC w _ z2)).trans z2;have x3:=(BL.out.cell (lC w _ z3)).trans z3;have x4:=(BL.out.cell (lC w _ z4)).trans z4;have x5:=(BL.out.cell (lC w _ z5)).trans z5;have x6:=(BL.out.cell (lC w _ z6)).trans z6;have x7:=(BL.out.cell (lC w _ z7)).trans z7;have x8:=(BL.out.cell (lC w _ z8)).trans z8;have x9:=(BL.out.cell (lC w _ z9)).trans z9;have x10:=(BL.out.cell (lC w _ z10)).trans z10;have HC5:=hid C50;have HL5:=hid l50;have hal:acc.length<=1000:=by rw [hacc];exact Nat.le_trans (under_len _ _ _ _) (by rw [List.length_take];omega)
   rw [<- hacc] at RO HTK;have HAL:=hid hal;obtain ⟨Ao,co,hov⟩:=RForm RO.out;subst hov;clear hx C50 l50 hacc hal z0 z1 z2 z3 z4 z5 z6 z7 z8 z9 z10;cases ho:decide (x.obj=obj) with
   | false =>
    have ho1:(x.obj.toList == obj.toList)=false:=by rw [beq_str];exact ho
    have R6:Hid (Kd.R (Kd.fixed kRow w) 60 wr w.heap.size (fun _=>True) (.slice Ao acc.length co) (underR (l.take (j + 1)) obj nm wd)):=hid (by rw [HTK.out,ho,Bool.false_and,if_neg (by simp),List.append_nil];exact RO.out);clear ho HTK x3 x4 x5 x6 x7 x8 x9 x10
    go_wp2_with fail
    exact ⟨⟨j + 1,by go_num,by omega,R6,BL⟩,by simp [intOf];omega⟩
   | true =>
    have ho1:(x.obj.toList == obj.toList)=true:=by rw [beq_str];exact ho
    rw [ho,Bool.true_and] at HTK;cases hu:decide (x.un=nm) with
    | false =>
     have hu1:(x.un.toList == nm.toList)=false:=by rw [beq_str];exact hu
     have R6:Hid (Kd.R (Kd.fixed kRow w) 60 wr w.heap.size (fun _=>True) (.slice Ao acc.length co) (underR (l.take (j + 1)) obj nm wd)):=hid (by rw [HTK.out,hu,Bool.false_and,if_neg (by simp),List.append_nil];exact RO.out);clear ho hu HTK x3 x4 x5 x6 x7 x8 x9 x10
     go_wp2_with fail
     exact ⟨⟨j + 1,by go_num,by omega,R6,BL⟩,by simp [intOf];omega⟩
    | true =>
     have hu1:(x.un.toList == nm.toList)=true:=by rw [beq_str];exact hu
     rw [hu,Bool.true_and] at HTK;cases hq:decide (x.uw=wd) with
     | false =>
      have hq1:(x.uw.toList == wd.toList)=false:=by rw [beq_str];exact hq
      have R6:Hid (Kd.R (Kd.fixed kRow w) 60 wr w.heap.size (fun _=>True) (.slice Ao acc.length co) (underR (l.take (j + 1)) obj nm wd)):=hid (by rw [HTK.out,hq,if_neg (by simp),List.append_nil];exact RO.out);clear ho hu hq HTK x3 x4 x5 x6 x7 x8 x9 x10
      go_wp2_with fail
      exact ⟨⟨j + 1,by go_num,by omega,R6,BL⟩,by simp [intOf];omega⟩
     | true =>
      have hq1:(x.uw.toList == wd.toList)=true:=by rw [beq_str];exact hq
      rw [hq,if_pos rfl] at HTK;clear ho hu hq;have BLS:=hid BL.out.size
      go_wp2_with (first
       | (at_builtin;refine Kd.R_append (Kd.fixed kRow w) (w0:=w) w.heap.size rfl (.tmp 44) (.tmp 49) 53 60 (.agg row0) 136 rfl Tryz.underlying53 infoRow rfl (show 0<11 by decide) (by omega) (.slice Ao acc.length co) acc x [.string x.obj,.string x.un,.string x.uw,.string x.name,.int .i64 x.want,.slice A5 x.words.length c5,.int .u32 x.lo,.int .u32 x.hi,.bool x.auto,.int .i64 x.times,.string x.dflt] (fun _=>True) (fun _=>False) rfl rfl (kRow_mk w x HL5.out HC5.out) (fun _ h=>h.elim) (fun _ _=>trivial) RO.out BL.out BLS.out (by have:=HAL.out;omega) ?_;intro v6 w6 ho hb hg hat;have R6:Hid (Kd.R (Kd.fixed kRow w) 60 w6 w.heap.size (fun _=>True) v6 (underR (l.take (j + 1)) obj nm wd)):=hid (by rw [HTK.out];exact ho);have B6:=hid hb;clear ho hb hg hat x0 x1 x2 x3 x4 x5 x6 x7 x8 x9 x10))
      exact ⟨⟨j + 1,by go_num,by omega,R6,B6⟩,by simp [intOf];omega⟩
  ·obtain rfl:j=n:=by omega
   have RF:Hid (Kd.R (Kd.fixed kRow w) 60 wr w.heap.size (fun _=>True) u9 (underR l obj nm wd)):=hid (by
    have h:=RO.out;rw [List.take_of_length_le (by rw [HN.out];exact Nat.le_refl _)] at h
    exact h)
   go_wp2_with fail
   go_ret
   exact ⟨⟨_,rfl,RF.out⟩,BL.out⟩
theorem rdefault_calls (x:SR) (A:Option Addr) (c:Nat) (w:World) :
  Calls Tryz.prog 113 #[rowV x A c] w fun e w'=>e=.returned (.agg (entC (dfltR x) (.slice none 0 0)))/\Below w.heap.size w w':=by
 obtain ⟨xo,xn,xw,xm,want,words,lo,hi,auto,times,dflt⟩:=x;unfold rowV rowC;dsimp only;generalize words.length=nw;obtain ⟨D,hD⟩:∃ D,D=dfltR ⟨xo,xn,xw,xm,want,words,lo,hi,auto,times,dflt⟩:=⟨_,rfl⟩;rw [<- hD];unfold dfltR at hD;dsimp only at hD;have tk1:True:=trivial;have tk2:True:=trivial;have tk3:True:=trivial
 go_enter Tryz.func113,Tryz.ntmps113
 go_upto_region 3 with (first
  | (have _t:=tk1;refine run_event rfl (.box 60 _) rfl (.pointer (some ⟨w.heap.size,0,none⟩)) (w.alloc (.cells #[.string xo,.string xn,.string xw,.string xm,.int .i64 want,.slice A nw c,.int .u32 lo,.int .u32 hi,.bool auto,.int .i64 times,.string dflt] 60)) (by kernel_rfl) ?_;intro w1 hw1;have Bw1:Hid (Below w.heap.size w w1):=hid (by rw [hw1];exact alloc_below _ _);have Ew1:Hid (w1.heap[w.heap.size]?=some (.cells #[.string xo,.string xn,.string xw,.string xm,.int .i64 want,.slice A nw c,.int .u32 lo,.int .u32 hi,.bool auto,.int .i64 times,.string dflt] 60 (0,0))):=hid (by rw [hw1];exact heap_alloc_new _ _);clear hw1 tk1 _t)
  | (have _t:=tk2;refine run_event rfl (.alloc 80) rfl (.pointer (some ⟨w1.heap.size,0,none⟩)) (w1.alloc (.cells ent0 80)) (by kernel_rfl) ?_;intro w2 hw2;have Bw2:Hid (Below w1.heap.size w1 w2):=hid (by rw [hw2];exact alloc_below _ _);have Ew2:Hid (w2.heap[w1.heap.size]?=some (.cells ent0 80 (0,0))):=hid (by rw [hw2];exact heap_alloc_new _ _);clear hw2 tk2 _t;have r3:w2.cell? ⟨w.heap.size,3,none⟩=some (.string xm):=(cell_row (blk_b Ew1.out Bw2.out) 3).trans rfl)
  | (have _t:=tk3;refine run_event rfl (.alloc 80) rfl (.pointer (some ⟨w2.heap.size,0,none⟩)) (w2.alloc (.cells ent0 80)) (by kernel_rfl) ?_;intro w3 hw3;have Bw3:Hid (Below w2.heap.size w2 w3):=hid (by rw [hw3];exact alloc_below _ _);have Ew3:Hid (w3.heap[w2.heap.size]?=some (.cells ent0 80 (0,0))):=hid (by rw [hw3];exact heap_alloc_new _ _);clear hw3 tk3 _t)
  | ((with_reducible refine gate_store (t:=80) (p:=3) rfl ?_);refine put_event rfl 80 _ _ rfl w2.heap.size #[.string xm,.int .i64 0,.int .i64 0,.int .i64 0,.int .u32 0,.bool false,.string ⟨#[]⟩,.slice none 0 0] rfl rfl 80 ent0 Ew3.out (by kernel_rfl) rfl (by simp [Value.oneCell']) w2.heap.size (Nat.le_refl _) ?_;intro w4 hbw4 hBw4 hsw4 how4;have Gw4:Hid (w4.heap[w2.heap.size]?=some (.cells #[.string xm,.int .i64 0,.int .i64 0,.int .i64 0,.int .u32 0,.bool false,.string ⟨#[]⟩,.slice none 0 0] 80 (0,0))):=hid hbw4;have Dw4:Hid (Below w2.heap.size w2 w4):=hid (Bw3.out.trans hBw4);clear hbw4 hBw4 hsw4 how4;clear r3 Bw3 Ew3))
 have B24:Hid (Below w1.heap.size w1 w4):=hid (Bw2.out.trans (Dw4.out.mono Bw2.out.size));have B0:Hid (Below w.heap.size w w4):=hid (Bw1.out.trans (B24.out.mono Bw1.out.size));have GR:=hid (blk_b Ew1.out B24.out);have GT:=hid (blk_b Ew2.out Dw4.out);have GX:=Gw4;have HZ:Hid (w.heap.size<=w2.heap.size/\w.heap.size<=w1.heap.size/\w1.heap.size<w2.heap.size):=hid ⟨by have:=Bw1.out.size;have:=Bw2.out.size;omega,Bw1.out.size,(gS.1 Ew2.out).1⟩;have r3:w4.cell? ⟨w.heap.size,4,none⟩=some (.int .i64 want):=(cell_row GR.out 4).trans rfl;have r9:w4.cell? ⟨w.heap.size,10,none⟩=some (.string dflt):=(cell_row GR.out 10).trans rfl;clear Bw1 Ew1 Bw2 Ew2 Dw4 Gw4 B24 GR
 by_cases h1:dflt=sAuto
 ·rw [if_pos h1] at hD
  subst hD;subst h1
  go_wp2_with (first
   | ((with_reducible refine gate_store (t:=4) (p:=14) rfl ?_);refine cell_event rfl 4 _ _ rfl w2.heap.size 5 (.bool true) rfl rfl rfl (thereR GX.out (by simp)) (by kernel_rfl) w.heap.size HZ.out.1 ?_;intro w8 hw8 hB8 hs8;obtain ⟨hr8,hk8,hz8⟩:=row1 GX.out hw8;have GX8:Hid (w8.heap[w2.heap.size]?=some (.cells #[.string xm,.int .i64 0,.int .i64 0,.int .i64 0,.int .u32 0,.bool true,.string ⟨#[]⟩,.slice none 0 0] 80 (0,0))):=hid hr8;have GT8:=hid ((hk8 w1.heap.size (by have:=HZ.out;omega)).trans GT.out);have B8:Hid (Below w.heap.size w w8):=hid (B0.out.trans hB8);clear hw8 hB8 hs8 hr8 hk8 hz8;obtain ⟨e0,e1,e2,e3,e4,e5,e6,e7⟩:=ent_cells GX8.out)
   | ((with_reducible refine gate_store (t:=80) (p:=2) rfl ?_);refine put_event rfl 80 _ _ rfl w1.heap.size #[.string xm,.int .i64 0,.int .i64 0,.int .i64 0,.int .u32 0,.bool true,.string ⟨#[]⟩,.slice none 0 0] rfl rfl 80 ent0 GT8.out (by kernel_rfl) rfl (by simp [Value.oneCell']) w.heap.size HZ.out.2.1 ?_;intro w9 hb9 hB9 hs9 ho9;have B9:Hid (Below w.heap.size w w9):=hid (B8.out.trans hB9);have G9:=hid hb9;clear hb9 hB9 hs9 ho9 e0 e1 e2 e3 e4 e5 e6 e7))
  refine bodyPost_ret (results_single (r:=.cell 2 80) rfl (.cell w1.heap.size 80 #[.string xm,.int .i64 0,.int .i64 0,.int .i64 0,.int .u32 0,.bool true,.string ⟨#[]⟩,.slice none 0 0] (0,0) _ rfl G9.out Tryz.underlying80 rfl (by kernel_rfl) .nil)) rfl ?_
  exact ⟨rfl,B9.out⟩
 ·rw [if_neg h1] at hD
  have hd1:(dflt.toList == [65,85,84,79])=false:=by rw [show ([65,85,84,79]:List UInt8)=sAuto.toList from by rw [ByteArray.toList_eq],beq_str];simp [h1]
  by_cases h2:want=1
  ·rw [if_pos h2] at hD
   subst hD;have hw1:(want == 1)=true:=by simp [h2]
   clear h1 h2;obtain ⟨e0,e1,e2,e3,e4,e5,e6,e7⟩:=ent_cells GX.out
   go_wp2_with (first
    | ((with_reducible refine gate_store (t:=80) (p:=2) rfl ?_);refine put_event rfl 80 _ _ rfl w1.heap.size #[.string xm,.int .i64 0,.int .i64 0,.int .i64 0,.int .u32 0,.bool false,.string ⟨#[]⟩,.slice none 0 0] rfl rfl 80 ent0 GT.out (by kernel_rfl) rfl (by simp [Value.oneCell']) w.heap.size HZ.out.2.1 ?_;intro w9 hb9 hB9 hs9 ho9;have B9:Hid (Below w.heap.size w w9):=hid (B0.out.trans hB9);have G9:=hid hb9;clear hb9 hB9 hs9 ho9 e0 e1 e2 e3 e4 e5 e6 e7))
   refine bodyPost_ret (results_single (r:=.cell 2 80) rfl (.cell w1.heap.size 80 #[.string xm,.int .i64 0,.int .i64 0,.int .i64 0,.int .u32 0,.bool false,.string ⟨#[]⟩,.slice none 0 0] (0,0) _ rfl G9.out Tryz.underlying80 rfl (by kernel_rfl) .nil)) rfl ?_
   exact ⟨rfl,B9.out⟩
  ·rw [if_neg h2] at hD
   subst hD;have hw1:(want == 1)=false:=by simp [h2]
   clear h1 h2
   go_wp2_with (first
    | ((with_reducible refine gate_store (t:=9) (p:=9) rfl ?_);refine cell_event rfl 9 _ _ rfl w2.heap.size 6 (.string dflt) rfl rfl rfl (thereR GX.out (by simp)) (by kernel_rfl) w.heap.size HZ.out.1 ?_;intro w8 hw8 hB8 hs8;obtain ⟨hr8,hk8,hz8⟩:=row1 GX.out hw8;have GX8:Hid (w8.heap[w2.heap.size]?=some (.cells #[.string xm,.int .i64 0,.int .i64 0,.int .i64 0,.int .u32 0,.bool false,.string dflt,.slice none 0 0] 80 (0,0))):=hid hr8;have GT8:=hid ((hk8 w1.heap.size (by have:=HZ.out;omega)).trans GT.out);have B8:Hid (Below w.heap.size w w8):=hid (B0.out.trans hB8);clear hw8 hB8 hs8 hr8 hk8 hz8;obtain ⟨e0,e1,e2,e3,e4,e5,e6,e7⟩:=ent_cells GX8.out)
    | ((with_reducible refine gate_store (t:=80) (p:=2) rfl ?_);refine put_event rfl 80 _ _ rfl w1.heap.size #[.string xm,.int .i64 0,.int .i64 0,.int .i64 0,.int .u32 0,.bool false,.string dflt,.slice none 0 0] rfl rfl 80 ent0 GT8.out (by kernel_rfl) rfl (by simp [Value.oneCell']) w.heap.size HZ.out.2.1 ?_;intro w9 hb9 hB9 hs9 ho9;have B9:Hid (Below w.heap.size w w9):=hid (B8.out.trans hB9);have G9:=hid hb9;clear hb9 hB9 hs9 ho9 e0 e1 e2 e3 e4 e5 e6 e7))
   refine bodyPost_ret (results_single (r:=.cell 2 80) rfl (.cell w1.heap.size 80 #[.string xm,.int .i64 0,.int .i64 0,.int .i64 0,.int .u32 0,.bool false,.string dflt,.slice none 0 0] (0,0) _ rfl G9.out Tryz.underlying80 rfl (by kernel_rfl) .nil)) rfl ?_
   exact ⟨rfl,B9.out⟩
def RVal (n:ByteArray) (sp:SP) (r:Except Int SE) (w:World) (e:Ending) (w':World):Prop :=
 Below w.heap.size w w'/\match r with
  | .ok x=>e=.returned (.tuple #[.agg (entC x (.slice none 0 0)),.int .i64 0])
  | .error c=>e=.returned (.tuple #[.agg (entC ⟨n,sp,0,false,⟨#[]⟩,[]⟩ (.slice none 0 0)),.int .i64 c])
theorem rvalued_calls (x:SR) (A:Option Addr) (c:Nat) (a:SA) (A9:Option Addr) (c9:Nat) (w:World) (hC:Kd.C Kd.string w A x.words.length x.words) :
  Calls Tryz.prog 112 #[rowV x A c,attV a A9 c9] w (RVal a.f0 a.f1 (valR x a.f2 a.f0 a.f1) w):=by
 obtain ⟨n,sp,v,br,ps,no,note⟩:=a;have HIN:Hid (∀ W,Below w.heap.size w W->Calls Tryz.prog 70 #[.slice A x.words.length c,.string v.f1] W fun e w'=>e=.returned (.bool (inB x.words v.f1))/\W=w'):=hid (fun W hB=>(rin_calls x.words v.f1 A c W (Kd.C_below hC hB) _ rfl).mono fun e w' ⟨h1,h2⟩=>⟨h1,h2.symm⟩);clear hC;obtain ⟨k,t,vn,vh⟩:=v;obtain ⟨xo,xn,xw,xm,want,words,lo,hi,auto,times,dflt⟩:=x;unfold rowV rowC attV attC valR;dsimp only at HIN ⊢;generalize hnw:words.length=nw at HIN ⊢;clear hnw;generalize hcb:inB words t=cb at HIN ⊢;clear hcb;generalize ps.length=np
 obtain ⟨R,hR⟩:∃ R,(if want=1 then
   if (auto&&decide (k=1)&&decide (t=sAuto))=true then (Except.ok ⟨n,sp,0,true,⟨#[]⟩,[]⟩:Except Int SE)
   else if k≠2 then .error 52 else if vn<lo∨hi<vn then .error 53 else .ok ⟨n,sp,vn,false,⟨#[]⟩,[]⟩
  else if want=4 then if k≠3∨(0<nw/\cb=false) then .error 52 else .ok ⟨n,sp,0,false,t,[]⟩
  else if k≠1∨(want=2/\cb=false) then .error 52 else .ok ⟨n,sp,0,false,t,[]⟩)=R:=⟨_,rfl⟩
 rw [hR];have tk1:True:=trivial;have tk2:True:=trivial;have tk3:True:=trivial;have tk4:True:=trivial;have tk5:True:=trivial
 go_enter Tryz.func112,Tryz.ntmps112
 go_upto_region 3 with (first
  | (have _t:=tk1;refine run_event rfl (.box 60 _) rfl (.pointer (some ⟨w.heap.size,0,none⟩)) (w.alloc (.cells #[.string xo,.string xn,.string xw,.string xm,.int .i64 want,.slice A nw c,.int .u32 lo,.int .u32 hi,.bool auto,.int .i64 times,.string dflt] 60)) (by kernel_rfl) ?_;intro w1 hw1;have Bw1:Hid (Below w.heap.size w w1):=hid (by rw [hw1];exact alloc_below _ _);have Ew1:Hid (w1.heap[w.heap.size]?=some (.cells #[.string xo,.string xn,.string xw,.string xm,.int .i64 want,.slice A nw c,.int .u32 lo,.int .u32 hi,.bool auto,.int .i64 times,.string dflt] 60 (0,0))):=hid (by rw [hw1];exact heap_alloc_new _ _);clear hw1 tk1 _t)
  | (have _t:=tk2;refine run_event rfl (.box 50 _) rfl (.pointer (some ⟨w1.heap.size,0,none⟩)) (w1.alloc (.cells #[.string n,.int .i64 sp.f0,.int .i64 sp.f1,.int .i64 sp.f2,.int .i64 k,.string t,.int .u32 vn,.bool vh,.bool br,.slice A9 np c9,.bool no,.string note] 50)) (by kernel_rfl) ?_;intro w2 hw2;have Bw2:Hid (Below w1.heap.size w1 w2):=hid (by rw [hw2];exact alloc_below _ _);have Ew2:Hid (w2.heap[w1.heap.size]?=some (.cells #[.string n,.int .i64 sp.f0,.int .i64 sp.f1,.int .i64 sp.f2,.int .i64 k,.string t,.int .u32 vn,.bool vh,.bool br,.slice A9 np c9,.bool no,.string note] 50 (0,0))):=hid (by rw [hw2];exact heap_alloc_new _ _);clear hw2 tk2 _t)
  | (have _t:=tk3;refine run_event rfl (.alloc 80) rfl (.pointer (some ⟨w2.heap.size,0,none⟩)) (w2.alloc (.cells ent0 80)) (by kernel_rfl) ?_;intro w3 hw3;have Bw3:Hid (Below w2.heap.size w2 w3):=hid (by rw [hw3];exact alloc_below _ _);have Ew3:Hid (w3.heap[w2.heap.size]?=some (.cells ent0 80 (0,0))):=hid (by rw [hw3];exact heap_alloc_new _ _);clear hw3 tk3 _t;have EA:=hid (blk_b Ew2.out Bw3.out);have a0:w3.cell? ⟨w1.heap.size,0,none⟩=some (.string n):=(cell_row EA.out 0).trans rfl;have a1:w3.cell? ⟨w1.heap.size,1,none⟩=some (.int .i64 sp.f0):=(cell_row EA.out 1).trans rfl;have a2:w3.cell? ⟨w1.heap.size,2,none⟩=some (.int .i64 sp.f1):=(cell_row EA.out 2).trans rfl;have a3:w3.cell? ⟨w1.heap.size,3,none⟩=some (.int .i64 sp.f2):=(cell_row EA.out 3).trans rfl)
  | (have _t:=tk4;refine run_event rfl (.alloc 80) rfl (.pointer (some ⟨w3.heap.size,0,none⟩)) (w3.alloc (.cells ent0 80)) (by kernel_rfl) ?_;intro w4 hw4;have Bw4:Hid (Below w3.heap.size w3 w4):=hid (by rw [hw4];exact alloc_below _ _);have Ew4:Hid (w4.heap[w3.heap.size]?=some (.cells ent0 80 (0,0))):=hid (by rw [hw4];exact heap_alloc_new _ _);clear hw4 tk4 _t)
  | ((with_reducible refine gate_store (t:=80) (p:=6) rfl ?_);refine put_event rfl 80 _ _ rfl w3.heap.size #[.string n,.int .i64 sp.f0,.int .i64 sp.f1,.int .i64 sp.f2,.int .u32 0,.bool false,.string ⟨#[]⟩,.slice none 0 0] rfl rfl 80 ent0 Ew4.out (by kernel_rfl) rfl (by simp [Value.oneCell']) w3.heap.size (Nat.le_refl _) ?_;intro w5 hbw5 hBw5 hsw5 how5;have Gw5:Hid (w5.heap[w3.heap.size]?=some (.cells #[.string n,.int .i64 sp.f0,.int .i64 sp.f1,.int .i64 sp.f2,.int .u32 0,.bool false,.string ⟨#[]⟩,.slice none 0 0] 80 (0,0))):=hid hbw5;have Dw5:Hid (Below w3.heap.size w3 w5):=hid (Bw4.out.trans hBw5);clear hbw5 hBw5 hsw5 how5;clear a0 a1 a2 a3 Bw4 Ew4;have EA5:=hid (blk_b EA.out Dw5.out);have a4:w5.cell? ⟨w1.heap.size,4,none⟩=some (.int .i64 k):=(cell_row EA5.out 4).trans rfl;have a5:w5.cell? ⟨w1.heap.size,5,none⟩=some (.string t):=(cell_row EA5.out 5).trans rfl;have a6:w5.cell? ⟨w1.heap.size,6,none⟩=some (.int .u32 vn):=(cell_row EA5.out 6).trans rfl;have a7:w5.cell? ⟨w1.heap.size,7,none⟩=some (.bool vh):=(cell_row EA5.out 7).trans rfl)
  | (have _t:=tk5;refine run_event rfl (.alloc 48) rfl (.pointer (some ⟨w5.heap.size,0,none⟩)) (w5.alloc (.cells #[.int .i64 0,.string ⟨#[]⟩,.int .u32 0,.bool false] 48)) (by kernel_rfl) ?_;intro w6 hw6;have Bw6:Hid (Below w5.heap.size w5 w6):=hid (by rw [hw6];exact alloc_below _ _);have Ew6:Hid (w6.heap[w5.heap.size]?=some (.cells #[.int .i64 0,.string ⟨#[]⟩,.int .u32 0,.bool false] 48 (0,0))):=hid (by rw [hw6];exact heap_alloc_new _ _);clear hw6 tk5 _t)
  | ((with_reducible refine gate_store (t:=48) (p:=7) rfl ?_);refine put_event rfl 48 _ _ rfl w5.heap.size #[.int .i64 k,.string t,.int .u32 vn,.bool vh] rfl rfl 48 #[.int .i64 0,.string ⟨#[]⟩,.int .u32 0,.bool false] Ew6.out (by kernel_rfl) rfl (by simp [Value.oneCell']) w5.heap.size (Nat.le_refl _) ?_;intro w8 hbw8 hBw8 hsw8 how8;have Gw8:Hid (w8.heap[w5.heap.size]?=some (.cells #[.int .i64 k,.string t,.int .u32 vn,.bool vh] 48 (0,0))):=hid hbw8;have Dw8:Hid (Below w5.heap.size w5 w8):=hid (Bw6.out.trans hBw8);clear hbw8 hBw8 hsw8 how8;clear a4 a5 a6 a7 Bw6 Ew6))
 have Z3:Hid (w.heap.size<=w1.heap.size/\w1.heap.size<=w2.heap.size/\w2.heap.size<w3.heap.size/\w3.heap.size<w5.heap.size/\w5.heap.size<=w8.heap.size):=hid ⟨Bw1.out.size,Bw2.out.size,(gS.1 Ew3.out).1,(gS.1 Gw5.out).1,Dw8.out.size⟩;have B38:Hid (Below w3.heap.size w3 w8):=hid (Dw5.out.trans (Dw8.out.mono Dw5.out.size));have B28:Hid (Below w2.heap.size w2 w8):=hid (Bw3.out.trans (B38.out.mono Bw3.out.size));have B18:Hid (Below w1.heap.size w1 w8):=hid (Bw2.out.trans (B28.out.mono Bw2.out.size));have B0:Hid (Below w.heap.size w w8):=hid (Bw1.out.trans (B18.out.mono Bw1.out.size));have GR:=hid (blk_b Ew1.out B18.out);have GT:=hid (blk_b Ew3.out B38.out);have GX:=hid (blk_b Gw5.out Dw8.out);have GV:=Gw8;have HZ:Hid (w.heap.size<=w3.heap.size/\w.heap.size<=w2.heap.size/\w2.heap.size<w3.heap.size):=hid (by have:=Z3.out;omega);have r3:w8.cell? ⟨w.heap.size,4,none⟩=some (.int .i64 want):=(cell_row GR.out 4).trans rfl;have r4:w8.cell? ⟨w.heap.size,5,none⟩=some (.slice A nw c):=(cell_row GR.out 5).trans rfl;have r5:w8.cell? ⟨w.heap.size,6,none⟩=some (.int .u32 lo):=(cell_row GR.out 6).trans rfl;have r6:w8.cell? ⟨w.heap.size,7,none⟩=some (.int .u32 hi):=(cell_row GR.out 7).trans rfl;have r7:w8.cell? ⟨w.heap.size,8,none⟩=some (.bool auto):=(cell_row GR.out 8).trans rfl;have v0:w8.cell? ⟨w5.heap.size,0,none⟩=some (.int .i64 k):=(cell_row GV.out 0).trans rfl;have v1:w8.cell? ⟨w5.heap.size,1,none⟩=some (.string t):=(cell_row GV.out 1).trans rfl;have v2:w8.cell? ⟨w5.heap.size,2,none⟩=some (.int .u32 vn):=(cell_row GV.out 2).trans rfl;clear Bw1 Bw2 Bw3 Dw5 Dw8 Ew1 Ew2 Ew3 Gw5 Gw8 EA EA5 B38 B28 B18 GR Z3
 by_cases h1:want=1
 ·have hw1:(want == 1)=true:=by simp [h1]
  rw [if_pos h1] at hR;cases hau:(auto&&decide (k=1)&&decide (t=sAuto)) with
  | true =>
   rw [hau,if_pos rfl] at hR;simp only [Bool.and_eq_true,decide_eq_true_eq] at hau;obtain ⟨⟨rfl,rfl⟩,rfl⟩:=hau;subst hR
   go_wp2_with (first
    | (go_at_call 70;refine (HIN.out w8 B0.out).mono ?_;rintro e wq ⟨rfl,rfl⟩)
    | ((with_reducible refine gate_store (t:=4) (p:=48) rfl ?_);refine cell_event rfl 4 _ _ rfl w3.heap.size 5 (.bool true) rfl rfl rfl (thereR GX.out (by simp)) (by kernel_rfl) w.heap.size HZ.out.1 ?_;intro wf hw8 hB8 hs8;obtain ⟨hr8,hk8,hz8⟩:=row1 GX.out hw8;have GX8:Hid (wf.heap[w3.heap.size]?=some (.cells #[.string n,.int .i64 sp.f0,.int .i64 sp.f1,.int .i64 sp.f2,.int .u32 0,.bool true,.string ⟨#[]⟩,.slice none 0 0] 80 (0,0))):=hid hr8;have GT8:=hid ((hk8 w2.heap.size (by have:=HZ.out;omega)).trans GT.out);have B8:Hid (Below w.heap.size w wf):=hid (B0.out.trans hB8);clear hw8 hB8 hs8 hr8 hk8 hz8;obtain ⟨e0,e1,e2,e3,e4,e5,e6,e7⟩:=ent_cells GX8.out)
    | ((with_reducible refine gate_store (t:=80) (p:=4) rfl ?_);refine put_event rfl 80 _ _ rfl w2.heap.size #[.string n,.int .i64 sp.f0,.int .i64 sp.f1,.int .i64 sp.f2,.int .u32 0,.bool true,.string ⟨#[]⟩,.slice none 0 0] rfl rfl 80 ent0 GT8.out (by kernel_rfl) rfl (by simp [Value.oneCell']) w.heap.size HZ.out.2.1 ?_;intro w9 hb9 hB9 hs9 ho9;have B9:Hid (Below w.heap.size w w9):=hid (B8.out.trans hB9);have G9:=hid hb9;clear hb9 hB9 hs9 ho9 e0 e1 e2 e3 e4 e5 e6 e7))
   refine bodyPost_ret (results_list (rs:=[.cell 4 80,.tmp 5]) rfl (by simp) (.cell w2.heap.size 80 #[.string n,.int .i64 sp.f0,.int .i64 sp.f1,.int .i64 sp.f2,.int .u32 0,.bool true,.string ⟨#[]⟩,.slice none 0 0] (0,0) _ rfl G9.out Tryz.underlying80 rfl (by kernel_rfl) (.tmp .nil))) rfl ?_
   exact ⟨B9.out,rfl⟩
  | false =>
   rw [hau] at hR;rw [if_neg (show ¬ (false=true) by decide)] at hR;have hpk:∃ q1 q2:Bool,(k == 1)=q1/\(t.toList == [65,85,84,79])=q2/\(auto&&(q1&&q2))=false:=⟨_,_,rfl,rfl,by rw [show ([65,85,84,79]:List UInt8)=sAuto.toList from by rw [ByteArray.toList_eq],beq_str];rw [Bool.and_assoc] at hau;exact hau⟩;obtain ⟨q1,q2,hq1,hq2,hqq⟩:=hpk;have hcb3:auto=false∨(auto=true/\q1=false)∨(auto=true/\q1=true/\q2=false):=by cases auto <;> cases q1 <;> cases q2 <;> simp_all
   clear hau
   by_cases hk2:k=2
   ·have hcb3:auto=false∨(auto=true/\q1=false):=by
     rcases hcb3 with h | ⟨h,h'⟩ | ⟨h,h',h''⟩
     ·exact Or.inl h
     ·exact Or.inr ⟨h,h'⟩
     ·rw [<- hq1,hk2] at h';exact absurd h' (by decide)
    have hk3:(k != 2)=false:=by simp [hk2]
    have hk4:(k == 2)=true:=by simp [hk2]
    rw [if_neg (show ¬ (k≠2) by simp [hk2])] at hR
    by_cases hlo:vn<lo
    ·rw [if_pos (Or.inl hlo)] at hR
     have hlo1:decide (vn<lo)=true:=by simp [hlo]
     rcases hcb3 with rfl | ⟨rfl,rfl⟩
     all_goals
      subst hR;obtain ⟨e0,e1,e2,e3,e4,e5,e6,e7⟩:=ent_cells GX.out
      go_wp2_with (first
       | (go_at_call 70;refine (HIN.out w8 B0.out).mono ?_;rintro e wq ⟨rfl,rfl⟩)
       | ((with_reducible refine gate_store (t:=80) (p:=4) rfl ?_);refine put_event rfl 80 _ _ rfl w2.heap.size #[.string n,.int .i64 sp.f0,.int .i64 sp.f1,.int .i64 sp.f2,.int .u32 0,.bool false,.string ⟨#[]⟩,.slice none 0 0] rfl rfl 80 ent0 GT.out (by kernel_rfl) rfl (by simp [Value.oneCell']) w.heap.size HZ.out.2.1 ?_;intro w9 hb9 hB9 hs9 ho9;have B9:Hid (Below w.heap.size w w9):=hid (B0.out.trans hB9);have G9:=hid hb9;clear hb9 hB9 hs9 ho9 e0 e1 e2 e3 e4 e5 e6 e7))
      refine bodyPost_ret (results_list (rs:=[.cell 4 80,.tmp 5]) rfl (by simp) (.cell w2.heap.size 80 #[.string n,.int .i64 sp.f0,.int .i64 sp.f1,.int .i64 sp.f2,.int .u32 0,.bool false,.string ⟨#[]⟩,.slice none 0 0] (0,0) _ rfl G9.out Tryz.underlying80 rfl (by kernel_rfl) (.tmp .nil))) rfl ?_
      exact ⟨B9.out,rfl⟩
    ·have hlo1:decide (vn<lo)=false:=by simp [hlo]
     by_cases hhi:hi<vn
     ·rw [if_pos (Or.inr hhi)] at hR
      have hhi1:decide (hi<vn)=true:=by simp [hhi]
      rcases hcb3 with rfl | ⟨rfl,rfl⟩
      all_goals
       subst hR;obtain ⟨e0,e1,e2,e3,e4,e5,e6,e7⟩:=ent_cells GX.out
       go_wp2_with (first
        | (go_at_call 70;refine (HIN.out w8 B0.out).mono ?_;rintro e wq ⟨rfl,rfl⟩)
        | ((with_reducible refine gate_store (t:=80) (p:=4) rfl ?_);refine put_event rfl 80 _ _ rfl w2.heap.size #[.string n,.int .i64 sp.f0,.int .i64 sp.f1,.int .i64 sp.f2,.int .u32 0,.bool false,.string ⟨#[]⟩,.slice none 0 0] rfl rfl 80 ent0 GT.out (by kernel_rfl) rfl (by simp [Value.oneCell']) w.heap.size HZ.out.2.1 ?_;intro w9 hb9 hB9 hs9 ho9;have B9:Hid (Below w.heap.size w w9):=hid (B0.out.trans hB9);have G9:=hid hb9;clear hb9 hB9 hs9 ho9 e0 e1 e2 e3 e4 e5 e6 e7))
       refine bodyPost_ret (results_list (rs:=[.cell 4 80,.tmp 5]) rfl (by simp) (.cell w2.heap.size 80 #[.string n,.int .i64 sp.f0,.int .i64 sp.f1,.int .i64 sp.f2,.int .u32 0,.bool false,.string ⟨#[]⟩,.slice none 0 0] (0,0) _ rfl G9.out Tryz.underlying80 rfl (by kernel_rfl) (.tmp .nil))) rfl ?_
       exact ⟨B9.out,rfl⟩
     ·have hhi1:decide (hi<vn)=false:=by simp [hhi]
      rw [if_neg (by rintro (h | h);exact hlo h;exact hhi h)] at hR;rcases hcb3 with rfl | ⟨rfl,rfl⟩
      all_goals
       subst hR
       go_wp2_with (first
        | (go_at_call 70;refine (HIN.out w8 B0.out).mono ?_;rintro e wq ⟨rfl,rfl⟩)
        | ((with_reducible refine gate_store (t:=46) (p:=69) rfl ?_);refine cell_event rfl 46 _ _ rfl w3.heap.size 4 (.int .u32 vn) rfl rfl rfl (thereR GX.out (by simp)) (by kernel_rfl) w.heap.size HZ.out.1 ?_;intro wf hw8 hB8 hs8;obtain ⟨hr8,hk8,hz8⟩:=row1 GX.out hw8;have GX8:Hid (wf.heap[w3.heap.size]?=some (.cells #[.string n,.int .i64 sp.f0,.int .i64 sp.f1,.int .i64 sp.f2,.int .u32 vn,.bool false,.string ⟨#[]⟩,.slice none 0 0] 80 (0,0))):=hid hr8;have GT8:=hid ((hk8 w2.heap.size (by have:=HZ.out;omega)).trans GT.out);have B8:Hid (Below w.heap.size w wf):=hid (B0.out.trans hB8);clear hw8 hB8 hs8 hr8 hk8 hz8;obtain ⟨e0,e1,e2,e3,e4,e5,e6,e7⟩:=ent_cells GX8.out)
        | ((with_reducible refine gate_store (t:=80) (p:=4) rfl ?_);refine put_event rfl 80 _ _ rfl w2.heap.size #[.string n,.int .i64 sp.f0,.int .i64 sp.f1,.int .i64 sp.f2,.int .u32 vn,.bool false,.string ⟨#[]⟩,.slice none 0 0] rfl rfl 80 ent0 GT8.out (by kernel_rfl) rfl (by simp [Value.oneCell']) w.heap.size HZ.out.2.1 ?_;intro w9 hb9 hB9 hs9 ho9;have B9:Hid (Below w.heap.size w w9):=hid (B8.out.trans hB9);have G9:=hid hb9;clear hb9 hB9 hs9 ho9 e0 e1 e2 e3 e4 e5 e6 e7))
       refine bodyPost_ret (results_list (rs:=[.cell 4 80,.tmp 5]) rfl (by simp) (.cell w2.heap.size 80 #[.string n,.int .i64 sp.f0,.int .i64 sp.f1,.int .i64 sp.f2,.int .u32 vn,.bool false,.string ⟨#[]⟩,.slice none 0 0] (0,0) _ rfl G9.out Tryz.underlying80 rfl (by kernel_rfl) (.tmp .nil))) rfl ?_
       exact ⟨B9.out,rfl⟩
   ·have hk3:(k != 2)=true:=by simp [hk2]
    have hk4:(k == 2)=false:=by simp [hk2]
    rw [if_pos hk2] at hR;rcases hcb3 with rfl | ⟨rfl,rfl⟩ | ⟨rfl,rfl,rfl⟩
    all_goals
     subst hR;obtain ⟨e0,e1,e2,e3,e4,e5,e6,e7⟩:=ent_cells GX.out
     go_wp2_with (first
      | (go_at_call 70;refine (HIN.out w8 B0.out).mono ?_;rintro e wq ⟨rfl,rfl⟩)
      | ((with_reducible refine gate_store (t:=80) (p:=4) rfl ?_);refine put_event rfl 80 _ _ rfl w2.heap.size #[.string n,.int .i64 sp.f0,.int .i64 sp.f1,.int .i64 sp.f2,.int .u32 0,.bool false,.string ⟨#[]⟩,.slice none 0 0] rfl rfl 80 ent0 GT.out (by kernel_rfl) rfl (by simp [Value.oneCell']) w.heap.size HZ.out.2.1 ?_;intro w9 hb9 hB9 hs9 ho9;have B9:Hid (Below w.heap.size w w9):=hid (B0.out.trans hB9);have G9:=hid hb9;clear hb9 hB9 hs9 ho9 e0 e1 e2 e3 e4 e5 e6 e7))
     refine bodyPost_ret (results_list (rs:=[.cell 4 80,.tmp 5]) rfl (by simp) (.cell w2.heap.size 80 #[.string n,.int .i64 sp.f0,.int .i64 sp.f1,.int .i64 sp.f2,.int .u32 0,.bool false,.string ⟨#[]⟩,.slice none 0 0] (0,0) _ rfl G9.out Tryz.underlying80 rfl (by kernel_rfl) (.tmp .nil))) rfl ?_
     exact ⟨B9.out,rfl⟩
 ·have hw1:(want == 1)=false:=by simp [h1]
  rw [if_neg h1] at hR
  by_cases h4:want=4
  ·have hw4:(want == 4)=true:=by simp [h4]
   rw [if_pos h4] at hR
   by_cases hk3:k=3
   ·have hk4:(k != 3)=false:=by simp [hk3]
    have hk5:(k == 3)=true:=by simp [hk3]
    rcases Nat.eq_zero_or_pos nw with hz | hz
    ·have hwq:¬ 0<nw:=by omega
     rw [if_neg (by rintro (h | h);exact h hk3;exact hwq h.1)] at hR;clear hwq;subst hz;subst hR
     go_wp2_with (first
      | (go_at_call 70;refine (HIN.out w8 B0.out).mono ?_;rintro e wq ⟨rfl,rfl⟩)
      | ((with_reducible refine gate_store (t:=9) (p:=93) rfl ?_);refine cell_event rfl 9 _ _ rfl w3.heap.size 6 (.string t) rfl rfl rfl (thereR GX.out (by simp)) (by kernel_rfl) w.heap.size HZ.out.1 ?_;intro wf hw8 hB8 hs8;obtain ⟨hr8,hk8,hz8⟩:=row1 GX.out hw8;have GX8:Hid (wf.heap[w3.heap.size]?=some (.cells #[.string n,.int .i64 sp.f0,.int .i64 sp.f1,.int .i64 sp.f2,.int .u32 0,.bool false,.string t,.slice none 0 0] 80 (0,0))):=hid hr8;have GT8:=hid ((hk8 w2.heap.size (by have:=HZ.out;omega)).trans GT.out);have B8:Hid (Below w.heap.size w wf):=hid (B0.out.trans hB8);clear hw8 hB8 hs8 hr8 hk8 hz8;obtain ⟨e0,e1,e2,e3,e4,e5,e6,e7⟩:=ent_cells GX8.out)
      | ((with_reducible refine gate_store (t:=80) (p:=4) rfl ?_);refine put_event rfl 80 _ _ rfl w2.heap.size #[.string n,.int .i64 sp.f0,.int .i64 sp.f1,.int .i64 sp.f2,.int .u32 0,.bool false,.string t,.slice none 0 0] rfl rfl 80 ent0 GT8.out (by kernel_rfl) rfl (by simp [Value.oneCell']) w.heap.size HZ.out.2.1 ?_;intro w9 hb9 hB9 hs9 ho9;have B9:Hid (Below w.heap.size w w9):=hid (B8.out.trans hB9);have G9:=hid hb9;clear hb9 hB9 hs9 ho9 e0 e1 e2 e3 e4 e5 e6 e7))
     refine bodyPost_ret (results_list (rs:=[.cell 4 80,.tmp 5]) rfl (by simp) (.cell w2.heap.size 80 #[.string n,.int .i64 sp.f0,.int .i64 sp.f1,.int .i64 sp.f2,.int .u32 0,.bool false,.string t,.slice none 0 0] (0,0) _ rfl G9.out Tryz.underlying80 rfl (by kernel_rfl) (.tmp .nil))) rfl ?_
     exact ⟨B9.out,rfl⟩
    ·have hwq:0<nw:=hz
     have hwi:(0:Int)<(nw:Int):=by omega
     cases cb with
     | true =>
      rw [if_neg (by rintro (h | h);exact h hk3;exact absurd h.2 (by decide))] at hR;subst hR
      go_wp2_with (first
       | (go_at_call 70;refine (HIN.out w8 B0.out).mono ?_;rintro e wq ⟨rfl,rfl⟩)
       | ((with_reducible refine gate_store (t:=9) (p:=93) rfl ?_);refine cell_event rfl 9 _ _ rfl w3.heap.size 6 (.string t) rfl rfl rfl (thereR GX.out (by simp)) (by kernel_rfl) w.heap.size HZ.out.1 ?_;intro wf hw8 hB8 hs8;obtain ⟨hr8,hk8,hz8⟩:=row1 GX.out hw8;have GX8:Hid (wf.heap[w3.heap.size]?=some (.cells #[.string n,.int .i64 sp.f0,.int .i64 sp.f1,.int .i64 sp.f2,.int .u32 0,.bool false,.string t,.slice none 0 0] 80 (0,0))):=hid hr8;have GT8:=hid ((hk8 w2.heap.size (by have:=HZ.out;omega)).trans GT.out);have B8:Hid (Below w.heap.size w wf):=hid (B0.out.trans hB8);clear hw8 hB8 hs8 hr8 hk8 hz8;obtain ⟨e0,e1,e2,e3,e4,e5,e6,e7⟩:=ent_cells GX8.out)
       | ((with_reducible refine gate_store (t:=80) (p:=4) rfl ?_);refine put_event rfl 80 _ _ rfl w2.heap.size #[.string n,.int .i64 sp.f0,.int .i64 sp.f1,.int .i64 sp.f2,.int .u32 0,.bool false,.string t,.slice none 0 0] rfl rfl 80 ent0 GT8.out (by kernel_rfl) rfl (by simp [Value.oneCell']) w.heap.size HZ.out.2.1 ?_;intro w9 hb9 hB9 hs9 ho9;have B9:Hid (Below w.heap.size w w9):=hid (B8.out.trans hB9);have G9:=hid hb9;clear hb9 hB9 hs9 ho9 e0 e1 e2 e3 e4 e5 e6 e7))
      refine bodyPost_ret (results_list (rs:=[.cell 4 80,.tmp 5]) rfl (by simp) (.cell w2.heap.size 80 #[.string n,.int .i64 sp.f0,.int .i64 sp.f1,.int .i64 sp.f2,.int .u32 0,.bool false,.string t,.slice none 0 0] (0,0) _ rfl G9.out Tryz.underlying80 rfl (by kernel_rfl) (.tmp .nil))) rfl ?_
      exact ⟨B9.out,rfl⟩
     | false =>
      rw [if_pos (Or.inr ⟨hwq,rfl⟩)] at hR;subst hR;obtain ⟨e0,e1,e2,e3,e4,e5,e6,e7⟩:=ent_cells GX.out
      go_wp2_with (first
       | (go_at_call 70;refine (HIN.out w8 B0.out).mono ?_;rintro e wq ⟨rfl,rfl⟩)
       | ((with_reducible refine gate_store (t:=80) (p:=4) rfl ?_);refine put_event rfl 80 _ _ rfl w2.heap.size #[.string n,.int .i64 sp.f0,.int .i64 sp.f1,.int .i64 sp.f2,.int .u32 0,.bool false,.string ⟨#[]⟩,.slice none 0 0] rfl rfl 80 ent0 GT.out (by kernel_rfl) rfl (by simp [Value.oneCell']) w.heap.size HZ.out.2.1 ?_;intro w9 hb9 hB9 hs9 ho9;have B9:Hid (Below w.heap.size w w9):=hid (B0.out.trans hB9);have G9:=hid hb9;clear hb9 hB9 hs9 ho9 e0 e1 e2 e3 e4 e5 e6 e7))
      refine bodyPost_ret (results_list (rs:=[.cell 4 80,.tmp 5]) rfl (by simp) (.cell w2.heap.size 80 #[.string n,.int .i64 sp.f0,.int .i64 sp.f1,.int .i64 sp.f2,.int .u32 0,.bool false,.string ⟨#[]⟩,.slice none 0 0] (0,0) _ rfl G9.out Tryz.underlying80 rfl (by kernel_rfl) (.tmp .nil))) rfl ?_
      exact ⟨B9.out,rfl⟩
   ·have hk4:(k != 3)=true:=by simp [hk3]
    have hk5:(k == 3)=false:=by simp [hk3]
    rw [if_pos (Or.inl hk3)] at hR;subst hR;obtain ⟨e0,e1,e2,e3,e4,e5,e6,e7⟩:=ent_cells GX.out
    go_wp2_with (first
     | (go_at_call 70;refine (HIN.out w8 B0.out).mono ?_;rintro e wq ⟨rfl,rfl⟩)
     | ((with_reducible refine gate_store (t:=80) (p:=4) rfl ?_);refine put_event rfl 80 _ _ rfl w2.heap.size #[.string n,.int .i64 sp.f0,.int .i64 sp.f1,.int .i64 sp.f2,.int .u32 0,.bool false,.string ⟨#[]⟩,.slice none 0 0] rfl rfl 80 ent0 GT.out (by kernel_rfl) rfl (by simp [Value.oneCell']) w.heap.size HZ.out.2.1 ?_;intro w9 hb9 hB9 hs9 ho9;have B9:Hid (Below w.heap.size w w9):=hid (B0.out.trans hB9);have G9:=hid hb9;clear hb9 hB9 hs9 ho9 e0 e1 e2 e3 e4 e5 e6 e7))
    refine bodyPost_ret (results_list (rs:=[.cell 4 80,.tmp 5]) rfl (by simp) (.cell w2.heap.size 80 #[.string n,.int .i64 sp.f0,.int .i64 sp.f1,.int .i64 sp.f2,.int .u32 0,.bool false,.string ⟨#[]⟩,.slice none 0 0] (0,0) _ rfl G9.out Tryz.underlying80 rfl (by kernel_rfl) (.tmp .nil))) rfl ?_
    exact ⟨B9.out,rfl⟩
  ·have hw4:(want == 4)=false:=by simp [h4]
   rw [if_neg h4] at hR
   by_cases hk3:k=1
   ·have hk4:(k != 1)=false:=by simp [hk3]
    have hk5:(k == 1)=true:=by simp [hk3]
    by_cases h2:want=2
    ·have hw2:(want == 2)=true:=by simp [h2]
     cases cb with
     | true =>
      rw [if_neg (by rintro (h | h);exact h hk3;exact absurd h.2 (by decide))] at hR;subst hR
      go_wp2_with (first
       | (go_at_call 70;refine (HIN.out w8 B0.out).mono ?_;rintro e wq ⟨rfl,rfl⟩)
       | ((with_reducible refine gate_store (t:=9) (p:=93) rfl ?_);refine cell_event rfl 9 _ _ rfl w3.heap.size 6 (.string t) rfl rfl rfl (thereR GX.out (by simp)) (by kernel_rfl) w.heap.size HZ.out.1 ?_;intro wf hw8 hB8 hs8;obtain ⟨hr8,hk8,hz8⟩:=row1 GX.out hw8;have GX8:Hid (wf.heap[w3.heap.size]?=some (.cells #[.string n,.int .i64 sp.f0,.int .i64 sp.f1,.int .i64 sp.f2,.int .u32 0,.bool false,.string t,.slice none 0 0] 80 (0,0))):=hid hr8;have GT8:=hid ((hk8 w2.heap.size (by have:=HZ.out;omega)).trans GT.out);have B8:Hid (Below w.heap.size w wf):=hid (B0.out.trans hB8);clear hw8 hB8 hs8 hr8 hk8 hz8;obtain ⟨e0,e1,e2,e3,e4,e5,e6,e7⟩:=ent_cells GX8.out)
       | ((with_reducible refine gate_store (t:=80) (p:=4) rfl ?_);refine put_event rfl 80 _ _ rfl w2.heap.size #[.string n,.int .i64 sp.f0,.int .i64 sp.f1,.int .i64 sp.f2,.int .u32 0,.bool false,.string t,.slice none 0 0] rfl rfl 80 ent0 GT8.out (by kernel_rfl) rfl (by simp [Value.oneCell']) w.heap.size HZ.out.2.1 ?_;intro w9 hb9 hB9 hs9 ho9;have B9:Hid (Below w.heap.size w w9):=hid (B8.out.trans hB9);have G9:=hid hb9;clear hb9 hB9 hs9 ho9 e0 e1 e2 e3 e4 e5 e6 e7))
      refine bodyPost_ret (results_list (rs:=[.cell 4 80,.tmp 5]) rfl (by simp) (.cell w2.heap.size 80 #[.string n,.int .i64 sp.f0,.int .i64 sp.f1,.int .i64 sp.f2,.int .u32 0,.bool false,.string t,.slice none 0 0] (0,0) _ rfl G9.out Tryz.underlying80 rfl (by kernel_rfl) (.tmp .nil))) rfl ?_
      exact ⟨B9.out,rfl⟩
     | false =>
      rw [if_pos (Or.inr ⟨h2,rfl⟩)] at hR;subst hR;obtain ⟨e0,e1,e2,e3,e4,e5,e6,e7⟩:=ent_cells GX.out
      go_wp2_with (first
       | (go_at_call 70;refine (HIN.out w8 B0.out).mono ?_;rintro e wq ⟨rfl,rfl⟩)
       | ((with_reducible refine gate_store (t:=80) (p:=4) rfl ?_);refine put_event rfl 80 _ _ rfl w2.heap.size #[.string n,.int .i64 sp.f0,.int .i64 sp.f1,.int .i64 sp.f2,.int .u32 0,.bool false,.string ⟨#[]⟩,.slice none 0 0] rfl rfl 80 ent0 GT.out (by kernel_rfl) rfl (by simp [Value.oneCell']) w.heap.size HZ.out.2.1 ?_;intro w9 hb9 hB9 hs9 ho9;have B9:Hid (Below w.heap.size w w9):=hid (B0.out.trans hB9);have G9:=hid hb9;clear hb9 hB9 hs9 ho9 e0 e1 e2 e3 e4 e5 e6 e7))
      refine bodyPost_ret (results_list (rs:=[.cell 4 80,.tmp 5]) rfl (by simp) (.cell w2.heap.size 80 #[.string n,.int .i64 sp.f0,.int .i64 sp.f1,.int .i64 sp.f2,.int .u32 0,.bool false,.string ⟨#[]⟩,.slice none 0 0] (0,0) _ rfl G9.out Tryz.underlying80 rfl (by kernel_rfl) (.tmp .nil))) rfl ?_
      exact ⟨B9.out,rfl⟩
    ·have hw2:(want == 2)=false:=by simp [h2]
     rw [if_neg (by rintro (h | h);exact h hk3;exact h2 h.1)] at hR;subst hR
     go_wp2_with (first
      | (go_at_call 70;refine (HIN.out w8 B0.out).mono ?_;rintro e wq ⟨rfl,rfl⟩)
      | ((with_reducible refine gate_store (t:=9) (p:=93) rfl ?_);refine cell_event rfl 9 _ _ rfl w3.heap.size 6 (.string t) rfl rfl rfl (thereR GX.out (by simp)) (by kernel_rfl) w.heap.size HZ.out.1 ?_;intro wf hw8 hB8 hs8;obtain ⟨hr8,hk8,hz8⟩:=row1 GX.out hw8;have GX8:Hid (wf.heap[w3.heap.size]?=some (.cells #[.string n,.int .i64 sp.f0,.int .i64 sp.f1,.int .i64 sp.f2,.int .u32 0,.bool false,.string t,.slice none 0 0] 80 (0,0))):=hid hr8;have GT8:=hid ((hk8 w2.heap.size (by have:=HZ.out;omega)).trans GT.out);have B8:Hid (Below w.heap.size w wf):=hid (B0.out.trans hB8);clear hw8 hB8 hs8 hr8 hk8 hz8;obtain ⟨e0,e1,e2,e3,e4,e5,e6,e7⟩:=ent_cells GX8.out)
      | ((with_reducible refine gate_store (t:=80) (p:=4) rfl ?_);refine put_event rfl 80 _ _ rfl w2.heap.size #[.string n,.int .i64 sp.f0,.int .i64 sp.f1,.int .i64 sp.f2,.int .u32 0,.bool false,.string t,.slice none 0 0] rfl rfl 80 ent0 GT8.out (by kernel_rfl) rfl (by simp [Value.oneCell']) w.heap.size HZ.out.2.1 ?_;intro w9 hb9 hB9 hs9 ho9;have B9:Hid (Below w.heap.size w w9):=hid (B8.out.trans hB9);have G9:=hid hb9;clear hb9 hB9 hs9 ho9 e0 e1 e2 e3 e4 e5 e6 e7))
     refine bodyPost_ret (results_list (rs:=[.cell 4 80,.tmp 5]) rfl (by simp) (.cell w2.heap.size 80 #[.string n,.int .i64 sp.f0,.int .i64 sp.f1,.int .i64 sp.f2,.int .u32 0,.bool false,.string t,.slice none 0 0] (0,0) _ rfl G9.out Tryz.underlying80 rfl (by kernel_rfl) (.tmp .nil))) rfl ?_
     exact ⟨B9.out,rfl⟩
   ·have hk4:(k != 1)=true:=by simp [hk3]
    have hk5:(k == 1)=false:=by simp [hk3]
    rw [if_pos (Or.inl hk3)] at hR;subst hR;obtain ⟨e0,e1,e2,e3,e4,e5,e6,e7⟩:=ent_cells GX.out
    go_wp2_with (first
     | (go_at_call 70;refine (HIN.out w8 B0.out).mono ?_;rintro e wq ⟨rfl,rfl⟩)
     | ((with_reducible refine gate_store (t:=80) (p:=4) rfl ?_);refine put_event rfl 80 _ _ rfl w2.heap.size #[.string n,.int .i64 sp.f0,.int .i64 sp.f1,.int .i64 sp.f2,.int .u32 0,.bool false,.string ⟨#[]⟩,.slice none 0 0] rfl rfl 80 ent0 GT.out (by kernel_rfl) rfl (by simp [Value.oneCell']) w.heap.size HZ.out.2.1 ?_;intro w9 hb9 hB9 hs9 ho9;have B9:Hid (Below w.heap.size w w9):=hid (B0.out.trans hB9);have G9:=hid hb9;clear hb9 hB9 hs9 ho9 e0 e1 e2 e3 e4 e5 e6 e7))
    refine bodyPost_ret (results_list (rs:=[.cell 4 80,.tmp 5]) rfl (by simp) (.cell w2.heap.size 80 #[.string n,.int .i64 sp.f0,.int .i64 sp.f1,.int .i64 sp.f2,.int .u32 0,.bool false,.string ⟨#[]⟩,.slice none 0 0] (0,0) _ rfl G9.out Tryz.underlying80 rfl (by kernel_rfl) (.tmp .nil))) rfl ?_
    exact ⟨B9.out,rfl⟩
open YtmfejjlmflgnbaaGreatDoorW.PrintMore
def listTo (rs:List SR) (obj:ByteArray) (l:List SR) (sp:SP) (G:List SE) (r:List SA):Except SF (List SE) :=
 match readL rs obj l G r with
 | .error f=>.error f
 | .ok g=>outR g sp l
theorem listTo_bad {rs:List SR} {obj:ByteArray} {l:List SR} {sp:SP} {G:List SE} {ats:List SA} {i:Nat} {a:SA} {f:SF} (h:ats[i]?=some a) (hr:readA rs obj l G a=.error f):listTo rs obj l sp G (ats.drop i)=.error f:=by
 unfold listTo;rw [readL_hit h hr]
theorem listTo_go {rs:List SR} {obj:ByteArray} {l:List SR} {sp:SP} {G:List SE} {ats:List SA} {i:Nat} {a:SA} {e:SE} (h:ats[i]?=some a) (hr:readA rs obj l G a=.ok e):listTo rs obj l sp G (ats.drop i)=listTo rs obj l sp (G++[e]) (ats.drop (i + 1)):=by
 unfold listTo;rw [readL_go h hr]
theorem listTo_end {rs:List SR} {obj:ByteArray} {l:List SR} {sp:SP} {G:List SE} {ats:List SA}:listTo rs obj l sp G (ats.drop ats.length)=outR G sp l:=by
 unfold listTo;rw [readL_end]
theorem att_cells {w:World} {g:Nat} {a0 a1 a2 a3 a4 a5 a6 a7 a8 a9 a10 a11:Value} {t:TypeId} (h:w.heap[g]?=some (.cells #[a0,a1,a2,a3,a4,a5,a6,a7,a8,a9,a10,a11] t (0,0))) :
  w.cell? ⟨g,0,none⟩=some a0/\w.cell? ⟨g,1,none⟩=some a1/\w.cell? ⟨g,2,none⟩=some a2/\w.cell? ⟨g,3,none⟩=some a3/\w.cell? ⟨g,4,none⟩=some a4/\w.cell? ⟨g,5,none⟩=some a5/\w.cell? ⟨g,6,none⟩=some a6/\w.cell? ⟨g,7,none⟩=some a7/\w.cell? ⟨g,8,none⟩=some a8/\w.cell? ⟨g,9,none⟩=some a9/\w.cell? ⟨g,10,none⟩=some a10/\w.cell? ⟨g,11,none⟩=some a11 :=
 ⟨(cell_row h 0).trans rfl,(cell_row h 1).trans rfl,(cell_row h 2).trans rfl,(cell_row h 3).trans rfl,(cell_row h 4).trans rfl,(cell_row h 5).trans rfl,(cell_row h 6).trans rfl,(cell_row h 7).trans rfl,(cell_row h 8).trans rfl,(cell_row h 9).trans rfl,(cell_row h 10).trans rfl,(cell_row h 11).trans rfl⟩
theorem attr_err {rows:List SR} {obj:ByteArray} {x:SR} {a:SA} {c:Int} (h:valR x a.f2 a.f0 a.f1=.error c):attrR rows obj x a=.error ⟨c,a.f1,a.f0⟩:=by
 rw [val_spot] at h;unfold attrR;cases hv:valR x a.f2 a.f0 z41 with
 | error c'=>rw [hv] at h;cases h;rfl
 | ok e=>rw [hv] at h;cases h
theorem attr_ok {rows : List SR} {obj : ByteArray} {x : SR} {a : SA} {e : SE} (h : valR x a.f2 a.f0 a.f1 = .ok e) : attrR rows obj x a = (if (a.f3 && (innerR rows obj x a.f0 e.word).isEmpty) || (!a.f3 && mustR (innerR rows obj x a.f0 e.word)) then .error ⟨56, a.f1, a.f0⟩ else if (innerR rows obj x a.f0 e.word).isEmpty then .ok e else match listedR rows obj (innerR rows obj x a.f0 e.word) (if a.f3 then a.f4 else []) a.f1 with
      | .error f => .error f
      | .ok p => .ok (addP e p)) := by
  rw [val_spot] at h;unfold attrR;cases hv : valR x a.f2 a.f0 z41 with
  | error c' => rw [hv] at h; cases h
  | ok e' => rw [hv] at h; cases h; rfl
theorem must_at {l:List SR} {j:Nat} {x:SR} (h:l[j]?=some x):mustR (l.drop j)=(decide (x.times=1)||mustR (l.drop (j + 1))):=by
 obtain ⟨hj,rfl⟩:=List.getElem?_eq_some_iff.1 h;rw [List.drop_eq_getElem_cons hj]
 rfl
def VOut (n:ByteArray) (sp:SP) (r:Except Int SE) (y:SE) (code:Int):Prop :=
 match r with
  | .ok x=>y=x/\code=0
  | .error c=>y=⟨n,sp,0,false,⟨#[]⟩,[]⟩/\code=c
theorem val_out {n:ByteArray} {sp:SP} {r:Except Int SE} {w w':World} {e:Ending} (h:RVal n sp r w e w'):∃ (y:SE) (code:Int),e=.returned (.tuple #[.agg #[.string y.name,.int .i64 y.spot.f0,.int .i64 y.spot.f1,.int .i64 y.spot.f2,.int .u32 y.num,.bool y.auto,.string y.word,.slice none 0 0],.int .i64 code])/\Below w.heap.size w w'/\VOut n sp r y code:=by
 obtain ⟨hB,h⟩:=h;cases r with
 | ok x=>exact ⟨x,0,h,hB,rfl,rfl⟩
 | error c=>exact ⟨_,c,h,hB,rfl,rfl⟩
def RLPost (r:Except SF (List SE)) (w:World) (e:Ending) (w':World):Prop :=
 Below w.heap.size w w'/\match r with
  | .ok es=>∃ v,e=.returned (.tuple #[v,.agg fa0])/\Kd.R kEnt 80 w' w.heap.size (fun _=>True) v es
  | .error f=>e=.returned (.tuple #[.slice none 0 0,.agg (faC f.code f.spot f.name)])
theorem put5 {w4 w5:World} {g:Nat} {t:TypeId} {b0 b1 b2 b3 b4:Value} (h:w4.heap[g]?=some (.cells #[b0,b1,b2,b3,b4] t (0,0))) {a0 a1 a2 a3 a4:Value}
  (hw:(((((w4.setCell ⟨g,0,none⟩ a0).setCell ⟨g,1,none⟩ a1).setCell ⟨g,2,none⟩ a2).setCell ⟨g,3,none⟩ a3).setCell ⟨g,4,none⟩ a4)=w5) :
  w5.heap[g]?=some (.cells #[a0,a1,a2,a3,a4] t (0,0))/\w4.grownBy w5 (some g):=by
 subst hw;have h0:(w4.setCell ⟨g,0,none⟩ a0).heap[g]?=some (.cells #[a0,b1,b2,b3,b4] t (0,0)):=setCell_row h a0;have h1:((w4.setCell ⟨g,0,none⟩ a0).setCell ⟨g,1,none⟩ a1).heap[g]?=some (.cells #[a0,a1,b2,b3,b4] t (0,0)):=setCell_row h0 a1;have h2:(((w4.setCell ⟨g,0,none⟩ a0).setCell ⟨g,1,none⟩ a1).setCell ⟨g,2,none⟩ a2).heap[g]?=some (.cells #[a0,a1,a2,b3,b4] t (0,0)):=setCell_row h1 a2;have h3:((((w4.setCell ⟨g,0,none⟩ a0).setCell ⟨g,1,none⟩ a1).setCell ⟨g,2,none⟩ a2).setCell ⟨g,3,none⟩ a3).heap[g]?=some (.cells #[a0,a1,a2,a3,b4] t (0,0)):=setCell_row h2 a3;have h4:(((((w4.setCell ⟨g,0,none⟩ a0).setCell ⟨g,1,none⟩ a1).setCell ⟨g,2,none⟩ a2).setCell ⟨g,3,none⟩ a3).setCell ⟨g,4,none⟩ a4).heap[g]?=some (.cells #[a0,a1,a2,a3,a4] t (0,0)):=setCell_row h3 a4;exact ⟨h4,((((setCell_grown _ _ _ _).trans (setCell_grown _ _ _ _)).trans (setCell_grown _ _ _ _)).trans (setCell_grown _ _ _ _)).trans (setCell_grown _ _ _ _)⟩
theorem fau_cells {w:World} {g:Nat} {a0 a1 a2 a3 a4:Value} {t:TypeId} (h:w.heap[g]?=some (.cells #[a0,a1,a2,a3,a4] t (0,0))) :
  w.cell? ⟨g,0,none⟩=some a0/\w.cell? ⟨g,1,none⟩=some a1/\w.cell? ⟨g,2,none⟩=some a2/\w.cell? ⟨g,3,none⟩=some a3/\w.cell? ⟨g,4,none⟩=some a4 :=
 ⟨(cell_row h 0).trans rfl,(cell_row h 1).trans rfl,(cell_row h 2).trans rfl,(cell_row h 3).trans rfl,(cell_row h 4).trans rfl⟩
theorem rl_fail {r:Except SF (List SE)} {f:SF} {w:World} {fn:Nat} {args:Array Value} (hr:r=.error f) (h:Calls Tryz.prog fn args w (RLPost r w)):Calls Tryz.prog fn args w fun e w'=>Below w.heap.size w w'/\e=.returned (.tuple #[.slice none 0 0,.agg (faC f.code f.spot f.name)]):=h.mono (fun e w' hp=>⟨hp.1,by have:=hp.2;rw [hr] at this;exact this⟩)
theorem rl_ok {r : Except SF (List SE)} {es : List SE} {w : World} {fn : Nat} {args : Array Value} (hr : r = .ok es) (h : Calls Tryz.prog fn args w (RLPost r w)) : Calls Tryz.prog fn args w fun e w' => Below w.heap.size w w' /\ ∃ (Ap : Option Addr) (cp : Nat), e = .returned (.tuple #[.slice Ap es.length cp, .agg fa0]) /\ Kd.R kEnt 80 w' w.heap.size (fun _ => True) (.slice Ap es.length cp) es := h.mono (fun e w' hp => ⟨hp.1, by
      have h1 := hp.2;rw [hr] at h1;obtain ⟨v, h2, h3⟩ := h1;obtain ⟨Ai, ci, rfl⟩ := RForm h3
      exact ⟨Ai, ci, h2, h3⟩⟩)
def RLC (rs:List SR) (m:Nat):Prop :=
 ∀ (ats:List SA) (obj:ByteArray) (l:List SR) (sp:SP) (A:Option Addr) (c:Nat) (Al:Option Addr) (cl:Nat) (As:Option Addr) (ca:Nat) (w:World),szL ats<=m->szL ats<=1073741824->Kd.C kRow w A rs.length rs->rs.length<=1000->Kd.C kRow w Al l.length l->l.length<=1000->Kd.C k50 w As ats.length ats ->
  Calls Tryz.prog 72 #[.slice A rs.length c,.string obj,.slice Al l.length cl,.slice As ats.length ca,.agg #[.int .i64 sp.f0,.int .i64 sp.f1,.int .i64 sp.f2]] w (RLPost (listedR rs obj l ats sp) w)
theorem named_take {G:List SE} {n:ByteArray} (h:∀ e ∈ G,¬ e.name=n):named G n=[]:=by
 unfold named;exact List.filter_eq_nil_iff.2 (fun e he=>by simpa using h e he)
theorem named_hit {G:List SE} {n:ByteArray} {e:SE} (h:e ∈ G) (hn:e.name=n):(named G n).isEmpty=false:=by
 cases hq:(named G n) with
 | nil=>exact absurd (show e ∈ named G n from List.mem_filter.2 ⟨h,by simp [hn]⟩) (by rw [hq];exact List.not_mem_nil)
 | cons _ _=>rfl
end Go.Proofs.YtmfejjlmflgnbaaGreatDoor.Sc

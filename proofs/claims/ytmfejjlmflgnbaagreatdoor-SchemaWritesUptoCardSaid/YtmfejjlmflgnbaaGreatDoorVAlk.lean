/- CONTRACTS: package schema's alike, Write$1; slices.EqualFunc at both. -/
import Derived.Test.YtmfejjlmflgnbaaGreatDoorVVal
import Derived.Test.YtmfejjlmflgnbaaGreatDoorVAttrs
import Derived.RegionTactic
set_option linter.unusedVariables false
set_option linter.unusedSimpArgs false
set_option maxRecDepth 100000
set_option maxHeartbeats 64000000
namespace Go.Proofs.YtmfejjlmflgnbaaGreatDoor.Sc
open RowKit PA YtmfejjlmflgnbaaGreatDoorW.PrintWords YtmfejjlmflgnbaaGreatDoorW.PrintLast Sp Tr Tok
open Go.Lib (hid)
def item0':Array Value:=#[.string ⟨#[]⟩,.string ⟨#[]⟩,.int .i64 0,.int .i64 0,.int .i64 0,.slice none 0 0]
def itemC (x:SI) (v:Value):Array Value:=#[.string x.kind,.string x.name,.int .i64 x.spot.f0,.int .i64 x.spot.f1,.int .i64 x.spot.f2,v]
theorem item_all (x:SI) (A:Option Addr) (n c:Nat):(itemC x (.slice A n c)).all (·.oneCell')=true:=by simp [itemC,Value.oneCell']
theorem same_e (x y:SE):sameE false x y=(decide (x.name=y.name)&&(x.num == y.num)&&(x.auto == y.auto)&&decide (x.word=y.word)&&sameEs false x.params y.params):=by
 cases x;cases y;simp [sameE]
theorem same_i (x y:SI):sameI false x y=(decide (x.kind=y.kind)&&decide (x.name=y.name)&&sameEs false x.ents y.ents):=by
 simp [sameI]
theorem same_len:∀ (a b:List SE),a.length≠b.length->sameEs false a b=false
 | [],[],h=>absurd rfl h
 | [],y :: b,_=>by simp [sameEs]
 | x :: a,[],_=>by simp [sameEs]
 | x :: a,y :: b,h=>by
  rw [sameEs,same_len a b (by simpa using h),Bool.and_false]
theorem sames_len:∀ (a b:List SI),a.length≠b.length->sameIs false a b=false
 | [],[],h=>absurd rfl h
 | [],y :: b,_=>by simp [sameIs]
 | x :: a,[],_=>by simp [sameIs]
 | x :: a,y :: b,h=>by
  rw [sameIs,sames_len a b (by simpa using h),Bool.and_false]
theorem same_at {a b:List SE} {j:Nat} {x y:SE} (ha:a[j]?=some x) (hb:b[j]?=some y):sameEs false (a.drop j) (b.drop j)=(sameE false x y&&sameEs false (a.drop (j + 1)) (b.drop (j + 1))):=by
 obtain ⟨h1,rfl⟩:=List.getElem?_eq_some_iff.1 ha;obtain ⟨h2,rfl⟩:=List.getElem?_eq_some_iff.1 hb;rw [List.drop_eq_getElem_cons h1,List.drop_eq_getElem_cons h2];simp [sameEs]
theorem sames_at {a b:List SI} {j:Nat} {x y:SI} (ha:a[j]?=some x) (hb:b[j]?=some y):sameIs false (a.drop j) (b.drop j)=(sameI false x y&&sameIs false (a.drop (j + 1)) (b.drop (j + 1))):=by
 obtain ⟨h1,rfl⟩:=List.getElem?_eq_some_iff.1 ha;obtain ⟨h2,rfl⟩:=List.getElem?_eq_some_iff.1 hb;rw [List.drop_eq_getElem_cons h1,List.drop_eq_getElem_cons h2];simp [sameIs]
theorem ent_at' (l:List SE) (j:Nat) (e:SE) (h:l[j]?=some e):rd_Ent l (j:Int)=e:=by
 unfold rd_Ent;rw [Int.toNat_natCast,List.getD_eq_getElem?_getD,h]
 rfl
theorem item_at' (l:List SI) (j:Nat) (e:SI) (h:l[j]?=some e):rd_Item l (j:Int)=e:=by
 unfold rd_Item;rw [Int.toNat_natCast,List.getD_eq_getElem?_getD,h]
 rfl
def AlC (m:Nat):Prop :=
 ∀ (a b:List SE) (A:Option Addr) (c:Nat) (B:Option Addr) (d:Nat) (w:World) (r:Bool),szEs b<=m->szEs b<=1073741824->Kd.C kEnt w A a.length a->Kd.C kEnt w B b.length b->sameEs false a b=r ->
  Calls Tryz.prog 79 #[.slice A a.length c,.slice B b.length d] w fun e w'=>e=.returned (.bool r)/\Below w.heap.size w w'
theorem eqe_calls (a b:List SE) (A:Option Addr) (c:Nat) (B:Option Addr) (d:Nat) (w:World) (r:Bool) (hl:b.length<=1073741824) (hA:Kd.C kEnt w A a.length a) (hB:Kd.C kEnt w B b.length b) (hr:sameEs false a b=r)
  (hF:∀ (x y:SE) (A7:Option Addr) (c7:Nat) (B7:Option Addr) (d7:Nat) (W:World) (q:Bool),y ∈ b->Below w.heap.size w W->Kd.C kEnt W A7 x.params.length x.params->Kd.C kEnt W B7 y.params.length y.params->sameE false x y=q->Calls Tryz.prog 116 #[.agg (entC x (.slice A7 x.params.length c7)),.agg (entC y (.slice B7 y.params.length d7))] W fun e w'=>e=.returned (.bool q)/\Below W.heap.size W w') :
  Calls Tryz.prog 115 #[.slice A a.length c,.slice B b.length d,.func (.func 116) #[] #[]] w fun e w'=>e=.returned (.bool r)/\Below w.heap.size w w':=by
 have HA:=hid hA;have HB:=hid hB;have HF:=hid hF;have HR:=hid hr;clear hA hB hF hr;obtain ⟨n,hn⟩:∃ n,a.length=n:=⟨_,rfl⟩;rw [hn] at HA ⊢;have HN:=hid hn;clear hn;obtain ⟨n2,hn2⟩:∃ n2,b.length=n2:=⟨_,rfl⟩;rw [hn2] at HB hl ⊢;have HN2:=hid hn2;clear hn2
 go_enter Tryz.func115,Tryz.ntmps115
 by_cases he:n=n2
 ·subst he
  go_wp2_with fail
  go_loopw [17] (fun v wr=>∃ j:Nat,v=.int .i64 (j:Int)/\j<=n/\Hid (sameEs false (a.drop j) (b.drop j)=r)/\Hid (Below w.heap.size w wr)) (fun v _=>n - (intOf v).toNat)
  case atStart=>exact ⟨0,by go_num,by omega,hid (by rw [List.drop_zero,List.drop_zero];exact HR.out),hid (Below.refl _ _)⟩
  case round =>
   obtain ⟨j,rfl,hj,HJ,BL⟩:=hrel
   by_cases hlt:j<n
   ·have hx:a[j]?=some (a[j]'(by rw [HN.out];exact hlt)):=List.getElem?_eq_getElem _
    have hy:b[j]?=some (b[j]'(by rw [HN2.out];exact hlt)):=List.getElem?_eq_getElem _;have hsame:=same_at hx hy;obtain ⟨ad,A7,c7,eA,x0,x1,x2,x3,x4,x5,x6,x7,l7,C7⟩:=at_Ent (Kd.C_below HA.out BL.out) (j:Int) (by omega) (by omega);obtain ⟨bd,B7,d7,eB,y0,y1,y2,y3,y4,y5,y6,y7,m7,D7⟩:=at_Ent (Kd.C_below HB.out BL.out) (j:Int) (by omega) (by omega);rw [ent_at' a j _ hx] at x0 x1 x2 x3 x4 x5 x6 x7 l7 C7;rw [ent_at' b j _ hy] at y0 y1 y2 y3 y4 y5 y6 y7 m7 D7;have HMEM:Hid ((b[j]'(by rw [HN2.out];exact hlt)) ∈ b):=hid (List.getElem_mem _);generalize (a[j]'(by rw [HN.out];exact hlt))=x at hx x0 x1 x2 x3 x4 x5 x6 x7 l7 C7 hsame;generalize (b[j]'(by rw [HN2.out];exact hlt))=y at hy y0 y1 y2 y3 y4 y5 y6 y7 m7 D7 hsame HMEM;cases eA;cases eB;have HC7:=hid C7;have HD7:=hid D7;obtain ⟨q,hq⟩:∃ q,sameE false x y=q:=⟨_,rfl⟩;rw [hq] at hsame;have HS:=hid hsame;have HQ:=hid hq;clear hx hy C7 l7 D7 m7 hsame hq;simp only [Int.toNat_natCast] at x0 x1 x2 x3 x4 x5 x6 x7 y0 y1 y2 y3 y4 y5 y6 y7;have tk1:True:=trivial
    go_upto_region 6 with (first
     | (have _t:=tk1;refine run_event rfl (.alloc 80) rfl (.pointer (some ⟨wr.heap.size,0,none⟩)) (wr.alloc (.cells ent0 80)) (by kernel_rfl) ?_;intro w4 hw4;have B4:Hid (Below wr.heap.size wr w4):=hid (by rw [hw4];exact alloc_below _ _);have E4:Hid (w4.heap[wr.heap.size]?=some (.cells ent0 80 (0,0))):=hid (by rw [hw4];exact heap_alloc_new _ _);clear hw4 tk1 _t)
     | ((with_reducible refine gate_store (t:=80) (p:=8) rfl ?_);refine put_event rfl 80 _ _ rfl wr.heap.size (entC x (.slice A7 x.params.length c7)) rfl rfl 80 ent0 E4.out (by kernel_rfl) rfl (ent_all _ _ _ _) wr.heap.size (Nat.le_refl _) ?_;intro w5 hb5 hB5 hs5 ho5;have E5:=hid hb5;have B5:Hid (Below wr.heap.size wr w5):=hid (B4.out.trans hB5);clear hb5 hB5 hs5 ho5 x0 x1 x2 x3 x4 x5 x6 x7))
    clear B4 E4;have z0:=fun (p:Addr) (v:Value) (h:wr.cell? p=some v)=>(B5.out.cell (lC wr _ h)).trans h;have y0:=z0 _ _ y0;have y1:=z0 _ _ y1;have y2:=z0 _ _ y2;have y3:=z0 _ _ y3;have y4:=z0 _ _ y4;have y5:=z0 _ _ y5;have y6:=z0 _ _ y6;have y7:=z0 _ _ y7;clear z0;have tk1:True:=trivial
    go_upto_region 7 with (first
     | (have _t:=tk1;refine run_event rfl (.alloc 80) rfl (.pointer (some ⟨w5.heap.size,0,none⟩)) (w5.alloc (.cells ent0 80)) (by kernel_rfl) ?_;intro w6 hw4;have B6:Hid (Below w5.heap.size w5 w6):=hid (by rw [hw4];exact alloc_below _ _);have E6:Hid (w6.heap[w5.heap.size]?=some (.cells ent0 80 (0,0))):=hid (by rw [hw4];exact heap_alloc_new _ _);clear hw4 tk1 _t)
     | ((with_reducible refine gate_store (t:=80) (p:=9) rfl ?_);refine put_event rfl 80 _ _ rfl w5.heap.size (entC y (.slice B7 y.params.length d7)) rfl rfl 80 ent0 E6.out (by kernel_rfl) rfl (ent_all _ _ _ _) w5.heap.size (Nat.le_refl _) ?_;intro w7 hb5 hB5 hs5 ho5;have E7:=hid hb5;have B7w:Hid (Below w5.heap.size w5 w7):=hid (B6.out.trans hB5);clear hb5 hB5 hs5 ho5 y0 y1 y2 y3 y4 y5 y6 y7))
    clear B6 E6;have X7:=hid ((B7w.out.block wr.heap.size (gS.1 E5.out).1).trans E5.out);have B07:Hid (Below wr.heap.size wr w7):=hid (B5.out.trans (B7w.out.mono B5.out.size));have BL7:Hid (Below w.heap.size w w7):=hid (BL.out.trans (B07.out.mono BL.out.size));have HCL:=hid (HF.out x y A7 c7 B7 d7 w7 q HMEM.out BL7.out (Kd.C_below HC7.out B07.out) (Kd.C_below HD7.out B07.out) HQ.out);unfold entC at HCL;have x0:w7.cell? ⟨wr.heap.size,0,none⟩=some (.string x.name):=(cell_row X7.out 0).trans rfl;have x1:w7.cell? ⟨wr.heap.size,1,none⟩=some (.int .i64 x.spot.f0):=(cell_row X7.out 1).trans rfl;have x2:w7.cell? ⟨wr.heap.size,2,none⟩=some (.int .i64 x.spot.f1):=(cell_row X7.out 2).trans rfl;have x3:w7.cell? ⟨wr.heap.size,3,none⟩=some (.int .i64 x.spot.f2):=(cell_row X7.out 3).trans rfl;have x4:w7.cell? ⟨wr.heap.size,4,none⟩=some (.int .u32 x.num):=(cell_row X7.out 4).trans rfl;have x5:w7.cell? ⟨wr.heap.size,5,none⟩=some (.bool x.auto):=(cell_row X7.out 5).trans rfl;have x6:w7.cell? ⟨wr.heap.size,6,none⟩=some (.string x.word):=(cell_row X7.out 6).trans rfl;have x7:w7.cell? ⟨wr.heap.size,7,none⟩=some (.slice A7 x.params.length c7):=(cell_row X7.out 7).trans rfl;have y0:w7.cell? ⟨w5.heap.size,0,none⟩=some (.string y.name):=(cell_row E7.out 0).trans rfl;have y1:w7.cell? ⟨w5.heap.size,1,none⟩=some (.int .i64 y.spot.f0):=(cell_row E7.out 1).trans rfl;have y2:w7.cell? ⟨w5.heap.size,2,none⟩=some (.int .i64 y.spot.f1):=(cell_row E7.out 2).trans rfl;have y3:w7.cell? ⟨w5.heap.size,3,none⟩=some (.int .i64 y.spot.f2):=(cell_row E7.out 3).trans rfl;have y4:w7.cell? ⟨w5.heap.size,4,none⟩=some (.int .u32 y.num):=(cell_row E7.out 4).trans rfl;have y5:w7.cell? ⟨w5.heap.size,5,none⟩=some (.bool y.auto):=(cell_row E7.out 5).trans rfl;have y6:w7.cell? ⟨w5.heap.size,6,none⟩=some (.string y.word):=(cell_row E7.out 6).trans rfl;have y7:w7.cell? ⟨w5.heap.size,7,none⟩=some (.slice B7 y.params.length d7):=(cell_row E7.out 7).trans rfl;clear E5 B5 B7w X7 E7;cases q with
    | true =>
     go_wp2_with (first
      | (go_at_call 116;refine HCL.out.mono ?_;rintro e w8 ⟨rfl,hB8⟩;have B8:Hid (Below w.heap.size w w8):=hid (BL7.out.trans (hB8.mono BL7.out.size));clear hB8))
     exact ⟨⟨j + 1,by go_num,by omega,hid (by rw [<- HJ.out,HS.out,Bool.true_and]),B8⟩,by simp [intOf];omega⟩
    | false =>
     go_wp2_with (first
      | (go_at_call 116;refine HCL.out.mono ?_;rintro e w8 ⟨rfl,hB8⟩;have B8:Hid (Below w.heap.size w w8):=hid (BL7.out.trans (hB8.mono BL7.out.size));clear hB8))
     go_ret
     exact ⟨by rw [<- HJ.out,HS.out,Bool.false_and];rfl,B8.out⟩
   ·obtain rfl:j=n:=by omega
    have HE:Hid (r=true):=hid (by rw [<- HJ.out,List.drop_eq_nil_of_le (by rw [HN.out];exact Nat.le_refl _),List.drop_eq_nil_of_le (by rw [HN2.out];exact Nat.le_refl _)];rfl)
    go_wp2_with fail
    go_ret
    exact ⟨by rw [HE.out];rfl,BL.out⟩
 ·have hne:((n:Int) != (n2:Int))=true:=by simp;omega
  have HE:Hid (r=false):=hid (by rw [<- HR.out];exact same_len a b (by rw [HN.out,HN2.out];exact he));clear he
  go_wp2_with fail
  go_ret
  exact ⟨by rw [HE.out];rfl,Below.refl _ _⟩
theorem eqi_calls (a b:List SI) (A:Option Addr) (c:Nat) (B:Option Addr) (d:Nat) (w:World) (r:Bool) (hl:b.length<=1073741824) (hA:Kd.C kItem w A a.length a) (hB:Kd.C kItem w B b.length b) (hr:sameIs false a b=r)
  (hF:∀ (x y:SI) (A7:Option Addr) (c7:Nat) (B7:Option Addr) (d7:Nat) (W:World) (q:Bool),y ∈ b->Below w.heap.size w W->Kd.C kEnt W A7 x.ents.length x.ents->Kd.C kEnt W B7 y.ents.length y.ents->sameI false x y=q->Calls Tryz.prog 78 #[.agg (itemC x (.slice A7 x.ents.length c7)),.agg (itemC y (.slice B7 y.ents.length d7))] W fun e w'=>e=.returned (.bool q)/\Below W.heap.size W w') :
  Calls Tryz.prog 77 #[.slice A a.length c,.slice B b.length d,.func (.func 78) #[] #[]] w fun e w'=>e=.returned (.bool r)/\Below w.heap.size w w':=by
 have HA:=hid hA;have HB:=hid hB;have HF:=hid hF;have HR:=hid hr;clear hA hB hF hr;obtain ⟨n,hn⟩:∃ n,a.length=n:=⟨_,rfl⟩;rw [hn] at HA ⊢;have HN:=hid hn;clear hn;obtain ⟨n2,hn2⟩:∃ n2,b.length=n2:=⟨_,rfl⟩;rw [hn2] at HB hl ⊢;have HN2:=hid hn2;clear hn2
 go_enter Tryz.func77,Tryz.ntmps77
 by_cases he:n=n2
 ·subst he
  go_wp2_with fail
  go_loopw [17] (fun v wr=>∃ j:Nat,v=.int .i64 (j:Int)/\j<=n/\Hid (sameIs false (a.drop j) (b.drop j)=r)/\Hid (Below w.heap.size w wr)) (fun v _=>n - (intOf v).toNat)
  case atStart=>exact ⟨0,by go_num,by omega,hid (by rw [List.drop_zero,List.drop_zero];exact HR.out),hid (Below.refl _ _)⟩
  case round =>
   obtain ⟨j,rfl,hj,HJ,BL⟩:=hrel
   by_cases hlt:j<n
   ·have hx:a[j]?=some (a[j]'(by rw [HN.out];exact hlt)):=List.getElem?_eq_getElem _
    have hy:b[j]?=some (b[j]'(by rw [HN2.out];exact hlt)):=List.getElem?_eq_getElem _;have hsame:=sames_at hx hy;obtain ⟨ad,A7,c7,eA,x0,x1,x2,x3,x4,x5,l7,C7⟩:=at_Item (Kd.C_below HA.out BL.out) (j:Int) (by omega) (by omega);obtain ⟨bd,B7,d7,eB,y0,y1,y2,y3,y4,y5,m7,D7⟩:=at_Item (Kd.C_below HB.out BL.out) (j:Int) (by omega) (by omega);rw [item_at' a j _ hx] at x0 x1 x2 x3 x4 x5 l7 C7;rw [item_at' b j _ hy] at y0 y1 y2 y3 y4 y5 m7 D7;have HMEM:Hid ((b[j]'(by rw [HN2.out];exact hlt)) ∈ b):=hid (List.getElem_mem _);generalize (a[j]'(by rw [HN.out];exact hlt))=x at hx x0 x1 x2 x3 x4 x5 l7 C7 hsame;generalize (b[j]'(by rw [HN2.out];exact hlt))=y at hy y0 y1 y2 y3 y4 y5 m7 D7 hsame HMEM;cases eA;cases eB;have HC7:=hid C7;have HD7:=hid D7;obtain ⟨q,hq⟩:∃ q,sameI false x y=q:=⟨_,rfl⟩;rw [hq] at hsame;have HS:=hid hsame;have HQ:=hid hq;clear hx hy C7 l7 D7 m7 hsame hq;simp only [Int.toNat_natCast] at x0 x1 x2 x3 x4 x5 y0 y1 y2 y3 y4 y5;have tk1:True:=trivial
    go_upto_region 6 with (first
     | (have _t:=tk1;refine run_event rfl (.alloc 78) rfl (.pointer (some ⟨wr.heap.size,0,none⟩)) (wr.alloc (.cells item0' 78)) (by kernel_rfl) ?_;intro w4 hw4;have B4:Hid (Below wr.heap.size wr w4):=hid (by rw [hw4];exact alloc_below _ _);have E4:Hid (w4.heap[wr.heap.size]?=some (.cells item0' 78 (0,0))):=hid (by rw [hw4];exact heap_alloc_new _ _);clear hw4 tk1 _t)
     | ((with_reducible refine gate_store (t:=78) (p:=8) rfl ?_);refine put_event rfl 78 _ _ rfl wr.heap.size (itemC x (.slice A7 x.ents.length c7)) rfl rfl 78 item0' E4.out (by kernel_rfl) rfl (item_all _ _ _ _) wr.heap.size (Nat.le_refl _) ?_;intro w5 hb5 hB5 hs5 ho5;have E5:=hid hb5;have B5:Hid (Below wr.heap.size wr w5):=hid (B4.out.trans hB5);clear hb5 hB5 hs5 ho5 x0 x1 x2 x3 x4 x5))
    clear B4 E4;have z0:=fun (p:Addr) (v:Value) (h:wr.cell? p=some v)=>(B5.out.cell (lC wr _ h)).trans h;have y0:=z0 _ _ y0;have y1:=z0 _ _ y1;have y2:=z0 _ _ y2;have y3:=z0 _ _ y3;have y4:=z0 _ _ y4;have y5:=z0 _ _ y5;clear z0;have tk1:True:=trivial
    go_upto_region 7 with (first
     | (have _t:=tk1;refine run_event rfl (.alloc 78) rfl (.pointer (some ⟨w5.heap.size,0,none⟩)) (w5.alloc (.cells item0' 78)) (by kernel_rfl) ?_;intro w6 hw4;have B6:Hid (Below w5.heap.size w5 w6):=hid (by rw [hw4];exact alloc_below _ _);have E6:Hid (w6.heap[w5.heap.size]?=some (.cells item0' 78 (0,0))):=hid (by rw [hw4];exact heap_alloc_new _ _);clear hw4 tk1 _t)
     | ((with_reducible refine gate_store (t:=78) (p:=9) rfl ?_);refine put_event rfl 78 _ _ rfl w5.heap.size (itemC y (.slice B7 y.ents.length d7)) rfl rfl 78 item0' E6.out (by kernel_rfl) rfl (item_all _ _ _ _) w5.heap.size (Nat.le_refl _) ?_;intro w7 hb5 hB5 hs5 ho5;have E7:=hid hb5;have B7w:Hid (Below w5.heap.size w5 w7):=hid (B6.out.trans hB5);clear hb5 hB5 hs5 ho5 y0 y1 y2 y3 y4 y5))
    clear B6 E6;have X7:=hid ((B7w.out.block wr.heap.size (gS.1 E5.out).1).trans E5.out);have B07:Hid (Below wr.heap.size wr w7):=hid (B5.out.trans (B7w.out.mono B5.out.size));have BL7:Hid (Below w.heap.size w w7):=hid (BL.out.trans (B07.out.mono BL.out.size));have HCL:=hid (HF.out x y A7 c7 B7 d7 w7 q HMEM.out BL7.out (Kd.C_below HC7.out B07.out) (Kd.C_below HD7.out B07.out) HQ.out);unfold itemC at HCL;have x0:w7.cell? ⟨wr.heap.size,0,none⟩=some (.string x.kind):=(cell_row X7.out 0).trans rfl;have x1:w7.cell? ⟨wr.heap.size,1,none⟩=some (.string x.name):=(cell_row X7.out 1).trans rfl;have x2:w7.cell? ⟨wr.heap.size,2,none⟩=some (.int .i64 x.spot.f0):=(cell_row X7.out 2).trans rfl;have x3:w7.cell? ⟨wr.heap.size,3,none⟩=some (.int .i64 x.spot.f1):=(cell_row X7.out 3).trans rfl;have x4:w7.cell? ⟨wr.heap.size,4,none⟩=some (.int .i64 x.spot.f2):=(cell_row X7.out 4).trans rfl;have x5:w7.cell? ⟨wr.heap.size,5,none⟩=some (.slice A7 x.ents.length c7):=(cell_row X7.out 5).trans rfl;have y0:w7.cell? ⟨w5.heap.size,0,none⟩=some (.string y.kind):=(cell_row E7.out 0).trans rfl;have y1:w7.cell? ⟨w5.heap.size,1,none⟩=some (.string y.name):=(cell_row E7.out 1).trans rfl;have y2:w7.cell? ⟨w5.heap.size,2,none⟩=some (.int .i64 y.spot.f0):=(cell_row E7.out 2).trans rfl;have y3:w7.cell? ⟨w5.heap.size,3,none⟩=some (.int .i64 y.spot.f1):=(cell_row E7.out 3).trans rfl;have y4:w7.cell? ⟨w5.heap.size,4,none⟩=some (.int .i64 y.spot.f2):=(cell_row E7.out 4).trans rfl;have y5:w7.cell? ⟨w5.heap.size,5,none⟩=some (.slice B7 y.ents.length d7):=(cell_row E7.out 5).trans rfl;clear E5 B5 B7w X7 E7;cases q with
    | true =>
     go_wp2_with (first
      | (go_at_call 78;refine HCL.out.mono ?_;rintro e w8 ⟨rfl,hB8⟩;have B8:Hid (Below w.heap.size w w8):=hid (BL7.out.trans (hB8.mono BL7.out.size));clear hB8))
     exact ⟨⟨j + 1,by go_num,by omega,hid (by rw [<- HJ.out,HS.out,Bool.true_and]),B8⟩,by simp [intOf];omega⟩
    | false =>
     go_wp2_with (first
      | (go_at_call 78;refine HCL.out.mono ?_;rintro e w8 ⟨rfl,hB8⟩;have B8:Hid (Below w.heap.size w w8):=hid (BL7.out.trans (hB8.mono BL7.out.size));clear hB8))
     go_ret
     exact ⟨by rw [<- HJ.out,HS.out,Bool.false_and];rfl,B8.out⟩
   ·obtain rfl:j=n:=by omega
    have HE:Hid (r=true):=hid (by rw [<- HJ.out,List.drop_eq_nil_of_le (by rw [HN.out];exact Nat.le_refl _),List.drop_eq_nil_of_le (by rw [HN2.out];exact Nat.le_refl _)];rfl)
    go_wp2_with fail
    go_ret
    exact ⟨by rw [HE.out];rfl,BL.out⟩
 ·have hne:((n:Int) != (n2:Int))=true:=by simp;omega
  have HE:Hid (r=false):=hid (by rw [<- HR.out];exact sames_len a b (by rw [HN.out,HN2.out];exact he));clear he
  go_wp2_with fail
  go_ret
  exact ⟨by rw [HE.out];rfl,Below.refl _ _⟩
theorem alike1_calls (m:Nat) (hI:AlC m) (x y:SE) (A7:Option Addr) (c7:Nat) (B7:Option Addr) (d7:Nat) (w:World) (r:Bool) (hm:szEs y.params<=m) (hl:szEs y.params<=1073741824) (hA:Kd.C kEnt w A7 x.params.length x.params) (hB:Kd.C kEnt w B7 y.params.length y.params) (hr:sameE false x y=r) :
  Calls Tryz.prog 116 #[.agg (entC x (.slice A7 x.params.length c7)),.agg (entC y (.slice B7 y.params.length d7))] w fun e w'=>e=.returned (.bool r)/\Below w.heap.size w w':=by
 rw [same_e] at hr;have HI:Hid (∀ W q,Below w.heap.size w W->sameEs false x.params y.params=q->Calls Tryz.prog 79 #[.slice A7 x.params.length c7,.slice B7 y.params.length d7] W fun e w'=>e=.returned (.bool q)/\Below W.heap.size W w'):=hid (fun W q hW hq=>hI _ _ _ _ _ _ W q hm hl (Kd.C_below hA hW) (Kd.C_below hB hW) hq);have HR:=hid hr;clear hI hm hl hA hB hr
 go_enter Tryz.func116,Tryz.ntmps116
 have tk1:True:=trivial;have tk2:True:=trivial
 go_upto_region 1 with (first
  | (have _t:=tk1;refine run_event rfl (.box 80 _) rfl (.pointer (some ⟨w.heap.size,0,none⟩)) (w.alloc (.cells (entC x (.slice A7 x.params.length c7)) 80)) (by kernel_rfl) ?_;intro w1 hw1;have B1:Hid (Below w.heap.size w w1):=hid (by rw [hw1];exact alloc_below _ _);have E1:Hid (w1.heap[w.heap.size]?=some (.cells (entC x (.slice A7 x.params.length c7)) 80 (0,0))):=hid (by rw [hw1];exact heap_alloc_new _ _);clear hw1 tk1 _t)
  | (have _t:=tk2;refine run_event rfl (.box 80 _) rfl (.pointer (some ⟨w1.heap.size,0,none⟩)) (w1.alloc (.cells (entC y (.slice B7 y.params.length d7)) 80)) (by kernel_rfl) ?_;intro w2 hw2;have B2:Hid (Below w.heap.size w w2):=hid (B1.out.trans (by rw [hw2];exact (alloc_below _ _).mono B1.out.size));have E2:Hid (w2.heap[w1.heap.size]?=some (.cells (entC y (.slice B7 y.params.length d7)) 80 (0,0))):=hid (by rw [hw2];exact heap_alloc_new _ _);have E12:Hid (w2.heap[w.heap.size]?=some (.cells (entC x (.slice A7 x.params.length c7)) 80 (0,0))):=hid (by rw [hw2];exact ((alloc_below _ _).block _ (gS.1 E1.out).1).trans E1.out);clear hw2 tk2 _t))
 clear B1 E1;have x0:w2.cell? ⟨w.heap.size,0,none⟩=some (.string x.name):=(cell_row E12.out 0).trans rfl;have y0:w2.cell? ⟨w1.heap.size,0,none⟩=some (.string y.name):=(cell_row E2.out 0).trans rfl
 by_cases h0:x.name=y.name
 ·rw [<- h0] at y0
  have x4:w2.cell? ⟨w.heap.size,4,none⟩=some (.int .u32 x.num):=(cell_row E12.out 4).trans rfl;have y4:w2.cell? ⟨w1.heap.size,4,none⟩=some (.int .u32 y.num):=(cell_row E2.out 4).trans rfl
  by_cases h4:x.num=y.num
  ·rw [<- h4] at y4
   have x5:w2.cell? ⟨w.heap.size,5,none⟩=some (.bool x.auto):=(cell_row E12.out 5).trans rfl;have y5:w2.cell? ⟨w1.heap.size,5,none⟩=some (.bool y.auto):=(cell_row E2.out 5).trans rfl
   by_cases h5:x.auto=y.auto
   ·rw [<- h5] at y5
    have x6:w2.cell? ⟨w.heap.size,6,none⟩=some (.string x.word):=(cell_row E12.out 6).trans rfl;have y6:w2.cell? ⟨w1.heap.size,6,none⟩=some (.string y.word):=(cell_row E2.out 6).trans rfl
    by_cases h6:x.word=y.word
    ·rw [<- h6] at y6
     have x7:w2.cell? ⟨w.heap.size,7,none⟩=some (.slice A7 x.params.length c7):=(cell_row E12.out 7).trans rfl;have y7:w2.cell? ⟨w1.heap.size,7,none⟩=some (.slice B7 y.params.length d7):=(cell_row E2.out 7).trans rfl
     have HQ:Hid (sameEs false x.params y.params=r):=hid (by
      have h:=HR.out;rw [h0,h4,h5,h6] at h
      simpa using h)
     clear h0 h4 h5 h6 HR
     go_wp2_with (first
      | (go_at_call 79;refine (HI.out w2 r B2.out HQ.out).mono ?_;rintro e w3 ⟨rfl,hB3⟩;have B3:Hid (Below w.heap.size w w3):=hid (B2.out.trans (hB3.mono B2.out.size));clear hB3))
     go_ret
     exact ⟨rfl,B3.out⟩
    ·have HF:Hid (r=false):=hid (by rw [<- HR.out];simp [h6])
     have h6b:(x.word.toList == y.word.toList)=false:=by rw [beq_str];simp [h6]
     clear h0 h4 h5 h6
     go_wp2_with fail
     go_ret
     exact ⟨by rw [HF.out];rfl,B2.out⟩
   ·have HF:Hid (r=false):=hid (by rw [<- HR.out];simp [h5])
    have h5b:(x.auto == y.auto)=false:=by simp [h5]
    clear h0 h4 h5
    go_wp2_with fail
    go_ret
    exact ⟨by rw [HF.out];rfl,B2.out⟩
  ·have HF:Hid (r=false):=hid (by rw [<- HR.out];simp [h4])
   have h4b:(x.num == y.num)=false:=by simp [h4]
   clear h0 h4
   go_wp2_with fail
   go_ret
   exact ⟨by rw [HF.out];rfl,B2.out⟩
 ·have HF:Hid (r=false):=hid (by rw [<- HR.out];simp [h0])
  have h0b:(x.name.toList == y.name.toList)=false:=by rw [beq_str];simp [h0]
  clear h0
  go_wp2_with fail
  go_ret
  exact ⟨by rw [HF.out];rfl,B2.out⟩
theorem alike_all (m:Nat):AlC m:=by
 induction m using Nat.strongRecOn with
 | _ m ih =>
  intro a b A c B d w r hm hl hA hB hr
  have HE:=hid (eqe_calls a b A c B d w r (Nat.le_trans (szEs_len b) hl) hA hB hr (fun x y A7 c7 B7 d7 W q hx hW hC7 hD7 hq=>by
   obtain ⟨j,hj⟩:=List.getElem?_of_mem hx;have h1:=szEs_get b j y hj;have h2:=szE_eq y;have h3:=szEs_len y.params
   exact alike1_calls (szEs y.params) (ih _ (by omega)) x y A7 c7 B7 d7 W q (Nat.le_refl _) (by omega) hC7 hD7 hq))
  clear ih hA hB hr;generalize a.length=na at *;generalize b.length=nb at *
  go_enter Tryz.func79,Tryz.ntmps79
  go_wp2_with (first
   | (go_at_call 115;refine HE.out.mono ?_;rintro e w2 ⟨rfl,hB2⟩;have B2:=hid hB2;clear hB2))
  go_ret
  exact ⟨rfl,B2.out⟩
theorem write1_calls (x y:SI) (A7:Option Addr) (c7:Nat) (B7:Option Addr) (d7:Nat) (w:World) (r:Bool) (hl:szEs y.ents<=1073741824) (hA:Kd.C kEnt w A7 x.ents.length x.ents) (hB:Kd.C kEnt w B7 y.ents.length y.ents) (hr:sameI false x y=r) :
  Calls Tryz.prog 78 #[.agg (itemC x (.slice A7 x.ents.length c7)),.agg (itemC y (.slice B7 y.ents.length d7))] w fun e w'=>e=.returned (.bool r)/\Below w.heap.size w w':=by
 rw [same_i] at hr;have HI:Hid (∀ W q,Below w.heap.size w W->sameEs false x.ents y.ents=q->Calls Tryz.prog 79 #[.slice A7 x.ents.length c7,.slice B7 y.ents.length d7] W fun e w'=>e=.returned (.bool q)/\Below W.heap.size W w'):=hid (fun W q hW hq=>alike_all (szEs y.ents) _ _ _ _ _ _ W q (Nat.le_refl _) (by first | exact hl | exact Nat.le_trans (szEs_len _) hl) (Kd.C_below hA hW) (Kd.C_below hB hW) hq);have HR:=hid hr;clear hl hA hB hr
 go_enter Tryz.func78,Tryz.ntmps78
 have tk1:True:=trivial;have tk2:True:=trivial
 go_upto_region 1 with (first
  | (have _t:=tk1;refine run_event rfl (.box 78 _) rfl (.pointer (some ⟨w.heap.size,0,none⟩)) (w.alloc (.cells (itemC x (.slice A7 x.ents.length c7)) 78)) (by kernel_rfl) ?_;intro w1 hw1;have B1:Hid (Below w.heap.size w w1):=hid (by rw [hw1];exact alloc_below _ _);have E1:Hid (w1.heap[w.heap.size]?=some (.cells (itemC x (.slice A7 x.ents.length c7)) 78 (0,0))):=hid (by rw [hw1];exact heap_alloc_new _ _);clear hw1 tk1 _t)
  | (have _t:=tk2;refine run_event rfl (.box 78 _) rfl (.pointer (some ⟨w1.heap.size,0,none⟩)) (w1.alloc (.cells (itemC y (.slice B7 y.ents.length d7)) 78)) (by kernel_rfl) ?_;intro w2 hw2;have B2:Hid (Below w.heap.size w w2):=hid (B1.out.trans (by rw [hw2];exact (alloc_below _ _).mono B1.out.size));have E2:Hid (w2.heap[w1.heap.size]?=some (.cells (itemC y (.slice B7 y.ents.length d7)) 78 (0,0))):=hid (by rw [hw2];exact heap_alloc_new _ _);have E12:Hid (w2.heap[w.heap.size]?=some (.cells (itemC x (.slice A7 x.ents.length c7)) 78 (0,0))):=hid (by rw [hw2];exact ((alloc_below _ _).block _ (gS.1 E1.out).1).trans E1.out);clear hw2 tk2 _t))
 clear B1 E1;have x0:w2.cell? ⟨w.heap.size,0,none⟩=some (.string x.kind):=(cell_row E12.out 0).trans rfl;have y0:w2.cell? ⟨w1.heap.size,0,none⟩=some (.string y.kind):=(cell_row E2.out 0).trans rfl
 by_cases h0:x.kind=y.kind
 ·rw [<- h0] at y0
  have x6:w2.cell? ⟨w.heap.size,1,none⟩=some (.string x.name):=(cell_row E12.out 1).trans rfl;have y6:w2.cell? ⟨w1.heap.size,1,none⟩=some (.string y.name):=(cell_row E2.out 1).trans rfl
  by_cases h6:x.name=y.name
  ·rw [<- h6] at y6
   have x7:w2.cell? ⟨w.heap.size,5,none⟩=some (.slice A7 x.ents.length c7):=(cell_row E12.out 5).trans rfl;have y7:w2.cell? ⟨w1.heap.size,5,none⟩=some (.slice B7 y.ents.length d7):=(cell_row E2.out 5).trans rfl
   have HQ:Hid (sameEs false x.ents y.ents=r):=hid (by
    have h:=HR.out;rw [h0,h6] at h
    simpa using h)
   clear h0 h6 HR
   go_wp2_with (first
    | (go_at_call 79;refine (HI.out w2 r B2.out HQ.out).mono ?_;rintro e w3 ⟨rfl,hB3⟩;have B3:Hid (Below w.heap.size w w3):=hid (B2.out.trans (hB3.mono B2.out.size));clear hB3))
   go_ret
   exact ⟨rfl,B3.out⟩
  ·have HF:Hid (r=false):=hid (by rw [<- HR.out];simp [h6])
   have h6b:(x.name.toList == y.name.toList)=false:=by rw [beq_str];simp [h6]
   clear h0 h6
   go_wp2_with fail
   go_ret
   exact ⟨by rw [HF.out];rfl,B2.out⟩
 ·have HF:Hid (r=false):=hid (by rw [<- HR.out];simp [h0])
  have h0b:(x.kind.toList == y.kind.toList)=false:=by rw [beq_str];simp [h0]
  clear h0
  go_wp2_with fail
  go_ret
  exact ⟨by rw [HF.out];rfl,B2.out⟩
theorem spot_eqIn (a b c a' b' c':Int) (w:World):(Op.equalIn 10000 41 (.agg #[.int .i64 a,.int .i64 b,.int .i64 c]) (.agg #[.int .i64 a',.int .i64 b',.int .i64 c'])).run Tryz.prog w=.ok (a == a'&&(b == b'&&c == c')) w:=by
 have hu:=Tryz.underlying41;rw [show (10000:Nat)=9999 + 1 from rfl,run_equalIn_struct w 9999 41 _ _ hu (by kernel_rfl)];have u3:=Tryz.underlying3
 go_simp
 by_cases h1:a=a' <;> by_cases h2:b=b' <;> by_cases h3:c=c' <;> simp [h1,h2,h3]
theorem spot_neq2 (a b c a' b' c':Int) (W:World) (r:Bool) (hr:(a == a'&&(b == b'&&c == c'))=!r):(binOp .neq 41 (.agg #[.int .i64 a,.int .i64 b,.int .i64 c]) (.agg #[.int .i64 a',.int .i64 b',.int .i64 c'])).run Tryz.prog W=.ok (.bool r) W:=by
 simp only [go_sem,binOp,Op.equal,Sem.run_bind];rw [show Op.maxDepth=10000 from rfl,spot_eqIn,hr];cases r <;> simp [go_sem]
theorem spot_same (x y:SP):(x.f0 == y.f0&&(x.f1 == y.f1&&x.f2 == y.f2))=sameP x y:=by
 unfold sameP;rw [Bool.and_assoc]
theorem two_newS {w w4:World} {A B:Array Value} {T:TypeId} (h:w4=((w.alloc (.cells A T)).alloc (.cells B T)).drew):Hid (Below w.heap.size w w4)/\Hid (w4.heap[w.heap.size]?=some (.cells A T (0,0)))/\Hid (w4.heap[w.heap.size + 1]?=some (.cells B T (0,0))):=by
 subst h;have b1:=alloc_below w (.cells A T);have z1:(w.alloc (.cells A T)).heap.size=w.heap.size + 1:=by simp
 have g0:=heap_alloc_new w (.cells A T);have g1:=heap_alloc_new (w.alloc (.cells A T)) (.cells B T);rw [z1] at g1;generalize w.alloc (.cells A T)=w1 at *;have b2:=alloc_below w1 (.cells B T);exact ⟨hid (b1.trans (b2.mono b1.size)).drew,hid (show (w1.alloc (.cells B T)).heap[w.heap.size]?=_ from (b2.block _ (gS.1 g0).1).trans g0),hid g1⟩
theorem two_boxS {w w4:World} {A B:Array Value} {T:TypeId} (h:w4=(w.alloc (.cells A T)).alloc (.cells B T)):Hid (Below w.heap.size w w4)/\Hid (w4.heap[w.heap.size]?=some (.cells A T (0,0)))/\Hid (w4.heap[w.heap.size + 1]?=some (.cells B T (0,0))):=by
 subst h;have b1:=alloc_below w (.cells A T);have z1:(w.alloc (.cells A T)).heap.size=w.heap.size + 1:=by simp
 have g0:=heap_alloc_new w (.cells A T);have g1:=heap_alloc_new (w.alloc (.cells A T)) (.cells B T);rw [z1] at g1;generalize w.alloc (.cells A T)=w1 at *;have b2:=alloc_below w1 (.cells B T);exact ⟨hid (b1.trans (b2.mono b1.size)),hid (show (w1.alloc (.cells B T)).heap[w.heap.size]?=_ from (b2.block _ (gS.1 g0).1).trans g0),hid g1⟩
theorem cell_al {w:World} {a:Addr} {v:Value} (h:w.cell? a=some v) (X:Obj):(w.alloc X).cell? a=some v:=((alloc_below w X).cell (lC w _ h)).trans h
theorem sameE_split {s:Bool} {x y:SE} (h:sameE s x y=true):y.name=x.name/\y.num=x.num/\y.auto=x.auto/\y.word=x.word/\(s=true->sameP x.spot y.spot=true)/\sameEs s x.params y.params=true:=by
 cases x;cases y;simp only [sameE,Bool.and_eq_true,decide_eq_true_eq,beq_iff_eq,Bool.or_eq_true,Bool.not_eq_true'] at h;obtain ⟨⟨⟨⟨⟨h1,h2⟩,h3⟩,h4⟩,h5⟩,h6⟩:=h;exact ⟨h1.symm,h2.symm,h3.symm,h4.symm,fun hs=>h5.resolve_left (by rw [hs];decide),h6⟩
theorem sameI_split {s:Bool} {x y:SI} (h:sameI s x y=true):y.kind=x.kind/\y.name=x.name/\(s=true->sameP x.spot y.spot=true)/\sameEs s x.ents y.ents=true:=by
 simp only [sameI,Bool.and_eq_true,decide_eq_true_eq,Bool.or_eq_true,Bool.not_eq_true'] at h;obtain ⟨⟨⟨h1,h2⟩,h5⟩,h6⟩:=h;exact ⟨h1.symm,h2.symm,fun hs=>h5.resolve_left (by rw [hs];decide),h6⟩
theorem sameEs_get {s:Bool}:∀ {a b:List SE},sameEs s a b=true->a.length=b.length/\∀ (j:Nat) (x y:SE),a[j]?=some x->b[j]?=some y->sameE s x y=true
 | [],[],_=>⟨rfl,fun j x y h=>by simp at h⟩
 | [],y :: b,h=>by simp [sameEs] at h
 | x :: a,[],h=>by simp [sameEs] at h
 | x :: a,y :: b,h=>by
  rw [sameEs,Bool.and_eq_true] at h;obtain ⟨h1,h2⟩:=sameEs_get h.2
  refine ⟨by simp [h1],fun j x' y' hx hy=>?_⟩
  cases j with
  | zero =>
   simp only [List.getElem?_cons_zero,Option.some.injEq] at hx hy;subst hx;subst hy;exact h.1
  | succ j=>exact h2 j x' y' (by simpa using hx) (by simpa using hy)
theorem sameIs_get {s:Bool}:∀ {a b:List SI},sameIs s a b=true->a.length=b.length/\∀ (j:Nat) (x y:SI),a[j]?=some x->b[j]?=some y->sameI s x y=true
 | [],[],_=>⟨rfl,fun j x y h=>by simp at h⟩
 | [],y :: b,h=>by simp [sameIs] at h
 | x :: a,[],h=>by simp [sameIs] at h
 | x :: a,y :: b,h=>by
  rw [sameIs,Bool.and_eq_true] at h;obtain ⟨h1,h2⟩:=sameIs_get h.2
  refine ⟨by simp [h1],fun j x' y' hx hy=>?_⟩
  cases j with
  | zero =>
   simp only [List.getElem?_cons_zero,Option.some.injEq] at hx hy;subst hx;subst hy;exact h.1
  | succ j=>exact h2 j x' y' (by simpa using hx) (by simpa using hy)
theorem item_cells {w:World} {g:Nat} {a0 a1 a2 a3 a4 a5:Value} {t:TypeId} (h:w.heap[g]?=some (.cells #[a0,a1,a2,a3,a4,a5] t (0,0))) :
  w.cell? ⟨g,0,none⟩=some a0/\w.cell? ⟨g,1,none⟩=some a1/\w.cell? ⟨g,2,none⟩=some a2/\w.cell? ⟨g,3,none⟩=some a3/\w.cell? ⟨g,4,none⟩=some a4/\w.cell? ⟨g,5,none⟩=some a5 :=
 ⟨(cell_row h 0).trans rfl,(cell_row h 1).trans rfl,(cell_row h 2).trans rfl,(cell_row h 3).trans rfl,(cell_row h 4).trans rfl,(cell_row h 5).trans rfl⟩
theorem szEs_getE (l:List SE) (j:Nat) (x:SE) (h:l[j]?=some x):szEs x.params + 1<=szEs l:=by
 have h1:=szEs_get l j x h;have h2:=szE_eq x;omega
theorem rsameE_calls (s:Bool) (m:Nat):∀ (X Y:List SE) (A B:Option Addr) (c d:Nat) (w:World),szEs X<=m->szEs X<=1073741824->Kd.C kEnt w A X.length X->Kd.C kEnt w B Y.length Y->sameEs s X Y=true ->
  Calls Tryz.prog 74 #[.slice A X.length c,.slice B Y.length d,.bool s] w fun e w'=>e=.returned (.bool true)/\Below w.heap.size w w':=by
 induction m using Nat.strongRecOn with
 | _ m ih =>
  intro X Y A B c d w hm hm2 hA hB hS;have hg:=sameEs_get hS;have IH:=hid ih;have HA:=hid hA;have HB:=hid hB;have HGET:=hid hg;have HSZ:Hid (∀ (j:Nat) (x:SE),X[j]?=some x->szEs x.params<m/\szEs x.params<=1073741824):=hid (fun j x hx=>by have:=szEs_getE X j x hx;omega);have hl:=Nat.le_trans (szEs_len X) hm2;have hl2:=hg.1;clear ih hA hB hS hg hm hm2;obtain ⟨N,hN⟩:∃ N,X.length=N:=⟨_,rfl⟩;rw [hN] at HA hl hl2 ⊢;rw [<- hl2] at HB ⊢;have HNX:=hid hN;have HNY:=hid hl2.symm;clear hN hl2
  go_enter Tryz.func74,Tryz.ntmps74
  go_wp2_with fail
  go_loopw [7] (fun v wr=>∃ j:Nat,v=.int .i64 (j:Int)/\j<=N/\Hid (Below w.heap.size w wr)) (fun v _=>N - (intOf v).toNat)
  case atStart=>exact ⟨0,by go_num,by omega,hid (Below.refl _ _)⟩
  case round =>
   obtain ⟨j,rfl,hj,BL⟩:=hrel
   by_cases hlt:j<N
   ·skip
    have hjX:j<X.length:=by rw [HNX.out];exact hlt
    have hjY:j<Y.length:=by rw [HNY.out];exact hlt
    have hx:X[j]?=some X[j]:=List.getElem?_eq_getElem hjX;have hy:Y[j]?=some Y[j]:=List.getElem?_eq_getElem hjY;obtain ⟨ad,A9,c9,eA,x0,x1,x2,x3,x4,x5,x6,x7,l9,C9⟩:=at_Ent (Kd.C_below HA.out BL.out) (j:Int) (by omega) (by omega);obtain ⟨bd,A8,c8,eB,z0,z1,z2,z3,z4,z5,z6,z7,l8,C8⟩:=at_Ent (Kd.C_below HB.out BL.out) (j:Int) (by omega) (by omega);rw [ent_at' X j _ hx] at x0 x1 x2 x3 x4 x5 x6 x7 l9 C9;rw [ent_at' Y j _ hy] at z0 z1 z2 z3 z4 z5 z6 z7 l8 C8;have hs:=(HGET.out).2 j _ _ hx hy;have hz:=HSZ.out j _ hx;generalize X[j]=a at hx x0 x1 x2 x3 x4 x5 x6 x7 l9 C9 hs hz;generalize Y[j]=b at hy z0 z1 z2 z3 z4 z5 z6 z7 l8 C8 hs;obtain ⟨e0,e1,e2,e3,e4,e5⟩:=sameE_split hs;rw [e0] at z0;rw [e1] at z4;rw [e2] at z5;rw [e3] at z6;cases eA;cases eB;simp only [Int.toNat_natCast] at x0 x1 x2 x3 x4 x5 x6 x7 z0 z1 z2 z3 z4 z5 z6 z7;have HP:=hid e4;have HQ:=hid e5;have HZ:=hid hz;have HC9:=hid C9;have HC8:=hid C8;clear hx hy hs hz hjX hjY C9 C8 e0 e1 e2 e3 e4 e5
    go_upto_region 6 with fail
    have HPK:=hid (And.intro x0 (And.intro x1 (And.intro x2 (And.intro x3 (And.intro x4 (And.intro x5 (And.intro x6 (And.intro x7 (And.intro z0 (And.intro z1 (And.intro z2 (And.intro z3 (And.intro z4 (And.intro z5 (And.intro z6 (z7))))))))))))))));clear x0 x1 x2 x3 x4 x5 x6 x7 z0 z1 z2 z3 z4 z5 z6 z7
    apply once
    case h1 =>
     intro key;obtain ⟨x0,x1,x2,x3,x4,x5,x6,x7,z0,z1,z2,z3,z4,z5,z6,z7⟩:=HPK.out;have xa0:=fun (X:Obj)=>cell_al x0 X;have xb0:=fun (X Y:Obj)=>cell_al (cell_al x0 X) Y;have za0:=fun (X:Obj)=>cell_al z0 X;have zb0:=fun (X Y:Obj)=>cell_al (cell_al z0 X) Y;have xa1:=fun (X:Obj)=>cell_al x1 X;have xb1:=fun (X Y:Obj)=>cell_al (cell_al x1 X) Y;have za1:=fun (X:Obj)=>cell_al z1 X;have zb1:=fun (X Y:Obj)=>cell_al (cell_al z1 X) Y;have xa2:=fun (X:Obj)=>cell_al x2 X;have xb2:=fun (X Y:Obj)=>cell_al (cell_al x2 X) Y;have za2:=fun (X:Obj)=>cell_al z2 X;have zb2:=fun (X Y:Obj)=>cell_al (cell_al z2 X) Y;have xa3:=fun (X:Obj)=>cell_al x3 X;have xb3:=fun (X Y:Obj)=>cell_al (cell_al x3 X) Y;have za3:=fun (X:Obj)=>cell_al z3 X;have zb3:=fun (X Y:Obj)=>cell_al (cell_al z3 X) Y;have xa4:=fun (X:Obj)=>cell_al x4 X;have xb4:=fun (X Y:Obj)=>cell_al (cell_al x4 X) Y;have za4:=fun (X:Obj)=>cell_al z4 X;have zb4:=fun (X Y:Obj)=>cell_al (cell_al z4 X) Y;have xa5:=fun (X:Obj)=>cell_al x5 X;have xb5:=fun (X Y:Obj)=>cell_al (cell_al x5 X) Y;have za5:=fun (X:Obj)=>cell_al z5 X;have zb5:=fun (X Y:Obj)=>cell_al (cell_al z5 X) Y;have xa6:=fun (X:Obj)=>cell_al x6 X;have xb6:=fun (X Y:Obj)=>cell_al (cell_al x6 X) Y;have za6:=fun (X:Obj)=>cell_al z6 X;have zb6:=fun (X Y:Obj)=>cell_al (cell_al z6 X) Y;have xa7:=fun (X:Obj)=>cell_al x7 X;have xb7:=fun (X Y:Obj)=>cell_al (cell_al x7 X) Y;have za7:=fun (X:Obj)=>cell_al z7 X;have zb7:=fun (X Y:Obj)=>cell_al (cell_al z7 X) Y
     go_region
     all_goals
      clear x0 xa0 xb0 z0 za0 zb0 x1 xa1 xb1 z1 za1 zb1 x2 xa2 xb2 z2 za2 zb2 x3 xa3 xb3 z3 za3 zb3 x4 xa4 xb4 z4 za4 zb4 x5 xa5 xb5 z5 za5 zb5 x6 xa6 xb6 z6 za6 zb6 x7 xa7 xb7 z7 za7 zb7
      first
       | (obtain ⟨w4,hw4⟩:∃ w4:World,w4=((wr.alloc (.cells #[.string a.name,.int .i64 a.spot.f0,.int .i64 a.spot.f1,.int .i64 a.spot.f2,.int .u32 a.num,.bool a.auto,.string a.word,.slice A9 a.params.length c9] 80)).alloc (.cells #[.string a.name,.int .i64 b.spot.f0,.int .i64 b.spot.f1,.int .i64 b.spot.f2,.int .u32 a.num,.bool a.auto,.string a.word,.slice A8 b.params.length c8] 80)).drew:=⟨_,rfl⟩;rw [<- hw4];obtain ⟨B4,GX,GY⟩:=two_newS hw4;clear hw4;obtain ⟨q,hq⟩:∃ q,q=wr.heap.size + 1:=⟨_,rfl⟩;rw [<- hq] at GY ⊢;obtain ⟨p,hp⟩:∃ p,p=wr.heap.size:=⟨_,rfl⟩;rw [<- hp] at GX ⊢;clear hp hq)
       | (obtain ⟨w4,hw4⟩:∃ w4:World,w4=((wr.alloc (.cells #[.string a.name,.int .i64 b.spot.f0,.int .i64 b.spot.f1,.int .i64 b.spot.f2,.int .u32 a.num,.bool a.auto,.string a.word,.slice A8 b.params.length c8] 80)).alloc (.cells #[.string a.name,.int .i64 a.spot.f0,.int .i64 a.spot.f1,.int .i64 a.spot.f2,.int .u32 a.num,.bool a.auto,.string a.word,.slice A9 a.params.length c9] 80)).drew:=⟨_,rfl⟩;rw [<- hw4];obtain ⟨B4,GY,GX⟩:=two_newS hw4;clear hw4;obtain ⟨p,hp⟩:∃ p,p=wr.heap.size + 1:=⟨_,rfl⟩;rw [<- hp] at GX ⊢;obtain ⟨q,hq⟩:∃ q,q=wr.heap.size:=⟨_,rfl⟩;rw [<- hq] at GY ⊢;clear hp hq)
      revert GY;revert GX;revert B4;revert q;revert p;revert w4;exact key.out
    case h2 =>
     intro w4 p q B4 GX GY;have B5:Hid (Below w.heap.size w w4):=hid (BL.out.trans (B4.out.mono BL.out.size));obtain ⟨y0,y1,y2,y3,y4,y5,y6,y7⟩:=ent_cells GX.out;obtain ⟨t0,t1,t2,t3,t4,t5,t6,t7⟩:=ent_cells GY.out;cases s with
     | false =>
      clear y1 t1 y2 t2 y3 t3
      go_wp2_with (first
       | (go_at_call 74;refine (IH.out _ HZ.out.1 a.params b.params A9 A8 c9 c8 w4 (Nat.le_refl _) HZ.out.2 (Kd.C_below HC9.out B4.out) (Kd.C_below HC8.out B4.out) HQ.out).mono ?_;rintro e w6 ⟨rfl,hB6⟩;have B6:Hid (Below w.heap.size w w6):=hid (B5.out.trans (hB6.mono B5.out.size));clear hB6 y0 t0 y4 t4 y5 t5 y6 t6 y7 t7))
      exact ⟨⟨j + 1,by go_num,by omega,B6⟩,by simp [intOf];omega⟩
     | true =>
      have HPP:=fun W=>spot_neq2 a.spot.f0 a.spot.f1 a.spot.f2 b.spot.f0 b.spot.f1 b.spot.f2 W false (by rw [spot_same];exact HP.out rfl)
      go_wp2_with (first
       | (go_at_call 74;refine (IH.out _ HZ.out.1 a.params b.params A9 A8 c9 c8 w4 (Nat.le_refl _) HZ.out.2 (Kd.C_below HC9.out B4.out) (Kd.C_below HC8.out B4.out) HQ.out).mono ?_;rintro e w6 ⟨rfl,hB6⟩;have B6:Hid (Below w.heap.size w w6):=hid (B5.out.trans (hB6.mono B5.out.size));clear hB6 y0 t0 y1 t1 y2 t2 y3 t3 y4 t4 y5 t5 y6 t6 y7 t7))
      exact ⟨⟨j + 1,by go_num,by omega,B6⟩,by simp [intOf];omega⟩
   ·obtain rfl:j=N:=by omega
    go_wp2_with fail
    go_ret
    exact ⟨rfl,BL.out⟩
theorem rsameS_calls (s:Bool) (x y:SS) (A B:Option Addr) (c d:Nat) (w:World) (hA:Kd.C kItem w A x.items.length x.items) (hB:Kd.C kItem w B y.items.length y.items) (hS:sameS s x y=true) (hn:x.items.length<=1073741824) (hz:∀ i ∈ x.items,szEs i.ents<=1073741824) :
  Calls Tryz.prog 31 #[.agg #[.string x.cpu,.slice A x.items.length c],.agg #[.string y.cpu,.slice B y.items.length d],.bool s] w fun e w'=>e=.returned (.bool true)/\Below w.heap.size w w':=by
 obtain ⟨cp,X⟩:=x;obtain ⟨cp',Y⟩:=y;dsimp only at hA hB hn hz ⊢;unfold sameS at hS;rw [Bool.and_eq_true] at hS;have hc:cp=cp':=of_decide_eq_true hS.1;subst hc;have hg:=sameIs_get hS.2;have HA:=hid hA;have HB:=hid hB;have HGET:=hid hg;have HSZ:Hid (∀ (j:Nat) (x:SI),X[j]?=some x->szEs x.ents<=1073741824):=hid (fun j x hx=>hz x (List.mem_of_getElem? hx));have hl2:=hg.1;clear hA hB hS hg hz;obtain ⟨N,hN⟩:∃ N,X.length=N:=⟨_,rfl⟩;rw [hN] at HA hn hl2 ⊢;rw [<- hl2] at HB ⊢;have HNX:=hid hN;have HNY:=hid hl2.symm;clear hN hl2
 go_enter Tryz.func31,Tryz.ntmps31
 go_upto_region 1 with fail
 obtain ⟨w0,hw0⟩:∃ w0:World,w0=((w.alloc (.cells #[.string cp,.slice A N c] 64)).alloc (.cells #[.string cp,.slice B N d] 64)):=⟨_,rfl⟩;rw [<- hw0];obtain ⟨B0,GP,GQ⟩:=two_boxS hw0;clear hw0;have p0:w0.cell? ⟨w.heap.size,0,none⟩=some (.string cp):=(cell_row GP.out 0).trans rfl;have p1:w0.cell? ⟨w.heap.size,1,none⟩=some (.slice A N c):=(cell_row GP.out 1).trans rfl;have q0:w0.cell? ⟨w.heap.size + 1,0,none⟩=some (.string cp):=(cell_row GQ.out 0).trans rfl;have q1:w0.cell? ⟨w.heap.size + 1,1,none⟩=some (.slice B N d):=(cell_row GQ.out 1).trans rfl
 go_wp2_with fail
 clear p0 p1 q0 q1
 go_loopw [7] (fun v wr=>∃ j:Nat,v=.int .i64 (j:Int)/\j<=N/\Hid (Below w0.heap.size w0 wr)) (fun v _=>N - (intOf v).toNat)
 case atStart=>exact ⟨0,by go_num,by omega,hid (Below.refl _ _)⟩
 case round =>
  obtain ⟨j,rfl,hj,BR⟩:=hrel;have BL:Hid (Below w.heap.size w wr):=hid (B0.out.trans (BR.out.mono B0.out.size));have p1:wr.cell? ⟨w.heap.size,1,none⟩=some (.slice A N c):=(cell_row ((BR.out.block _ (gS.1 GP.out).1).trans GP.out) 1).trans rfl;have q1:wr.cell? ⟨w.heap.size + 1,1,none⟩=some (.slice B N d):=(cell_row ((BR.out.block _ (gS.1 GQ.out).1).trans GQ.out) 1).trans rfl
  by_cases hlt:j<N
  ·skip
   have hjX:j<X.length:=by rw [HNX.out];exact hlt
   have hjY:j<Y.length:=by rw [HNY.out];exact hlt
   have hx:X[j]?=some X[j]:=List.getElem?_eq_getElem hjX;have hy:Y[j]?=some Y[j]:=List.getElem?_eq_getElem hjY;obtain ⟨ad,A9,c9,eA,x0,x1,x2,x3,x4,x5,l9,C9⟩:=at_Item (Kd.C_below HA.out BL.out) (j:Int) (by omega) (by omega);obtain ⟨bd,A8,c8,eB,z0,z1,z2,z3,z4,z5,l8,C8⟩:=at_Item (Kd.C_below HB.out BL.out) (j:Int) (by omega) (by omega);rw [item_at' X j _ hx] at x0 x1 x2 x3 x4 x5 l9 C9;rw [item_at' Y j _ hy] at z0 z1 z2 z3 z4 z5 l8 C8;have hs:=(HGET.out).2 j _ _ hx hy;have hz:=HSZ.out j _ hx;generalize X[j]=a at hx x0 x1 x2 x3 x4 x5 l9 C9 hs hz;generalize Y[j]=b at hy z0 z1 z2 z3 z4 z5 l8 C8 hs;obtain ⟨e0,e1,e4,e5⟩:=sameI_split hs;rw [e0] at z0;rw [e1] at z1;cases eA;cases eB;simp only [Int.toNat_natCast] at x0 x1 x2 x3 x4 x5 z0 z1 z2 z3 z4 z5;have HP:=hid e4;have HQ:=hid e5;have HZ:=hid hz;have HC9:=hid C9;have HC8:=hid C8;clear hx hy hs hz hjX hjY C9 C8 e0 e1 e4 e5
   go_upto_region 6 with fail
   have HPK:=hid (And.intro x0 (And.intro x1 (And.intro x2 (And.intro x3 (And.intro x4 (And.intro x5 (And.intro z0 (And.intro z1 (And.intro z2 (And.intro z3 (And.intro z4 (And.intro z5 (And.intro p1 (q1))))))))))))));clear x0 x1 x2 x3 x4 x5 z0 z1 z2 z3 z4 z5 p1 q1
   apply once
   case h1 =>
    intro key;obtain ⟨x0,x1,x2,x3,x4,x5,z0,z1,z2,z3,z4,z5,p1,q1⟩:=HPK.out;have xa0:=fun (X:Obj)=>cell_al x0 X;have xb0:=fun (X Y:Obj)=>cell_al (cell_al x0 X) Y;have za0:=fun (X:Obj)=>cell_al z0 X;have zb0:=fun (X Y:Obj)=>cell_al (cell_al z0 X) Y;have xa1:=fun (X:Obj)=>cell_al x1 X;have xb1:=fun (X Y:Obj)=>cell_al (cell_al x1 X) Y;have za1:=fun (X:Obj)=>cell_al z1 X;have zb1:=fun (X Y:Obj)=>cell_al (cell_al z1 X) Y;have xa2:=fun (X:Obj)=>cell_al x2 X;have xb2:=fun (X Y:Obj)=>cell_al (cell_al x2 X) Y;have za2:=fun (X:Obj)=>cell_al z2 X;have zb2:=fun (X Y:Obj)=>cell_al (cell_al z2 X) Y;have xa3:=fun (X:Obj)=>cell_al x3 X;have xb3:=fun (X Y:Obj)=>cell_al (cell_al x3 X) Y;have za3:=fun (X:Obj)=>cell_al z3 X;have zb3:=fun (X Y:Obj)=>cell_al (cell_al z3 X) Y;have xa4:=fun (X:Obj)=>cell_al x4 X;have xb4:=fun (X Y:Obj)=>cell_al (cell_al x4 X) Y;have za4:=fun (X:Obj)=>cell_al z4 X;have zb4:=fun (X Y:Obj)=>cell_al (cell_al z4 X) Y;have xa5:=fun (X:Obj)=>cell_al x5 X;have xb5:=fun (X Y:Obj)=>cell_al (cell_al x5 X) Y;have za5:=fun (X:Obj)=>cell_al z5 X;have zb5:=fun (X Y:Obj)=>cell_al (cell_al z5 X) Y;have p1a:=fun (X:Obj)=>cell_al p1 X;have p1b:=fun (X Y:Obj)=>cell_al (cell_al p1 X) Y;have q1a:=fun (X:Obj)=>cell_al q1 X;have q1b:=fun (X Y:Obj)=>cell_al (cell_al q1 X) Y
    go_region
    all_goals
     clear x0 xa0 xb0 z0 za0 zb0 x1 xa1 xb1 z1 za1 zb1 x2 xa2 xb2 z2 za2 zb2 x3 xa3 xb3 z3 za3 zb3 x4 xa4 xb4 z4 za4 zb4 x5 xa5 xb5 z5 za5 zb5 p1 p1a p1b q1 q1a q1b
     first
      | (obtain ⟨w4,hw4⟩:∃ w4:World,w4=((wr.alloc (.cells #[.string a.kind,.string a.name,.int .i64 a.spot.f0,.int .i64 a.spot.f1,.int .i64 a.spot.f2,.slice A9 a.ents.length c9] 78)).alloc (.cells #[.string a.kind,.string a.name,.int .i64 b.spot.f0,.int .i64 b.spot.f1,.int .i64 b.spot.f2,.slice A8 b.ents.length c8] 78)).drew:=⟨_,rfl⟩;rw [<- hw4];obtain ⟨B4,GX,GY⟩:=two_newS hw4;clear hw4;obtain ⟨q,hq⟩:∃ q,q=wr.heap.size + 1:=⟨_,rfl⟩;rw [<- hq] at GY ⊢;obtain ⟨p,hp⟩:∃ p,p=wr.heap.size:=⟨_,rfl⟩;rw [<- hp] at GX ⊢;clear hp hq)
      | (obtain ⟨w4,hw4⟩:∃ w4:World,w4=((wr.alloc (.cells #[.string a.kind,.string a.name,.int .i64 b.spot.f0,.int .i64 b.spot.f1,.int .i64 b.spot.f2,.slice A8 b.ents.length c8] 78)).alloc (.cells #[.string a.kind,.string a.name,.int .i64 a.spot.f0,.int .i64 a.spot.f1,.int .i64 a.spot.f2,.slice A9 a.ents.length c9] 78)).drew:=⟨_,rfl⟩;rw [<- hw4];obtain ⟨B4,GY,GX⟩:=two_newS hw4;clear hw4;obtain ⟨p,hp⟩:∃ p,p=wr.heap.size + 1:=⟨_,rfl⟩;rw [<- hp] at GX ⊢;obtain ⟨q,hq⟩:∃ q,q=wr.heap.size:=⟨_,rfl⟩;rw [<- hq] at GY ⊢;clear hp hq)
     revert GY;revert GX;revert B4;revert q;revert p;revert w4;exact key.out
   case h2 =>
    intro w4 p q B4 GX GY;have B5:Hid (Below w.heap.size w w4):=hid (BL.out.trans (B4.out.mono BL.out.size));obtain ⟨y0,y1,y2,y3,y4,y5⟩:=item_cells GX.out;obtain ⟨t0,t1,t2,t3,t4,t5⟩:=item_cells GY.out;cases s with
    | false =>
     clear y2 t2 y3 t3 y4 t4
     go_wp2_with (first
      | (go_at_call 74;refine (rsameE_calls false _ a.ents b.ents A9 A8 c9 c8 w4 (Nat.le_refl _) HZ.out (Kd.C_below HC9.out B4.out) (Kd.C_below HC8.out B4.out) HQ.out).mono ?_;rintro e w6 ⟨rfl,hB6⟩;have B6:Hid (Below w.heap.size w w6):=hid (B5.out.trans (hB6.mono B5.out.size));have B46:Hid (Below wr.heap.size wr w6):=hid (B4.out.trans (hB6.mono B4.out.size));clear hB6 y0 t0 y1 t1 y5 t5))
     exact ⟨⟨j + 1,by go_num,by omega,hid (BR.out.trans (B46.out.mono BR.out.size))⟩,by simp [intOf];omega⟩
    | true =>
     have HPP:=fun W=>spot_neq2 a.spot.f0 a.spot.f1 a.spot.f2 b.spot.f0 b.spot.f1 b.spot.f2 W false (by rw [spot_same];exact HP.out rfl)
     go_wp2_with (first
      | (go_at_call 74;refine (rsameE_calls true _ a.ents b.ents A9 A8 c9 c8 w4 (Nat.le_refl _) HZ.out (Kd.C_below HC9.out B4.out) (Kd.C_below HC8.out B4.out) HQ.out).mono ?_;rintro e w6 ⟨rfl,hB6⟩;have B6:Hid (Below w.heap.size w w6):=hid (B5.out.trans (hB6.mono B5.out.size));have B46:Hid (Below wr.heap.size wr w6):=hid (B4.out.trans (hB6.mono B4.out.size));clear hB6 y0 t0 y1 t1 y2 t2 y3 t3 y4 t4 y5 t5))
     exact ⟨⟨j + 1,by go_num,by omega,hid (BR.out.trans (B46.out.mono BR.out.size))⟩,by simp [intOf];omega⟩
  ·obtain rfl:j=N:=by omega
   clear q1
   go_wp2_with fail
   go_ret
   exact ⟨rfl,BL.out⟩
end Go.Proofs.YtmfejjlmflgnbaaGreatDoor.Sc

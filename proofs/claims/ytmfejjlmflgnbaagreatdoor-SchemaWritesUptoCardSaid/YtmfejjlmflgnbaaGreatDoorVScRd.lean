/- CONTRACT: package schema's Read: a tree as a sheet, or the first fault. -/
import Derived.Test.YtmfejjlmflgnbaaGreatDoorVRows1
import Derived.Test.YtmfejjlmflgnbaaGreatDoorVAttrs
import Derived.Test.YtmfejjlmflgnbaaGreatDoorVErr
import Derived.Test.YtmfejjlmflgnbaaGreatDoorVInv
import Derived.Deep.RegionLaw
set_option linter.unusedVariables false
set_option linter.unusedSimpArgs false
set_option maxRecDepth 100000
namespace Go.Proofs.YtmfejjlmflgnbaaGreatDoor.Sc
open RowKit PA YtmfejjlmflgnbaaGreatDoorW.PrintWords YtmfejjlmflgnbaaGreatDoorW.PrintLast Sp Tr Tok
open Go.Lib (hid)
def treC (t:ST) (A:Option Addr) (c:Nat):Array Value:=#[.string t.f0,.string t.f1,.slice A t.f2.length c,.bool t.f3,.string t.f4]
def objcC (a:SO) (A:Option Addr) (c:Nat):Array Value:=#[.string a.f0,.string a.f1,.int .i64 a.f2.f0,.int .i64 a.f2.f1,.int .i64 a.f2.f2,.slice A a.f3.length c,.bool a.f4,.string a.f5]
def objz:Array Value:=#[.string ⟨#[]⟩,.string ⟨#[]⟩,.int .i64 0,.int .i64 0,.int .i64 0,.slice none 0 0,.bool false,.string ⟨#[]⟩]
theorem objc_all (a:SO) (A:Option Addr) (c:Nat):(objcC a A c).all (·.oneCell')=true:=by simp [objcC,Value.oneCell']
def item0:Array Value:=#[.string ⟨#[]⟩,.string ⟨#[]⟩,.int .i64 0,.int .i64 0,.int .i64 0,.slice none 0 0]
theorem infoItem:(Tryz.prog.info? 78).map (fun i=>(i.zero,i.size,i.bytes))=some (some (.agg item0),6,80):=by kernel_rfl
def ReadPost (t:ST) (w:World) (e:Ending) (w':World):Prop :=
 Below w.heap.size w w'/\match readT t with
  | .ok s=>∃ v,e=.returned (.tuple #[.agg (shC s.cpu v),.agg fa0])/\Kd.R kItem 78 w' w.heap.size (fun _=>True) v s.items
  | .error f=>e=.returned (.tuple #[.agg sh0,.agg (faC f.code f.spot f.name)])
theorem sas_nil (x:Value) (w:World):Calls Tryz.prog 68 #[.nilIface,x] w fun e w'=>e=.returned (.bool false)/\w=w':=by
 go_enter Tryz.func68,Tryz.ntmps68
 go_wp2_with fail
 go_ret
 exact ⟨rfl,rfl⟩
theorem ne_map {w:World} {k sm:Nat} {cs:Array Value} {T:TypeId} (h:w.heap[k]?=some (.cells cs T (0,0))) (hm:SeenAny w sm):k≠sm:=by
 obtain ⟨n,D,es,cl,hc,_⟩:=hm;rintro rfl;rw [h] at hc;cases hc
theorem as_world {w w':World} {g:Nat} {T A B C D:TypeId} {x y:Value} {a b c d:Array Value} (h:w.heap[g]?=some (.cells #[x] T (0,0))) (hw:w'=((((w.alloc (.cells a A)).alloc (.cells b B)).alloc (.cells c C)).alloc (.cells d D)).setCell ⟨g,0,none⟩ y) :
  w'.heap[g]?=some (.cells #[y] T (0,0))/\(∀ k,k<w.heap.size->k≠g->w'.heap[k]?=w.heap[k]?)/\∀ n,n<=g->n<=w.heap.size->Below n w w':=by
 obtain ⟨W0,hW0⟩:∃ W0,W0=(((w.alloc (.cells a A)).alloc (.cells b B)).alloc (.cells c C)).alloc (.cells d D):=⟨_,rfl⟩;rw [<- hW0] at hw;obtain ⟨hb,_⟩:=four_worlds hW0;have hg:g<w.heap.size:=(gS.1 h).1;have h1:=(hb.out.block g hg).trans h;subst hw
 refine ⟨setCell_row h1 y,fun k hk hne=>?_,fun n h2 h3=>(hb.out.mono h3).setCell (p:=⟨g,0,none⟩) h2 y⟩
 exact (Below.heap_setCell W0 ⟨g,0,none⟩ y k (fun e=>hne e)).trans (hb.out.block k hk)
structure RQ (t:ST) (RES:Except SF (List SI)) (w0:World) (b1 b2 b3 rb sm sb:Nat) (Ar:Option Addr) (cr:Nat) (A:Option Addr) (c:Nat) (j:Nat) (acc:List SI) (v:Value) (wr:World):Prop where
 rd:readOs tab acc (t.f2.drop j)=RES
 bel:Below w0.heap.size w0 wr
 tree:wr.heap[b1]?=some (.cells (treC t A c) 24 (0,0))
 z2:wr.heap[b2]?=some (.cells sh0 64 (0,0))
 z3:wr.heap[b3]?=some (.cells fa0 66 (0,0))
 rdr:wr.heap[rb]?=some (.cells #[.slice Ar tab.length cr,.map (some sm)] 128 (0,0))
 map:SeenAny wr sm
 row:Kd.R kRow 60 wr w0.heap.size (fun k=>k<sm) (.slice Ar tab.length cr) tab
 sh:wr.heap[sb]?=some (.cells (shC t.f1 v) 64 (0,0))
 its:Kd.R kItem 78 wr w0.heap.size (fun k=>sb<k) v acc
 len:acc.length<=j
theorem RQ.grown {t:ST} {RES:Except SF (List SI)} {w0 wr w':World} {b1 b2 b3 rb sm sb:Nat} {Ar A:Option Addr} {cr c j:Nat} {acc:List SI} {v:Value} (h:RQ t RES w0 b1 b2 b3 rb sm sb Ar cr A c j acc v wr) (hg:wr.grownBy w' (some sm)) (hm:SeenAny w' sm) (hsm:w0.heap.size<=sm/\sm<sb):RQ t RES w0 b1 b2 b3 rb sm sb Ar cr A c j acc v w':=by
 have key:∀ {k:Nat} {cs:Array Value} {T:TypeId},wr.heap[k]?=some (.cells cs T (0,0))->w'.heap[k]?=some (.cells cs T (0,0)):=fun {k cs T} hk=>by
  have hne:=ne_map hk h.map;exact (hg.block k (gS.1 hk).1 (fun e=>hne (by injection e))).trans hk
 exact ⟨h.rd,h.bel.trans (belowG hg hsm.1 h.bel.size),key h.tree,key h.z2,key h.z3,key h.rdr,hm,Kd.R_grown h.row hg (fun k hk e=>by injection e with e;omega),key h.sh,Kd.R_grown h.its hg (fun k hk e=>by injection e with e;omega),h.len⟩
theorem RQ.below {t:ST} {RES:Except SF (List SI)} {w0 wr w':World} {b1 b2 b3 rb sm sb:Nat} {Ar A:Option Addr} {cr c j:Nat} {acc:List SI} {v:Value} (h:RQ t RES w0 b1 b2 b3 rb sm sb Ar cr A c j acc v wr) (hb:Below wr.heap.size wr w') (hsm:w0.heap.size<=sm/\sm<sb):RQ t RES w0 b1 b2 b3 rb sm sb Ar cr A c j acc v w' :=
 h.grown (below_grown (r:=some sm) hb) (h.map.kept (below_grown (r:=none) hb) (by simp)) hsm
theorem obj_at (l:List SO) (j:Nat) (o:SO) (h:l[j]?=some o):rd_T44 l (j:Int)=o:=by
 unfold rd_T44;rw [Int.toNat_natCast,List.getD_eq_getElem?_getD,h]
 rfl
def itemOf (o:SO):Except SF (List SE)->Except SF SI
 | .error f=>.error f
 | .ok l=>.ok ⟨o.f0,o.f1,o.f2,l⟩
theorem readO_in {o:SO} (h:inB kindsT o.f0=true):readO tab o=itemOf o (listedR tab o.f0 (underR tab o.f0 ⟨#[]⟩ ⟨#[]⟩) o.f3 o.f2):=by
 unfold readO;rw [if_neg (by rw [h];simp)];cases listedR tab o.f0 (underR tab o.f0 ⟨#[]⟩ ⟨#[]⟩) o.f3 o.f2 <;> rfl
theorem readT_eq (t:ST) {l:List SI} (h:readOs tab [] t.f2=.ok l):readT t=.ok ⟨t.f1,l⟩:=by unfold readT;rw [h]
theorem readT_er (t:ST) {f:SF} (h:readOs tab [] t.f2=.error f):readT t=.error f:=by unfold readT;rw [h]
set_option maxHeartbeats 32000000 in
theorem read_calls (eb:Int->Addr) (t:ST) (A:Option Addr) (c:Nat) (w:World) (hs:∀ o ∈ t.f2,szL o.f3<=1073741824) (hn:t.f2.length<=1073741824) (hC:Kd.C k44 w A t.f2.length t.f2) (hG:EGlob eb w) (hT:w.cell? ⟨4,0,none⟩=some (.iface 226 (.agg #[.pointer (some ⟨15,84,none⟩)]))) :
  Calls Tryz.prog 29 #[.agg (treC t A c)] w (ReadPost t w):=by
 have HS:=hid hs;have HL:=hid hn;have HC:=hid hC;have HG:=hid hG;have HT:=hid hT;obtain ⟨RES,hRES⟩:∃ r,readOs tab [] t.f2=r:=⟨_,rfl⟩;have HRES:=hid hRES;clear hs hC hG hT hRES;obtain ⟨n,hnn⟩:∃ n,t.f2.length=n:=⟨_,rfl⟩;rw [hnn] at hn HC HL;have HN:=hid hnn;clear hnn;have hmm:=@run_makeMap Tryz.prog;have tk1:True:=trivial;have tk2:True:=trivial;have tk3:True:=trivial
 go_enter Tryz.func29,Tryz.ntmps29
 go_upto_region 1 with (first
  | (have _t:=tk1;refine run_event rfl (.box 24 _) rfl (.pointer (some ⟨w.heap.size,0,none⟩)) (w.alloc (.cells (treC t A c) 24)) (by kernel_rfl) ?_;intro w1 hw1;have B1:Hid (Below w.heap.size w w1):=hid (by rw [hw1];exact alloc_below _ _);have E1:Hid (w1.heap[w.heap.size]?=some (.cells (treC t A c) 24 (0,0))):=hid (by rw [hw1];exact heap_alloc_new _ _);have Z1:Hid (w1.heap.size=w.heap.size + 1):=hid (by rw [hw1];simp);clear hw1 tk1 _t)
  | (have _t:=tk2;refine run_event rfl (.alloc 64) rfl (.pointer (some ⟨w1.heap.size,0,none⟩)) (w1.alloc (.cells sh0 64)) (by kernel_rfl) ?_;intro w2 hw2;have B2:Hid (Below w1.heap.size w1 w2):=hid (by rw [hw2];exact alloc_below _ _);have E2:Hid (w2.heap[w1.heap.size]?=some (.cells sh0 64 (0,0))):=hid (by rw [hw2];exact heap_alloc_new _ _);have Z2:Hid (w2.heap.size=w.heap.size + 2):=hid (by rw [hw2,World.size_alloc];have:=Z1.out;omega);clear hw2 tk2 _t)
  | (have _t:=tk3;refine run_event rfl (.alloc 66) rfl (.pointer (some ⟨w2.heap.size,0,none⟩)) (w2.alloc (.cells fa0 66)) (by kernel_rfl) ?_;intro w3 hw3;have B3:Hid (Below w2.heap.size w2 w3):=hid (by rw [hw3];exact alloc_below _ _);have E3:Hid (w3.heap[w2.heap.size]?=some (.cells fa0 66 (0,0))):=hid (by rw [hw3];exact heap_alloc_new _ _);have Z3:Hid (w3.heap.size=w.heap.size + 3):=hid (by rw [hw3,World.size_alloc];have:=Z2.out;omega);clear hw3 tk3 _t))
 go_upto_region 2 with (first
  | (go_at_call 25;refine (rows_calls _).mono ?_;rintro e w4 ⟨⟨v4,rfl,hS4⟩,hB4⟩;obtain ⟨Ar,cr,rfl,_,_⟩:=Kd.S_reads hS4;have B4:=hid hB4;have C4:Hid (Kd.R kRow 60 w4 w3.heap.size (fun k=>k<w4.heap.size) (.slice Ar tab.length cr) tab):=hid (Kd.R_mono (Kd.R_bound (Kd.S_R hS4)) (fun k hk=>hk.2.2.1));clear hS4 hB4))
 obtain ⟨w6,hw6⟩:∃ w6:World,w6=((w4.alloc (.map #[] 0)).alloc (.cells #[.slice Ar tab.length cr,.map (some w4.heap.size)] 128)):=⟨_,rfl⟩;rw [<- hw6];obtain ⟨B46,M6,K6,Z6⟩:=reader_worlds hw6;clear hw6;have E16:=hid ((B46.out.block w.heap.size (by have:=B4.out.size;have:=Z3.out;omega)).trans ((B4.out.block w.heap.size (by have:=Z3.out;omega)).trans ((B3.out.block w.heap.size (by have:=Z2.out;omega)).trans ((B2.out.block w.heap.size (by have:=Z1.out;omega)).trans E1.out))));have E26:=hid ((B46.out.block w1.heap.size (by have:=B4.out.size;have:=Z3.out;have:=Z1.out;omega)).trans ((B4.out.block w1.heap.size (by have:=Z3.out;have:=Z1.out;omega)).trans ((B3.out.block w1.heap.size (by have:=Z2.out;have:=Z1.out;omega)).trans E2.out)));have E36:=hid ((B46.out.block w2.heap.size (by have:=B4.out.size;have:=Z3.out;have:=Z2.out;omega)).trans ((B4.out.block w2.heap.size (by have:=Z3.out;have:=Z2.out;omega)).trans E3.out));have HNB:Hid (w1.heap.size=w.heap.size + 1/\w2.heap.size=w.heap.size + 2/\w.heap.size + 3<=w4.heap.size/\w6.heap.size=w4.heap.size + 2):=hid ⟨Z1.out,Z2.out,by have:=B4.out.size;have:=Z3.out;omega,Z6.out⟩;have C6:Hid (Kd.R kRow 60 w6 w.heap.size (fun k=>k<w4.heap.size) (.slice Ar tab.length cr) tab):=hid (Kd.R_lower (Kd.R_below C4.out B46.out) (by have:=Z3.out;omega))
 have BW6:Hid (Below w.heap.size w w6):=hid (by
  have h1:=B1.out.trans (B2.out.mono (by have:=Z1.out;omega));have h2:=h1.trans (B3.out.mono (by have:=Z2.out;omega));have h3:=h2.trans (B4.out.mono (by have:=Z3.out;omega))
  exact h3.trans (B46.out.mono (by have:=HNB.out;omega)))
 clear B1 E1 B2 E2 B3 E3 B4 C4 B46 Z1 Z2 Z3 Z6;have a1:w6.cell? ⟨w.heap.size,1,none⟩=some (.string t.f1):=(cell_row E16.out 1).trans rfl;have tk1:True:=trivial
 go_upto_region 3 with (first
  | (have _t:=tk1;refine run_event rfl (.alloc 64) rfl (.pointer (some ⟨w6.heap.size,0,none⟩)) (w6.alloc (.cells sh0 64)) (by kernel_rfl) ?_;intro w7 hw7;have B7:Hid (Below w6.heap.size w6 w7):=hid (by rw [hw7];exact alloc_below _ _);have E7:Hid (w7.heap[w6.heap.size]?=some (.cells sh0 64 (0,0))):=hid (by rw [hw7];exact heap_alloc_new _ _);clear hw7 tk1 _t)
  | ((with_reducible refine gate_store (t:=64) (p:=5) rfl ?_);refine put_event rfl 64 _ _ rfl w6.heap.size (shC t.f1 (.slice none 0 0)) rfl rfl 64 sh0 E7.out (by kernel_rfl) rfl (by simp [Value.oneCell']) w6.heap.size (Nat.le_refl _) ?_;intro w8 hb8 hB8 hs8 ho8;have E8:=hid hb8;have B8:Hid (Below w6.heap.size w6 w8):=hid (B7.out.trans hB8);clear hb8 hB8 hs8 ho8 a1))
 clear B7 E7
 have HST:Hid (RQ t RES w w.heap.size w1.heap.size w2.heap.size (w4.heap.size + 1) w4.heap.size w6.heap.size Ar cr A c 0 [] (.slice none 0 0) w8):=hid
  ⟨by rw [List.drop_zero];exact HRES.out,BW6.out.trans (B8.out.mono (by have:=HNB.out;omega)),(B8.out.block _ (by have:=HNB.out;omega)).trans E16.out,(B8.out.block _ (by have:=HNB.out;omega)).trans E26.out,(B8.out.block _ (by have:=HNB.out;omega)).trans E36.out,(B8.out.block _ (by have:=HNB.out;omega)).trans K6.out,M6.out.kept (below_grown (r:=none) B8.out) (by simp),Kd.R_below C6.out B8.out,E8.out,Kd.R_nil _ _ _ _ _,by simp⟩
 have HG8:=hid (HG.out.below HST.out.bel);clear E16 E26 E36 C6 BW6 E8 B8 M6 K6;have a2:w8.cell? ⟨w.heap.size,2,none⟩=some (.slice A t.f2.length c):=(cell_row HST.out.tree 2).trans rfl;rw [HN.out] at a2
 go_wp2_with fail
 clear a2
 go_loopw [21] (fun v wr=>∃ (j:Nat) (acc:List SI) (sv:Value),v=.int .i64 (j:Int)/\j<=n/\Hid (RQ t RES w w.heap.size w1.heap.size w2.heap.size (w4.heap.size + 1) w4.heap.size w6.heap.size Ar cr A c j acc sv wr)) (fun v _=>n - (intOf v).toNat)
 case atStart=>exact ⟨0,_,_,by go_num,by omega,HST⟩
 case round =>
  obtain ⟨j,acc,sv,rfl,hj,HI⟩:=hrel;obtain ⟨Ai0,ci0,hsv⟩:=RForm HI.out.its;subst hsv;clear HST;have HK:Hid (Keeps w wr):=hid (keeps_below HI.out.bel)
  by_cases hlt:j<n
  ·have hx:t.f2[j]?=some (t.f2[j]'(by rw [HN.out];exact hlt)):=List.getElem?_eq_getElem _
   obtain ⟨ad,A5,c5,eA,x0,x1,x2,x3,x4,x5,x6,x7,l5,C5⟩:=at_T44 (cl_C clObject HK.out HC.out) (j:Int) (by omega) (by omega);rw [obj_at t.f2 j _ hx] at x0 x1 x2 x3 x4 x5 x6 x7 l5 C5;have HSO:Hid (szL (t.f2[j]'(by rw [HN.out];exact hlt)).f3<=1073741824):=hid (HS.out _ (List.getElem_mem _));generalize (t.f2[j]'(by rw [HN.out];exact hlt))=o at hx x0 x1 x2 x3 x4 x5 x6 x7 l5 C5 HSO;cases eA;have HX:=hid hx;have HC5:=hid C5;clear hx C5 l5;simp only [Int.toNat_natCast] at x0 x1 x2 x3 x4 x5 x6 x7;have tk1:True:=trivial
   go_upto_region 6 with (first
    | (have _t:=tk1;refine run_event rfl (.alloc 44) rfl (.pointer (some ⟨wr.heap.size,0,none⟩)) (wr.alloc (.cells objz 44)) (by kernel_rfl) ?_;intro x4 hw4;have BX4:Hid (Below wr.heap.size wr x4):=hid (by rw [hw4];exact alloc_below _ _);have EX4:Hid (x4.heap[wr.heap.size]?=some (.cells objz 44 (0,0))):=hid (by rw [hw4];exact heap_alloc_new _ _);have ZX4:Hid (x4.heap.size=wr.heap.size + 1):=hid (by rw [hw4];simp);clear hw4 tk1 _t)
    | ((with_reducible refine gate_store (t:=44) (p:=7) rfl ?_);refine put_event rfl 44 _ _ rfl wr.heap.size (objcC o A5 c5) rfl rfl 44 objz EX4.out (by kernel_rfl) rfl (objc_all _ _ _) wr.heap.size (Nat.le_refl _) ?_;intro y5 hb5 hB5 hs5 ho5;have E5:=hid hb5;have B5:Hid (Below wr.heap.size wr y5):=hid (BX4.out.trans hB5);have Z5:Hid (y5.heap.size=wr.heap.size + 1):=hid (by rw [hs5,ZX4.out]);clear hb5 hB5 hs5 ho5 x0 x1 x2 x3 x5 x6 x7))
   clear BX4 EX4 ZX4;have HI5:=hid (HI.out.below B5.out (by have:=HNB.out;omega));have HG5:=hid (HG.out.below HI5.out.bel);have g50:=HG5.out.g50;have o0:y5.cell? ⟨wr.heap.size,0,none⟩=some (.string o.f0):=(cell_row E5.out 0).trans rfl;have o2:y5.cell? ⟨wr.heap.size,2,none⟩=some (.int .i64 o.f2.f0):=(cell_row E5.out 2).trans rfl;have o3:y5.cell? ⟨wr.heap.size,3,none⟩=some (.int .i64 o.f2.f1):=(cell_row E5.out 3).trans rfl;have o4:y5.cell? ⟨wr.heap.size,4,none⟩=some (.int .i64 o.f2.f2):=(cell_row E5.out 4).trans rfl;have tk1:True:=trivial
   go_upto_region 7 with (first
    | (have _t:=tk1;refine run_event rfl (.box 131 _) rfl (.pointer (some ⟨y5.heap.size,0,none⟩)) (y5.alloc (.cells (flawC eb ⟨50,o.f2,o.f0⟩) 131)) (by kernel_rfl) ?_;intro y6 hw6;have B6:Hid (Below y5.heap.size y5 y6):=hid (by rw [hw6];exact alloc_below _ _);have F6:Hid (y6.heap[y5.heap.size]?=some (.cells (flawC eb ⟨50,o.f2,o.f0⟩) 131 (0,0))):=hid (by rw [hw6];exact heap_alloc_new _ _);have Z6:Hid (y6.heap.size=wr.heap.size + 2):=hid (by rw [hw6,World.size_alloc];have:=Z5.out;omega);clear hw6 tk1 _t))
   clear g50 o0 o2 o3 o4;have E6:=hid ((B6.out.block wr.heap.size (by have:=Z5.out;omega)).trans E5.out);have HI6:=hid (HI5.out.below B6.out (by have:=HNB.out;omega));have HC6:=hid (Kd.C_below HC5.out (B5.out.trans (B6.out.mono B5.out.size)));have HGB:Hid (y5.heap.size=wr.heap.size + 1/\y6.heap.size=y5.heap.size + 1/\w.heap.size<=wr.heap.size):=hid ⟨Z5.out,by have:=Z5.out;have:=Z6.out;omega,HI.out.bel.size⟩;have HWR:Hid (w6.heap.size<wr.heap.size):=hid (gS.1 HI.out.sh).1;clear HI HI5 HG5 HK B5 E5 Z5 B6 Z6 HC5;obtain ⟨rk,hrk⟩:∃ rk,inB kindsT o.f0=rk:=⟨_,rfl⟩;have HRK:=hid hrk;clear hrk
   go_upto_region 8 with fail
   apply once
   case h1 =>
    intro key;have o0:y6.cell? ⟨wr.heap.size,0,none⟩=some (.string o.f0):=(cell_row E6.out 0).trans rfl;have hq1:wr.heap.size<y6.heap.size:=lC y6 _ o0
    go_region_with (first
     | (go_at_call 23;refine (kinds_calls _).mono ?_;rintro e y7 ⟨rfl,hR7,hB7⟩;have o7:y7.cell? ⟨wr.heap.size,0,none⟩=some (.string o.f0):=(hB7.cell hq1).trans o0;have R7:=hid hR7;have B7:Hid (Below y6.heap.size y6 y7):=hid ((Below.refl _ y6).drew.trans hB7);clear hR7 hB7)
     | (go_at_call 65;obtain ⟨A7,c7,he7,_,hC7⟩:=Kd.R_reads R7.out;cases he7;refine (scontains_calls kindsT o.f0 _ 9 y7 hC7 rk HRK.out).mono ?_;rintro e y8 ⟨rfl,rfl⟩))
    all_goals
     clear R7 hC7 o7 o0 hq1;revert B7;revert y8;exact key.out
   case h2 =>
    intro y7 B7;have HI7:=hid (HI6.out.below B7.out (by have:=HNB.out;omega));have HG7:=hid (HG.out.below HI7.out.bel);have F7:=hid ((B7.out.block y5.heap.size (by have:=HGB.out;omega)).trans F6.out);have E7:=hid ((B7.out.block wr.heap.size (by have:=HGB.out;omega)).trans E6.out);have HC7:=hid (Kd.C_below HC6.out B7.out);have HT7:Hid (y7.cell? ⟨4,0,none⟩=some (.iface 226 (.agg #[.pointer (some ⟨15,84,none⟩)]))):=hid ((HI7.out.bel.cell (lC w _ HT.out)).trans HT.out);have HYZ:Hid (wr.heap.size + 2<=y7.heap.size):=hid (by have:=B7.out.size;have:=HGB.out;have:=(gS.1 F6.out).1;omega);clear HI6 F6 E6 HC6 B7;cases rk with
    | false =>
     have HRO:Hid (readO tab o=.error ⟨50,o.f2,o.f0⟩):=hid (by unfold readO;rw [if_pos HRK.out]);have HER:Hid (RES=.error ⟨50,o.f2,o.f0⟩):=hid (by rw [<- HI7.out.rd];exact readOs_hit HX.out HRO.out);have HFL:Hid (FlawS eb y7 wr.heap.size y5.heap.size ⟨50,o.f2,o.f0⟩):=hid ⟨by have:=HGB.out;omega,F7.out⟩;have tkA:True:=trivial
     go_upto_region 11 with (first
      | (have _t:=tkA;refine run_event rfl (.alloc 129) rfl (.pointer (some ⟨y7.heap.size,0,none⟩)) (y7.alloc (.cells #[.pointer none] 129)) (by kernel_rfl) ?_;intro wa hwa;have BA:Hid (Below y7.heap.size y7 wa):=hid (by rw [hwa];exact alloc_below _ _);have EA:Hid (wa.heap[y7.heap.size]?=some (.cells #[.pointer none] 129 (0,0))):=hid (by rw [hwa];exact heap_alloc_new _ _);clear hwa tkA _t))
     have HAS:=hid (sas_hit ⟨y5.heap.size,0,none⟩ ⟨y7.heap.size,0,none⟩ (.pointer none) wa ((BA.out.cell (lC y7 _ HT7.out)).trans HT7.out) ((cell_row EA.out 0).trans rfl) (frozen_row EA.out 0))
     go_upto_region 12 with (first
      | (go_at_call 68;refine HAS.out.mono ?_;rintro ev wb ⟨rfl,hwb⟩;obtain ⟨hb1,hb2,hb3⟩:=as_world EA.out hwb;have EB:=hid hb1;have BB:Hid (Below y7.heap.size y7 wb):=hid (BA.out.trans (hb3 _ (Nat.le_refl _) BA.out.size));clear hwb hb1 hb2 hb3))
     have FB:=hid ((BB.out.block y5.heap.size (gS.1 HFL.out.2).1).trans HFL.out.2);have QB:=hid (HI7.out.below BB.out (by have:=HNB.out;omega))
     refine region12 (eb:=eb) (w0:=w) (b:=y5.heap.size) (fb:=y7.heap.size) (b2:=w1.heap.size) (b3:=w2.heap.size) (F:=(⟨50,o.f2,o.f0⟩:SF)) (by kernel_rfl) rfl rfl rfl (by rfl) (by rfl) (by rfl) (by rfl) (by rfl) QB.out.bel HG.out (readO_code HRO.out) EB.out FB.out QB.out.z2 QB.out.z3 (by have:=HNB.out;omega) (by have:=HNB.out;omega) ?_
     intro a' w' hd h2 h3 hB' hz2 hz3
     have hR:bodyPost Tryz.prog Tryz.f29 (ReadPost t w) .ret a' w':=by
      refine bodyPost_ret (results_list (rs:=[.cell 2 64,.cell 3 66]) rfl (by simp) (.cell w1.heap.size 64 sh0 (0,0) _ (by exact h2) hz2 Tryz.underlying64 rfl (by kernel_rfl) (.cell w2.heap.size 66 (faC (⟨50,o.f2,o.f0⟩:SF).code (⟨50,o.f2,o.f0⟩:SF).spot (⟨50,o.f2,o.f0⟩:SF).name) (0,0) _ (by exact h3) hz3 Tryz.underlying66 rfl (by kernel_rfl) .nil))) hd ?_
      refine ⟨hB',?_⟩
      rw [readT_er t (HRES.out.trans HER.out)]
     rename_i hK;exact hK a' w' (wp_ret hR)
    | true =>
     go_upto_region 9 with fail
     clear F7;have HRDR:Hid (RdAt y7 (w4.heap.size + 1) w4.heap.size tab Ar cr):=hid ⟨(cell_row HI7.out.rdr 0).trans rfl,(cell_row HI7.out.rdr 1).trans rfl,(Kd.R_reads' HI7.out.row).2.2,HI7.out.map,tab_df,by rw [tab_len];decide⟩;have E7c:=E7;have o0:y7.cell? ⟨wr.heap.size,0,none⟩=some (.string o.f0):=(cell_row E7.out 0).trans rfl;have o2:y7.cell? ⟨wr.heap.size,2,none⟩=some (.int .i64 o.f2.f0):=(cell_row E7.out 2).trans rfl;have o3:y7.cell? ⟨wr.heap.size,3,none⟩=some (.int .i64 o.f2.f1):=(cell_row E7.out 3).trans rfl;have o4:y7.cell? ⟨wr.heap.size,4,none⟩=some (.int .i64 o.f2.f2):=(cell_row E7.out 4).trans rfl;have o5:y7.cell? ⟨wr.heap.size,5,none⟩=some (.slice A5 o.f3.length c5):=(cell_row E7.out 5).trans rfl;obtain ⟨I,hI⟩:∃ I,underR tab o.f0 ⟨#[]⟩ ⟨#[]⟩=I:=⟨_,rfl⟩;have HBH:Hid (∀ W,Below y7.heap.size y7 W->Calls Tryz.prog 67 #[.pointer (some ⟨w4.heap.size + 1,0,none⟩),.string o.f0,.string ⟨#[]⟩,.string ⟨#[]⟩] W fun e w'=>(∃ v,e=.returned v/\Kd.R (Kd.fixed kRow W) 60 w' W.heap.size (fun _=>True) v I)/\Below W.heap.size W w'):=hid (fun W hB=>by rw [<- hI];exact behind_calls (w4.heap.size + 1) tab Ar cr o.f0 ⟨#[]⟩ ⟨#[]⟩ W ((hB.cell (lC y7 _ HRDR.out.rows)).trans HRDR.out.rows) (Kd.C_below HRDR.out.row hB) HRDR.out.len);obtain ⟨rl,hrl⟩:∃ rl,listedR tab o.f0 I o.f3 o.f2=rl:=⟨_,rfl⟩;have HID:Hid (DfL I/\I.length<=1000):=hid (by rw [<- hI];exact ⟨df_under tab_df _ _ _,Nat.le_trans (under_len _ _ _ _) (by rw [tab_len];decide)⟩)
     have HAT:Hid (∀ W Ai ci,Below y7.heap.size y7 W->Kd.C kRow W Ai I.length I->Calls Tryz.prog 66 #[.pointer (some ⟨w4.heap.size + 1,0,none⟩),.string o.f0,.slice Ai I.length ci,.slice A5 o.f3.length c5,spotV o.f2] W (AttrsPost eb rl w4.heap.size W)):=hid (fun W Ai ci hB hCI=>by
      have h:=attrs_calls eb tab o.f3 o.f0 I o.f2 (w4.heap.size + 1) w4.heap.size Ar cr Ai ci A5 c5 W HSO.out ⟨(hB.cell (lC y7 _ HRDR.out.rows)).trans HRDR.out.rows,(hB.cell (lC y7 _ HRDR.out.seen)).trans HRDR.out.seen,Kd.C_below HRDR.out.row hB,HRDR.out.map.kept (below_grown (r:=none) hB) (by simp),HRDR.out.df,HRDR.out.len⟩ hCI HID.out.1 HID.out.2 (Kd.C_below HC7.out hB) (HG7.out.below hB);rw [hrl] at h
      exact h)
     have HROL:Hid (readO tab o=itemOf o rl):=hid (by rw [readO_in HRK.out,hI,hrl]);have HIN:=hid hI;clear hI hrl;unfold spotV at HAT;cases rl with
     | error f =>
      go_region_held3 (fun W=>W.cell? ⟨wr.heap.size,0,none⟩=some (.string o.f0)/\W.cell? ⟨wr.heap.size,2,none⟩=some (.int .i64 o.f2.f0)/\W.cell? ⟨wr.heap.size,3,none⟩=some (.int .i64 o.f2.f1)/\W.cell? ⟨wr.heap.size,4,none⟩=some (.int .i64 o.f2.f2)/\W.cell? ⟨wr.heap.size,5,none⟩=some (.slice A5 o.f3.length c5)) (first | exact ⟨o0,o2,o3,o4,o5⟩ | exact ⟨p0,p2,p3,p4,p5⟩ | exact ⟨q0,q2,q3,q4,q5⟩ | assumption) (first
       | (go_at_call 67;refine (HBH.out _ (Below.refl _ _).drew).mono ?_;rintro e y8 ⟨⟨v8,rfl,hR8⟩,hB8⟩;obtain ⟨Ai,ci,rfl⟩:=RForm hR8;have B8:Hid (Below y7.heap.size y7 y8):=hid ((Below.refl _ _).drew.trans hB8);have C8:Hid (Kd.C kRow y8 Ai I.length I):=hid (fixed_C (keeps_below hB8) (Kd.R_reads' hR8).2.2);have p0:=(hB8.cell (lC y7 _ o0)).trans o0;have p2:=(hB8.cell (lC y7 _ o2)).trans o2;have p3:=(hB8.cell (lC y7 _ o3)).trans o3;have p4:=(hB8.cell (lC y7 _ o4)).trans o4;have p5:=(hB8.cell (lC y7 _ o5)).trans o5;clear hR8 hB8)
       | (go_at_call 66;refine (HAT.out y8 Ai ci B8.out C8.out).mono ?_;rintro e y9 ⟨hg9,hs9,bq,rfl,hX9⟩;have KK:=keeps_grown_map (HI7.out.map.kept (below_grown (r:=none) B8.out) (by simp)) hg9;have q0:=KK _ _ p0;have q2:=KK _ _ p2;have q3:=KK _ _ p3;have q4:=KK _ _ p4;have q5:=KK _ _ p5;have G9:=hid hg9;have S9:=hid hs9;have X9:=hid hX9;clear hg9 hs9 hX9 KK))
      clear o0 o2 o3 o4 o5 p0 p2 p3 p4 p5 q0 q2 q3 q4 q5 C8;have HI9:=hid ((HI7.out.below B8.out (by have:=HNB.out;omega)).grown G9.out S9.out (by have:=HNB.out;omega));have HG9:=hid (HG.out.below HI9.out.bel);have HRO:Hid (readO tab o=.error f):=hid HROL.out;have HER:Hid (RES=.error f):=hid (by rw [<- HI9.out.rd];exact readOs_hit HX.out HRO.out);have HFL:Hid (FlawS eb y9 wr.heap.size bq f):=hid ⟨by have:=X9.out.1;have:=B8.out.size;have:=HYZ.out;omega,X9.out.2⟩;have HT9:Hid (y9.cell? ⟨4,0,none⟩=some (.iface 226 (.agg #[.pointer (some ⟨15,84,none⟩)]))):=hid ((HI9.out.bel.cell (lC w _ HT.out)).trans HT.out);have tkA:True:=trivial
      go_upto_region 11 with (first
       | (have _t:=tkA;refine run_event rfl (.alloc 129) rfl (.pointer (some ⟨y9.heap.size,0,none⟩)) (y9.alloc (.cells #[.pointer none] 129)) (by kernel_rfl) ?_;intro wa hwa;have BA:Hid (Below y9.heap.size y9 wa):=hid (by rw [hwa];exact alloc_below _ _);have EA:Hid (wa.heap[y9.heap.size]?=some (.cells #[.pointer none] 129 (0,0))):=hid (by rw [hwa];exact heap_alloc_new _ _);clear hwa tkA _t))
      have HAS:=hid (sas_hit ⟨bq,0,none⟩ ⟨y9.heap.size,0,none⟩ (.pointer none) wa ((BA.out.cell (lC y9 _ HT9.out)).trans HT9.out) ((cell_row EA.out 0).trans rfl) (frozen_row EA.out 0))
      go_upto_region 12 with (first
       | (go_at_call 68;refine HAS.out.mono ?_;rintro ev wb ⟨rfl,hwb⟩;obtain ⟨hb1,hb2,hb3⟩:=as_world EA.out hwb;have EB:=hid hb1;have BB:Hid (Below y9.heap.size y9 wb):=hid (BA.out.trans (hb3 _ (Nat.le_refl _) BA.out.size));clear hwb hb1 hb2 hb3))
      have FB:=hid ((BB.out.block bq (gS.1 HFL.out.2).1).trans HFL.out.2);have QB:=hid (HI9.out.below BB.out (by have:=HNB.out;omega))
      refine region12 (eb:=eb) (w0:=w) (b:=bq) (fb:=y9.heap.size) (b2:=w1.heap.size) (b3:=w2.heap.size) (F:=f) (by kernel_rfl) rfl rfl rfl (by rfl) (by rfl) (by rfl) (by rfl) (by rfl) QB.out.bel HG.out (readO_code HRO.out) EB.out FB.out QB.out.z2 QB.out.z3 (by have:=HNB.out;omega) (by have:=HNB.out;omega) ?_
      intro a' w' hd h2 h3 hB' hz2 hz3
      have hR:bodyPost Tryz.prog Tryz.f29 (ReadPost t w) .ret a' w':=by
       refine bodyPost_ret (results_list (rs:=[.cell 2 64,.cell 3 66]) rfl (by simp) (.cell w1.heap.size 64 sh0 (0,0) _ (by exact h2) hz2 Tryz.underlying64 rfl (by kernel_rfl) (.cell w2.heap.size 66 (faC f.code f.spot f.name) (0,0) _ (by exact h3) hz3 Tryz.underlying66 rfl (by kernel_rfl) .nil))) hd ?_
       refine ⟨hB',?_⟩
       rw [readT_er t (HRES.out.trans HER.out)]
      rename_i hK;exact hK a' w' (wp_ret hR)
     | ok out =>
      go_region_held3 (fun W=>W.cell? ⟨wr.heap.size,0,none⟩=some (.string o.f0)/\W.cell? ⟨wr.heap.size,2,none⟩=some (.int .i64 o.f2.f0)/\W.cell? ⟨wr.heap.size,3,none⟩=some (.int .i64 o.f2.f1)/\W.cell? ⟨wr.heap.size,4,none⟩=some (.int .i64 o.f2.f2)/\W.cell? ⟨wr.heap.size,5,none⟩=some (.slice A5 o.f3.length c5)) (first | exact ⟨o0,o2,o3,o4,o5⟩ | exact ⟨p0,p2,p3,p4,p5⟩ | exact ⟨q0,q2,q3,q4,q5⟩ | assumption) (first
       | (go_at_call 67;refine (HBH.out _ (Below.refl _ _).drew).mono ?_;rintro e y8 ⟨⟨v8,rfl,hR8⟩,hB8⟩;obtain ⟨Ai,ci,rfl⟩:=RForm hR8;have B8:Hid (Below y7.heap.size y7 y8):=hid ((Below.refl _ _).drew.trans hB8);have C8:Hid (Kd.C kRow y8 Ai I.length I):=hid (fixed_C (keeps_below hB8) (Kd.R_reads' hR8).2.2);have p0:=(hB8.cell (lC y7 _ o0)).trans o0;have p2:=(hB8.cell (lC y7 _ o2)).trans o2;have p3:=(hB8.cell (lC y7 _ o3)).trans o3;have p4:=(hB8.cell (lC y7 _ o4)).trans o4;have p5:=(hB8.cell (lC y7 _ o5)).trans o5;clear hR8 hB8)
       | (go_at_call 66;refine (HAT.out y8 Ai ci B8.out C8.out).mono ?_;rintro e y9 ⟨hg9,hs9,v9,rfl,hX9⟩;obtain ⟨Ae,ce,rfl⟩:=RForm hX9;have KK:=keeps_grown_map (HI7.out.map.kept (below_grown (r:=none) B8.out) (by simp)) hg9;have q0:=KK _ _ p0;have q2:=KK _ _ p2;have q3:=KK _ _ p3;have q4:=KK _ _ p4;have q5:=KK _ _ p5;have G9:=hid hg9;have S9:=hid hs9;have X9:=hid hX9;clear hg9 hs9 hX9 KK))
      clear o0 o2 o3 o4 o5 p0 p2 p3 p4 p5 q0 q2 q3 q4 q5 C8;have HI9:=hid ((HI7.out.below B8.out (by have:=HNB.out;omega)).grown G9.out S9.out (by have:=HNB.out;omega));have HROk:Hid (readO tab o=.ok ⟨o.f0,o.f1,o.f2,out⟩):=hid HROL.out;have E9:Hid (y9.heap[wr.heap.size]?=some (.cells (objcC o A5 c5) 44 (0,0))):=hid ((G9.out.block wr.heap.size (by have:=B8.out.size;have:=HYZ.out;omega) (fun e=>by injection e with e;have:=HNB.out;have:=HWR.out;omega)).trans ((B8.out.block wr.heap.size (by have:=HYZ.out;omega)).trans E7.out));have HZ9:Hid (w6.heap.size<y8.heap.size/\y8.heap.size<=y9.heap.size/\y7.heap.size<=y8.heap.size):=hid ⟨by have:=B8.out.size;have:=HYZ.out;have:=HWR.out;omega,G9.out.size,B8.out.size⟩;have HLT7:Hid (∀ k,(Value.slice Ai0 acc.length ci0).ownBlock=some k->k<y7.heap.size):=hid (fun k hk=>ownLt HI7.out.its hk);clear HBH HAT HROL HIN HID E7 E7c HI7 HG7 HC7 HRDR B8 G9 S9 HT7;have tkA:True:=trivial
      go_upto_region 11 with (first
       | (have _t:=tkA;refine run_event rfl (.alloc 129) rfl (.pointer (some ⟨y9.heap.size,0,none⟩)) (y9.alloc (.cells #[.pointer none] 129)) (by kernel_rfl) ?_;intro ya hya;have BA:Hid (Below y9.heap.size y9 ya):=hid (by rw [hya];exact alloc_below _ _);clear hya tkA _t))
      have HAS:=hid (sas_nil (.iface 137 (.pointer (some ⟨y9.heap.size,0,none⟩))) ya)
      go_upto_region 13 with (first
       | (go_at_call 68;refine HAS.out.mono ?_;rintro ev yb ⟨rfl,hyb⟩;subst hyb))
      have HIA:=hid (HI9.out.below BA.out (by have:=HNB.out;omega));have EA:=hid ((BA.out.block wr.heap.size (gS.1 E9.out).1).trans E9.out);have XA:=hid (Kd.R_below X9.out BA.out);have HLA:Hid (acc.length<=1073741824):=hid (by have:=HIA.out.len;have:=HL.out;omega);have HPM:Hid (kItem.M ya w.heap.size (fun k=>y8.heap.size<=k) (⟨o.f0,o.f1,o.f2,out⟩:SI) [.string o.f0,.string o.f1,.int .i64 o.f2.f0,.int .i64 o.f2.f1,.int .i64 o.f2.f2,.slice Ae out.length ce]):=hid (kItem_mkM ya w.heap.size (fun k=>y8.heap.size<=k) (⟨o.f0,o.f1,o.f2,out⟩:SI) (Kd.R_lower (Kd.R_mono (Kd.R_bound XA.out) (fun k hk=>hk.2.1)) (by have:=HIA.out.bel.size;have:=HZ9.out;have:=HWR.out;have:=HNB.out;omega)));have HOK:Hid (∀ k,y8.heap.size<=k->w6.heap.size<k/\some k≠(Value.slice Ai0 acc.length ci0).ownBlock):=hid (fun k hk=>⟨by have:=HZ9.out;omega,fun e=>by have:=HLT7.out k e.symm;have:=HZ9.out;omega⟩);have HSA:Hid (w6.heap.size<ya.heap.size/\w.heap.size<=ya.heap.size):=hid ⟨(gS.1 HIA.out.sh).1,HIA.out.bel.size⟩;have HNE:Hid (∀ k,k<=w6.heap.size->some k≠(Value.slice Ai0 acc.length ci0).ownBlock):=hid (fun k hk e=>by have:=HIA.out.its.1 k e.symm;omega);clear HI9 E9 X9 XA BA HAS HLT7;have s0:ya.cell? ⟨w6.heap.size,0,none⟩=some (.string t.f1):=(cell_row HIA.out.sh 0).trans rfl;have s1:ya.cell? ⟨w6.heap.size,1,none⟩=some (.slice Ai0 acc.length ci0):=(cell_row HIA.out.sh 1).trans rfl;have o0:ya.cell? ⟨wr.heap.size,0,none⟩=some (.string o.f0):=(cell_row EA.out 0).trans rfl;have o1:ya.cell? ⟨wr.heap.size,1,none⟩=some (.string o.f1):=(cell_row EA.out 1).trans rfl;have o2:ya.cell? ⟨wr.heap.size,2,none⟩=some (.int .i64 o.f2.f0):=(cell_row EA.out 2).trans rfl;have o3:ya.cell? ⟨wr.heap.size,3,none⟩=some (.int .i64 o.f2.f1):=(cell_row EA.out 3).trans rfl;have o4:ya.cell? ⟨wr.heap.size,4,none⟩=some (.int .i64 o.f2.f2):=(cell_row EA.out 4).trans rfl
      go_wp2_with (first
       | (at_builtin;refine Kd.R_append kItem (w0:=w) w.heap.size rfl (.tmp 68) (.tmp 77) 62 78 (.agg item0) 80 rfl Tryz.underlying62 infoItem rfl (show 0<6 by decide) (by omega) (.slice Ai0 acc.length ci0) acc (⟨o.f0,o.f1,o.f2,out⟩:SI) [.string o.f0,.string o.f1,.int .i64 o.f2.f0,.int .i64 o.f2.f1,.int .i64 o.f2.f2,.slice Ae out.length ce] (fun k=>w6.heap.size<k) (fun k=>y8.heap.size<=k) rfl rfl HPM.out HOK.out (fun k hk=>by have:=HSA.out;omega) HIA.out.its HIA.out.bel HSA.out.2 (by have:=HLA.out;omega) ?_;intro v1 z1 ho hb hg hat;obtain ⟨acc2,hacc2⟩:∃ q,q=acc++[(⟨o.f0,o.f1,o.f2,out⟩:SI)]:=⟨_,rfl⟩;rw [<- hacc2] at ho;obtain ⟨Av,cv,rfl⟩:=RForm ho;have RO:=hid ho;have RB:=hid hb;have RG:=hid hg;have HA2:=hid hacc2;have SH1:=hid ((RG.out.block w6.heap.size HSA.out.1 (HNE.out _ (Nat.le_refl _))).trans HIA.out.sh);clear ho hb hg hat hacc2 s0 s1 o0 o1 o2 o3 o4)
       | ((with_reducible refine gate_store (t:=62) (p:=79) rfl ?_);refine cell_event rfl 62 _ _ rfl w6.heap.size 1 (.slice Av acc2.length cv) rfl rfl rfl (thereR SH1.out (by simp)) (by kernel_rfl) w6.heap.size (Nat.le_refl _) ?_;intro z2 hw2 hB2 hs2;obtain ⟨hr2,hk2,hz2⟩:=row1 SH1.out hw2;have SH2:Hid (z2.heap[w6.heap.size]?=some (.cells (shC t.f1 (.slice Av acc2.length cv)) 64 (0,0))):=hid hr2;have K2:=hid hk2;have Z2:=hid hz2;have B2:=hid hB2;clear hw2 hB2 hs2 hr2 hk2 hz2))
      have KE:Hid (∀ k,k<w6.heap.size->z2.heap[k]?=ya.heap[k]?):=hid (fun k hk=>(K2.out k (by omega)).trans (RG.out.block k (by have:=HSA.out;omega) (HNE.out k (by omega))))
      have HQ:Hid (RQ t RES w w.heap.size w1.heap.size w2.heap.size (w4.heap.size + 1) w4.heap.size w6.heap.size Ar cr (some ad) c (j + 1) acc2 (.slice Av acc2.length cv) z2):=hid
       ⟨by rw [<- HIA.out.rd,HA2.out];exact (readOs_go HX.out HROk.out).symm,RB.out.trans (B2.out.mono (by have:=HNB.out;omega)),(KE.out _ (by have:=HNB.out;omega)).trans HIA.out.tree,(KE.out _ (by have:=HNB.out;omega)).trans HIA.out.z2,(KE.out _ (by have:=HNB.out;omega)).trans HIA.out.z3,(KE.out _ (by have:=HNB.out;omega)).trans HIA.out.rdr,(HIA.out.map.kept RG.out (HNE.out _ (by have:=HNB.out;omega))).kept (row:=some w6.heap.size) ⟨B2.out.os,B2.out.tape,B2.out.output,B2.out.size,fun k _ hne=>K2.out k (fun e=>hne (by rw [e]))⟩ (fun e=>by injection e with e;have:=HNB.out;omega),Kd.R_move HIA.out.row (fun k hk=>KE.out k (by have:=HNB.out;omega)),SH2.out,Kd.R_move RO.out (fun k hk=>K2.out k (by omega)),by rw [HA2.out,List.length_append];have:=HIA.out.len;simp;omega⟩
      exact ⟨⟨j + 1,acc2,_,by go_num,by omega,HQ⟩,by simp [intOf];omega⟩
  ·obtain rfl:j=n:=by omega
   have HRE:Hid (readOs tab [] t.f2=.ok acc):=hid (by
    have h:=HI.out.rd;rw [List.drop_eq_nil_of_le (by rw [HN.out];exact Nat.le_refl _),readOs_nil] at h
    rw [HRES.out,<- h])
   have HWR:Hid (w6.heap.size<wr.heap.size):=hid (gS.1 HI.out.sh).1;have s0:wr.cell? ⟨w6.heap.size,0,none⟩=some (.string t.f1):=(cell_row HI.out.sh 0).trans rfl;have s1:wr.cell? ⟨w6.heap.size,1,none⟩=some (.slice Ai0 acc.length ci0):=(cell_row HI.out.sh 1).trans rfl;have tk1:True:=trivial
   go_wp2_with (first
    | ((with_reducible refine gate_store (t:=64) (p:=2) rfl ?_);refine put_event rfl 64 _ _ rfl w1.heap.size (shC t.f1 (.slice Ai0 acc.length ci0)) rfl rfl 64 sh0 HI.out.z2 (by kernel_rfl) rfl (by simp [Value.oneCell']) w1.heap.size (Nat.le_refl _) ?_;intro u1 hb1 hB1 hs1 ho1;have E1:=hid hb1;have B1:=hid hB1;have O1:=hid ho1;have U1:=hid hs1;have E1z:=hid ((ho1 w2.heap.size (by have:=HNB.out;omega)).trans HI.out.z3);clear hb1 hB1 hs1 ho1 s0 s1)
    | ((with_reducible refine gate_store (t:=66) (p:=3) rfl ?_);refine put_event rfl 66 _ _ rfl w2.heap.size fa0 rfl rfl 66 fa0 E1z.out (by kernel_rfl) rfl (by simp [Value.oneCell']) w2.heap.size (Nat.le_refl _) ?_;intro u2 hb2 hB2 hs2 ho2;have E2:=hid hb2;have B2:=hid hB2;have O2:=hid ho2;clear hb2 hB2 hs2 ho2))
   have hz2:u2.heap[w1.heap.size]?=some (.cells (shC t.f1 (.slice Ai0 acc.length ci0)) 64 (0,0)):=(O2.out _ (by have:=HNB.out;omega)).trans E1.out;have hz3:=E2.out
   refine bodyPost_ret (results_list (rs:=[.cell 2 64,.cell 3 66]) rfl (by simp) (.cell w1.heap.size 64 (shC t.f1 (.slice Ai0 acc.length ci0)) (0,0) _ rfl hz2 Tryz.underlying64 rfl (by kernel_rfl) (.cell w2.heap.size 66 fa0 (0,0) _ rfl hz3 Tryz.underlying66 rfl (by kernel_rfl) .nil))) rfl ?_
   refine ⟨(HI.out.bel.trans (B1.out.mono (by have:=HNB.out;omega))).trans (B2.out.mono (by have:=HNB.out;omega)),?_⟩
   rw [readT_eq t HRE.out];exact ⟨_,rfl,Kd.R_mono (Kd.R_move HI.out.its (fun k hk=>(O2.out k (by have:=HNB.out;omega)).trans (O1.out k (by have:=HNB.out;omega)))) (fun _ _=>trivial)⟩
end Go.Proofs.YtmfejjlmflgnbaaGreatDoor.Sc

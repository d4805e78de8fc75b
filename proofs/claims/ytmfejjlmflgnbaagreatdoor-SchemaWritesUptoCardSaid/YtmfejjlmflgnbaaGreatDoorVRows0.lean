/- A REGION THAT DRAWS ITS ORDER, BY WHAT HOLDS BETWEEN ITS OPERATIONS: whatever order is drawn, each operation that is ready keeps it. -/
import Derived.Test.YtmfejjlmflgnbaaGreatDoorVSc5
import Derived.Orders
set_option linter.unusedVariables false
set_option linter.unusedSimpArgs false
set_option maxRecDepth 100000
set_option maxHeartbeats 64000000
namespace Go.Proofs.YtmfejjlmflgnbaaGreatDoor.Sc
open RowKit PA YtmfejjlmflgnbaaGreatDoorW.PrintWords YtmfejjlmflgnbaaGreatDoorW.PrintLast Sp Tr Tok
open Go.Lib (hid)
section
variable {P:Program} {ops:Array Oper} {Q:Exit->Act->World->Prop} {md:Region.Mode}
def openOf (l:Array Bool) (n:Nat):Nat:=(List.range n).countP (fun i=>!l.getD i true)
theorem ready_open {l:Array Bool} {i:Nat} (h:i ∈ Region.ready md ops l):i<ops.size/\l.getD i true=false:=by
 unfold Region.ready at h;obtain ⟨h1,h2⟩:=List.mem_filter.1 h
 refine ⟨List.mem_range.1 h1,?_⟩
 simp only [Bool.and_eq_true,Bool.not_eq_true'] at h2;exact h2.1
theorem getD_set (l:Array Bool) (i j:Nat) (hi:i<l.size):(l.setIfInBounds i true).getD j true=(if i=j then true else l.getD j true):=by
 simp only [Array.getD_eq_getD_getElem?,Array.getElem?_setIfInBounds]
 by_cases h:i=j
 ·subst h;simp [hi]
 ·simp [h]
theorem open_lt {l:Array Bool} {i n:Nat} (hi:i<n) (ho:l.getD i true=false):openOf (l.setIfInBounds i true) n<openOf l n:=by
 have hs:i<l.size:=by
  rcases Nat.lt_or_ge i l.size with h | h
  ·exact h
  ·rw [Array.getD_eq_getD_getElem?,Array.getElem?_eq_none h] at ho
   simp at ho
 unfold openOf
 have key:∀ (xs:List Nat),xs.Nodup->i ∈ xs->List.countP (fun j=>!(l.setIfInBounds i true).getD j true) xs<List.countP (fun j=>!l.getD j true) xs:=by
  intro xs
  induction xs with
  | nil=>intro _ h;cases h
  | cons x r ih =>
   intro hn hm;rw [List.countP_cons,List.countP_cons]
   have hle:∀ (ys:List Nat),List.countP (fun j=>!(l.setIfInBounds i true).getD j true) ys<=List.countP (fun j=>!l.getD j true) ys:=by
    intro ys
    refine List.countP_mono_left (fun y _ hy=>?_)
    rw [getD_set l i y hs] at hy
    by_cases h:i=y
    ·rw [if_pos h] at hy;simp at hy
    ·rw [if_neg h] at hy;exact hy
   rcases List.mem_cons.1 hm with h | h
   ·subst h
    rw [getD_set l i i hs,if_pos rfl,ho];have:=hle r;rw [if_neg (by decide),if_pos (by decide)];omega
   ·have h1:=ih (List.nodup_cons.1 hn).2 h
    have hne:i≠x:=fun e=>(List.nodup_cons.1 hn).1 (e ▸ h);rw [getD_set l i x hs,if_neg hne];omega
 exact key _ List.nodup_range (List.mem_range.2 hi)
theorem wpAny_inv (I:Array Bool->Act->World->Prop)
  (hstep:∀ l a w i,I l a w->i ∈ Region.ready md ops l->wpOp P ops Q i (fun a' w'=>I (l.setIfInBounds i true) a' w') a w)
  (hfin:∀ l a w,I l a w->Region.ready md ops l=[]->Q .normal a w):∀ (fuel:Nat) (l:Array Bool) (a:Act) (w:World),openOf l ops.size<=fuel->I l a w->wpAny P md ops Q fuel l a w
 | 0,l,a,w,hf,h=>by
  have h0:Region.ready md ops l=[]:=by
   cases hr:Region.ready md ops l with
   | nil=>rfl
   | cons i r =>
    obtain ⟨h1,h2⟩:=ready_open (md:=md) (ops:=ops) (l:=l) (i:=i) (by rw [hr];exact List.mem_cons_self);have:=open_lt h1 h2;omega
  exact ⟨h0,hfin l a w h h0⟩
 | fuel + 1,l,a,w,hf,h=>⟨hfin l a w h,fun i hi=>by
   obtain ⟨h1,h2⟩:=ready_open hi;have h3:=open_lt h1 h2
   exact wpOp_mono (fun a' w' h'=>wpAny_inv I hstep hfin fuel _ a' w' (by omega) h') (hstep l a w i h hi)⟩
theorem region_inv {id:Nat} {a:Act} {w:World} (hm:P.follows .mixedOrders=true) (I:Array Bool->Act->World->Prop)
  (hstep:∀ l a w i,I l a w->i ∈ Region.ready .any ops l->wpOp P ops Q i (fun a' w'=>I (l.setIfInBounds i true) a' w') a w)
  (hfin:∀ l a w,I l a w->Region.ready .any ops l=[]->Q .normal a w) (h:I (Array.replicate ops.size false) a w.drew):(Code.region id ops true).wp P Q a w :=
 wp_region_any hm (wpAny_inv I hstep hfin ops.size _ a _ (by unfold openOf;exact Nat.le_trans List.countP_le_length (by simp)) h)
def depB (ops:Array Oper) (i j:Nat):Bool:=match ops[i]? with
 | some o=>o.after.any (fun e=>Region.binds .any e&&e.on == j)
 | none=>false
theorem ready_dep {l:Array Bool} {i j:Nat} (h:i ∈ Region.ready .any ops l) (hd:depB ops i j=true):l.getD j true=true:=by
 unfold Region.ready at h;obtain ⟨h1,h2⟩:=List.mem_filter.1 h;simp only [Bool.and_eq_true] at h2;unfold depB at hd;cases ho:ops[i]? with
 | none=>rw [ho] at hd;cases hd
 | some o =>
  rw [ho] at hd h2;simp only [Option.map_some,Option.getD_some] at h2;obtain ⟨k,hk,he⟩:=Array.any_eq_true.1 hd;have h3:=Array.all_eq_true.1 h2.2 k hk;simp only [Bool.and_eq_true,beq_iff_eq] at he;rw [he.1,he.2] at h3;simp only [Bool.not_true,Bool.false_or] at h3;rw [Array.getD_eq_getD_getElem?] at h3 ⊢;cases hl:l[j]? with
  | none=>rw [hl] at h3;cases h3
  | some b=>rw [hl] at h3;exact h3
end
open YtmfejjlmflgnbaaGreatDoorW.PrintMore
def setU (nm wd:ByteArray) (x:SR):SR:=⟨x.obj,nm,wd,x.name,x.want,x.words,x.lo,x.hi,x.auto,x.times,x.dflt⟩
theorem add_zero (g k:Nat):(⟨g,0,none⟩:Addr).add k=⟨g,k,none⟩:=by
 cases k with
 | zero=>rfl
 | succ k=>simp [Addr.add]
abbrev kT (f:Nat->Nat):Kd (SR × Nat):=Kd.tag f kRow
def setT (nm wd:ByteArray) (p:SR × Nat):SR × Nat:=(setU nm wd p.1,p.2)
theorem setU_take {α:Type} (F:α->α) (xs:List α) (j:Nat) (x:α) (h:xs[j]?=some x):((xs.take j).map F++xs.drop j).set j (F x)=(xs.take (j + 1)).map F++xs.drop (j + 1):=by
 obtain ⟨hj,rfl⟩:=List.getElem?_eq_some_iff.1 h;have hl:((xs.take j).map F).length=j:=by simp;omega
 have h1:xs.take (j + 1)=xs.take j++[xs[j]]:=by rw [List.take_add_one,List.getElem?_eq_getElem hj];rfl
 have h2:xs.drop j=xs[j] :: xs.drop (j + 1):=List.drop_eq_getElem_cons hj;rw [h1,List.set_append_right _ _ (by omega),hl,Nat.sub_self,h2,List.set_cons_zero,List.map_append,List.append_assoc]
 rfl
theorem setU_at {α:Type} (F:α->α) (xs:List α) (j:Nat) (x:α) (h:xs[j]?=some x) (z:α):((xs.take j).map F++xs.drop j).getD j z=x:=by
 obtain ⟨hj,rfl⟩:=List.getElem?_eq_some_iff.1 h;rw [List.getD_eq_getElem?_getD,List.getElem?_append_right (by simp;omega)];simp [Nat.min_eq_left (Nat.le_of_lt hj),List.getElem?_eq_getElem hj]
theorem under_calls (f:Nat->Nat) (nm wd:ByteArray) (xs:List (SR × Nat)) (g c B:Nat) (ok:Nat->Prop) (w:World) (hR:Kd.R (kT f) 60 w B ok (.slice (some ⟨g,0,none⟩) xs.length c) xs) (hl:xs.length<=1000) :
  Calls Tryz.prog 60 #[.string nm,.string wd,.slice (some ⟨g,0,none⟩) xs.length c] w fun e w'=>e=.returned (.slice (some ⟨g,0,none⟩) xs.length c)/\Kd.R (kT f) 60 w' B ok (.slice (some ⟨g,0,none⟩) xs.length c) (xs.map (setT nm wd))/\w.grownBy w' (some g):=by
 have HR:=hid hR;clear hR;generalize hn:xs.length=n at *;have HN:=hid hn;clear hn
 go_enter Tryz.func60,Tryz.ntmps60
 go_wp2_with fail
 go_loopw [10] (fun v wr=>∃ j:Nat,v=.int .i64 (j:Int)/\j<=n/\Hid (Kd.R (kT f) 60 wr B ok (.slice (some ⟨g,0,none⟩) n c) ((xs.take j).map (setT nm wd)++xs.drop j))/\Hid (w.grownBy wr (some g))) (fun v _=>n - (intOf v).toNat)
 case atStart=>exact ⟨0,by go_num,by omega,hid (by simpa using HR.out),hid (World.grownBy.refl _ _)⟩
 case round =>
  obtain ⟨j,rfl,hj,RJ,GJ⟩:=hrel
  by_cases hlt:j<n
  ·have hx:xs[j]?=some (xs[j]'(by rw [HN.out];exact hlt)):=List.getElem?_eq_getElem _
   obtain ⟨cs,hc1,hc2,hc3⟩:=Kd.R_get RJ.out ((zRow,0):SR × Nat) (j:Int) (by omega) (by omega);rw [Int.toNat_natCast,setU_at (setT nm wd) xs j _ hx] at hc2;have HST:=hid (setU_take (setT nm wd) xs j _ hx);generalize (xs[j]'(by rw [HN.out];exact hlt))=x at hx hc2 HST;obtain ⟨x,tx⟩:=x;obtain ⟨v5,rfl,h5⟩:=kRow_openM (x:=x) hc2;rw [Int.toNat_natCast] at hc3;have hsz:(kT f).sz=11:=rfl;rw [hsz] at hc3
   have hc4:∀ i u,[Value.string x.obj,.string x.un,.string x.uw,.string x.name,.int .i64 x.want,v5,.int .u32 x.lo,.int .u32 x.hi,.bool x.auto,.int .i64 x.times,.string x.dflt][i]?=some u->wr.cell? ⟨g,j*11 + i,none⟩=some u:=fun i u hu=>by
    have h:=hc3 i u hu;have e:(⟨g,0,none⟩:Addr).add (j*11 + i)=⟨g,j*11 + i,none⟩:=add_zero g (j*11 + i)
    rwa [e] at h
   obtain ⟨inner,ho⟩:=Kd.R_own RJ.out;obtain ⟨cells,hb⟩:=own_typed ho g rfl;have HB:=hid hb
   have HTH:Hid (wr.there g (j*11 + 1) 2):=hid (fun i hi=>⟨by
    have h0:i=0∨i=1:=by omega
    rcases h0 with rfl | rfl
    ·rw [hc4 1 _ rfl];rfl
    ·rw [show j*11 + 1 + 1=j*11 + 2 from rfl,hc4 2 _ rfl];rfl,frozen_row hb _⟩)
   have HSEG:Hid (Kd.R (kT f) 60 (wr.setCells g (j*11 + 1) [.string nm,.string wd]) B ok (.slice (some ⟨g,0,none⟩) n c) ((xs.take (j + 1)).map (setT nm wd)++xs.drop (j + 1))/\wr.grownBy (wr.setCells g (j*11 + 1) [.string nm,.string wd]) (some g)):=hid (by
    have h:=Kd.R_seg RJ.out (j:Int) (by omega) (by omega) (c:=[Value.string x.obj,.string x.un,.string x.uw,.string x.name,.int .i64 x.want,v5,.int .u32 x.lo,.int .u32 x.hi,.bool x.auto,.int .i64 x.times,.string x.dflt]) (seg:=[.string nm,.string wd]) (j:=1) rfl (fun i u hu=>by rw [Int.toNat_natCast];exact hc4 i u hu) (show 1 + 2<=11 by decide) (x':=setT nm wd (x,tx)) (okp:=fun k=>ok k/\some k≠some g) (kRow_mkM wr B (fun k=>(ok k/\some k≠some g)/\f k=tx) (setU nm wd x) h5) (fun k hk=>⟨hk.1,fun e=>hk.2 (by rw [e])⟩);rw [Int.toNat_natCast,HST.out] at h
    exact h)
   clear hx hc1 hc2 hc3 hc4 h5 ho hb HST
   go_wp2_with (first
    | ((with_reducible refine gate_store (t:=56) (p:=19) rfl ?_);refine cells_ev rfl 56 _ _ rfl g (j*11 + 1) [.string nm,.string wd] rfl rfl (by simp [Value.oneCell']) HTH.out (by kernel_rfl) ?_;intro w5 hw5;have R5:Hid (Kd.R (kT f) 60 w5 B ok (.slice (some ⟨g,0,none⟩) n c) ((xs.take (j + 1)).map (setT nm wd)++xs.drop (j + 1))):=hid (by rw [hw5];exact HSEG.out.1);have G5:Hid (w.grownBy w5 (some g)):=hid (GJ.out.trans (by rw [hw5];exact HSEG.out.2));clear hw5))
   exact ⟨⟨j + 1,by go_num,by omega,R5,G5⟩,by simp [intOf];omega⟩
  ·obtain rfl:j=n:=by omega
   have RE:Hid (Kd.R (kT f) 60 wr B ok (.slice (some ⟨g,0,none⟩) j c) (xs.map (setT nm wd))):=hid (by
    have h:=RJ.out;rw [List.take_of_length_le (by rw [HN.out];exact Nat.le_refl _),List.drop_eq_nil_of_le (by rw [HN.out];exact Nat.le_refl _),List.append_nil] at h
    exact h)
   clear RJ
   go_wp2_with fail
   go_ret
   exact ⟨rfl,RE.out,GJ.out⟩
theorem grow_calls (f:Nat->Nat) (n:Nat) (w:World) (h0:0<n) (hn:n<=100000) :
  Calls Tryz.prog 101 #[.slice none 0 0,.int .i64 (n:Int)] w fun e w'=>(∃ v,e=.returned v/\Kd.R (kT f) 60 w' w.heap.size (fun _=>True) v [])/\Below w.heap.size w w':=by
 have hp:(0:Int)<(n:Int):=by omega
 have hp2:¬ ((n:Int)<0):=by omega
 have hzr:((kT f).M w w.heap.size (fun _=>False) ((zRow,0):SR × Nat) (Value.agg row0).cells.toList):=kRow_mkM w w.heap.size _ zRow (Kd.R_nil _ _ _ _ _);have HZ:=hid hzr;clear hzr
 go_enter Tryz.func101,Tryz.ntmps101
 go_wp2_with (first
  | (at_builtin;refine Kd.R_append_zeros (kT f) (w0:=w) w.heap.size rfl (.tmp 20) (.tmp 21) 53 3 60 (.agg row0) 136 rfl Tryz.underlying53 Tryz.underlying3 infoRow rfl (show 0<11 by decide) (by omega) (.slice none 0 0) ([]:List (SR × Nat)) ((zRow,0):SR × Nat) (n:Int) (fun _=>True) rfl rfl HZ.out (fun _ _=>trivial) (Kd.R_nil _ _ _ _ _) (by omega) (Below.refl _ _) (Nat.le_refl _) (by simp;omega) ?_;intro v1 w1 ho hb hg hat;rw [List.nil_append,Int.toNat_natCast] at ho;obtain ⟨g,cap,hv,hg1,hg2,_⟩:=Kd.R_form ho (by simpa using h0);rw [List.length_replicate] at hv;subst hv;have R1:=hid ho;have B1:=hid hb;clear ho hb hg hat hg1 hg2))
 go_ret
 exact ⟨⟨_,rfl,by have h:=Kd.R_take R1.out (m:=0) (by omega);rwa [List.take_zero] at h⟩,B1.out⟩
theorem below_own2 {wr W w1:World} {r:Option Nat} (hB:Below wr.heap.size wr W) (hg:W.grownBy w1 r) (hr:∀ k,r=some k->wr.heap.size<=k):Below wr.heap.size wr w1 :=
 ⟨hg.os.trans hB.os,hg.tape.trans hB.tape,hg.output.trans hB.output,Nat.le_trans hB.size hg.size,fun k hk=>(hg.block k (Nat.lt_of_lt_of_le hk hB.size) (fun e=>by have:=hr k e.symm;omega)).trans (hB.block k hk)⟩
theorem own_at2 {wr W:World} {v v1:Value} (h:∀ b,v.ownBlock=some b->wr.heap.size<=b) (hat:v1.ownBlock=v.ownBlock∨∃ b,v1.ownBlock=some b/\W.heap.size<=b) (hs:wr.heap.size<=W.heap.size):∀ b,v1.ownBlock=some b->wr.heap.size<=b:=by
 intro b hb;rcases hat with hat | ⟨c,hc,hle⟩
 ·exact h b (hat.symm.trans hb)
 ·rw [hc] at hb
  injection hb with hb
  omega
theorem flat_take {α:Type} (xss:List (List α)) (j:Nat) (x:List α) (h:xss[j]?=some x):(xss.take (j + 1)).flatten=(xss.take j).flatten++x:=by
 rw [List.take_add_one,h];simp
theorem concat_calls (f:Nat->Nat) (xss:List (List (SR × Nat))) (gb B:Nat) (okq:Nat->Prop) (w:World) (hB:B<=w.heap.size) (hq:∀ k,okq k->B<=k/\k<w.heap.size)
  (hX:∀ i x,xss[i]?=some x->∃ A c,w.cell? ⟨gb,i,none⟩=some (.slice A x.length c)/\ReadsRow ((kT f).M w B okq) 11 w A x.length x) (h0:0<xss.flatten.length) (hn:xss.flatten.length<=1000) (hm:xss.length<=1000) :
  Calls Tryz.prog 57 #[.slice (some ⟨gb,0,none⟩) xss.length xss.length] w fun e w'=>(∃ v,e=.returned v/\Kd.R (kT f) 60 w' B (fun k=>okq k∨w.heap.size<=k) v xss.flatten)/\Below w.heap.size w w':=by
 have HX:=hid hX;have HQ:=hid hq;have HB:=hid hB
 have HL:Hid (∀ j,(xss.take j).flatten.length<=1000):=hid (fun j=>by
  have h:(xss.take j).flatten.length<=xss.flatten.length:=by
   conv=>rhs;rw [<- List.take_append_drop j xss]
   rw [List.flatten_append,List.length_append];omega
  omega)
 have HG:=hid (grow_calls f xss.flatten.length w h0 (by omega));clear hX hq hB h0;generalize hmm:xss.length=m at *;have HM:=hid hmm;clear hmm;obtain ⟨T,hT⟩:∃ T,xss.flatten.length=T:=⟨_,rfl⟩;rw [hT] at HG hn;have HT:=hid hT;clear hT
 go_enter Tryz.func57,Tryz.ntmps57
 go_wp2_with fail
 go_loopw [3,11] (fun sv v wr=>∃ (j s:Nat),sv=.int .i64 (s:Int)/\v=.int .i64 (j:Int)/\j<=m/\Hid ((xss.take j).flatten.length=s)/\w=wr) (fun _ v _=>m - (intOf v).toNat)
 case atStart=>exact ⟨0,0,by go_num,by go_num,by omega,hid rfl,rfl⟩
 case round =>
  obtain ⟨j,s,rfl,rfl,hj,HS,rfl⟩:=hrel;have hs1:s<=1000:=by rw [<- HS.out];exact HL.out j
  by_cases hlt:j<m
  ·have hx:xss[j]?=some (xss[j]'(by rw [HM.out];exact hlt)):=List.getElem?_eq_getElem _
   obtain ⟨A,c,hc,_⟩:=HX.out j _ hx;have hfl:=flat_take xss j _ hx;generalize (xss[j]'(by rw [HM.out];exact hlt))=x at hx hc hfl
   have hlx:s + x.length<=1000:=by
    have h:=HL.out (j + 1);rw [hfl,List.length_append,HS.out] at h;exact h
   have HS2:Hid ((xss.take (j + 1)).flatten.length=s + x.length):=hid (by rw [hfl,List.length_append,HS.out]);clear hx hfl;generalize x.length=nx at *;have hge:¬ ((s:Int) + (nx:Int)<0):=by omega
   go_wp2_with fail
   exact ⟨⟨j + 1,s + nx,by go_num,by go_num,by omega,HS2,by first | rfl | trivial⟩,by simp [intOf];omega⟩
  ·obtain rfl:j=m:=by omega
   have hsT:s=T:=by
    rw [<- HS.out,<- HT.out,List.take_of_length_le (by rw [HM.out];exact Nat.le_refl _)]
   subst hsT
   go_wp2_with (first
    | (go_at_call 101;refine HG.out.mono ?_;rintro e w2 ⟨⟨v2,rfl,hR2⟩,hB2⟩;have R2:=hid hR2;have B2:=hid hB2;clear hR2 hB2))
   have RS:Hid (Kd.R (kT f) 60 w2 B (fun k=>okq k∨w.heap.size<=k) v2 []):=hid (Kd.R_lower (Kd.R_mono (Kd.R_bound R2.out) (fun k hk=>Or.inr hk.2.1)) HB.out);have OW:Hid (∀ b,v2.ownBlock=some b->w.heap.size<=b):=hid (fun b hb=>Kd.R_base R2.out b hb);clear R2
   go_loopw [6,27] (fun ov v wr=>∃ i:Nat,v=.int .i64 (i:Int)/\i<=j/\Hid (Kd.R (kT f) 60 wr B (fun k=>okq k∨w.heap.size<=k) ov (xss.take i).flatten)/\Hid (∀ b,ov.ownBlock=some b->w.heap.size<=b)/\Hid (Below w.heap.size w wr)) (fun _ v _=>j - (intOf v).toNat)
   case atStart=>exact ⟨0,by go_num,by omega,hid (by rw [List.take_zero];exact RS.out),OW,B2⟩
   case round =>
    obtain ⟨i,rfl,hi,RI,OI,BI⟩:=hrel
    by_cases hlt2:i<j
    ·have hx:xss[i]?=some (xss[i]'(by rw [HM.out];exact hlt2)):=List.getElem?_eq_getElem _
     obtain ⟨A,c,hc,hrd⟩:=HX.out i _ hx;have HFL:=hid (flat_take xss i _ hx);generalize (xss[i]'(by rw [HM.out];exact hlt2))=x at hx hc hrd HFL;have hc2:=(BI.out.cell (lC w _ hc)).trans hc;have HRD:Hid (ReadsRow ((kT f).M wr B okq) (kT f).sz wr A x.length x):=hid (hrd.imp_ BI.out (fun p cs hp=>Kd.M_below hp BI.out));obtain ⟨acc,hacc⟩:∃ acc,(xss.take i).flatten=acc:=⟨_,rfl⟩
     have HAL:Hid (acc.length + x.length<=1000):=hid (by
      have h:=HL.out (i + 1);rw [HFL.out,hacc,List.length_append] at h
      exact h)
     rw [hacc] at RI HFL;obtain ⟨Ao,co,hov⟩:=RForm RI.out;subst hov;clear hx hc hrd hacc;generalize hnx:x.length=nx at *;clear hnx
     go_wp2_with (first
      | (at_builtin;refine Kd.R_append_rows (kT f) (Rr:=(kT f).M wr B okq) (w0:=wr) B rfl (.tmp 31) (.tmp 32) 53 60 (.agg row0) 136 rfl Tryz.underlying53 infoRow rfl (show 0<11 by decide) (by omega) (.slice Ao acc.length co) acc x A nx c (fun k=>okq k∨w.heap.size<=k) okq rfl rfl RI.out HRD.out (fun _ _ h=>h) (fun k hk=>⟨Or.inl hk,fun e=>by have h1:=OI.out k e.symm;have h2:=HQ.out k hk;omega⟩) (fun k hk=>Or.inr (by have:=BI.out.size;omega)) (Below.refl _ _) (by have:=HB.out;have:=BI.out.size;omega) (by have:=HAL.out;omega) ?_;intro v7 w7 ho hb hg hat;have R7:=hid ho;have G7:=hid hg;have A7:=hid hat;clear ho hb hg hat hc2))
     exact ⟨⟨i + 1,by go_num,by omega,hid (by rw [HFL.out];exact R7.out),hid (own_at2 OI.out A7.out BI.out.size),hid (below_own2 BI.out G7.out OI.out)⟩,by simp [intOf];omega⟩
    ·obtain rfl:i=j:=by omega
     have RE:Hid (Kd.R (kT f) 60 wr B (fun k=>okq k∨w.heap.size<=k) _ xss.flatten):=hid (by
      have h:=RI.out;rw [List.take_of_length_le (by rw [HM.out];exact Nat.le_refl _)] at h
      exact h)
     clear RI
     go_wp2_with fail
     go_ret
     exact ⟨⟨_,rfl,RE.out⟩,BI.out⟩
end Go.Proofs.YtmfejjlmflgnbaaGreatDoor.Sc
namespace Go.Proofs.YtmfejjlmflgnbaaGreatDoor.Sc
open RowKit PA YtmfejjlmflgnbaaGreatDoorW.PrintWords YtmfejjlmflgnbaaGreatDoorW.PrintLast Sp Tr Tok
open Go.Lib (hid)
theorem row_cells {w:World} {g:Nat} {a0 a1 a2 a3 a4 a5 a6 a7 a8 a9 a10:Value} {t:TypeId} (h:w.heap[g]?=some (.cells #[a0,a1,a2,a3,a4,a5,a6,a7,a8,a9,a10] t (0,0))) :
  w.cell? ⟨g,0,none⟩=some a0/\w.cell? ⟨g,1,none⟩=some a1/\w.cell? ⟨g,2,none⟩=some a2/\w.cell? ⟨g,3,none⟩=some a3/\w.cell? ⟨g,4,none⟩=some a4/\w.cell? ⟨g,5,none⟩=some a5/\w.cell? ⟨g,6,none⟩=some a6/\w.cell? ⟨g,7,none⟩=some a7/\w.cell? ⟨g,8,none⟩=some a8/\w.cell? ⟨g,9,none⟩=some a9/\w.cell? ⟨g,10,none⟩=some a10 :=
 ⟨(cell_row h 0).trans rfl,(cell_row h 1).trans rfl,(cell_row h 2).trans rfl,(cell_row h 3).trans rfl,(cell_row h 4).trans rfl,(cell_row h 5).trans rfl,(cell_row h 6).trans rfl,(cell_row h 7).trans rfl,(cell_row h 8).trans rfl,(cell_row h 9).trans rfl,(cell_row h 10).trans rfl⟩
theorem number_calls (o n:ByteArray) (lo hi:Int) (w:World):Calls Tryz.prog 56 #[.string o,.string n,.int .u32 lo,.int .u32 hi] w fun e w'=>e=.returned (.agg #[.string o,.string ⟨#[]⟩,.string ⟨#[]⟩,.string n,.int .i64 1,.slice none 0 0,.int .u32 lo,.int .u32 hi,.bool false,.int .i64 1,.string ⟨#[]⟩])/\Below w.heap.size w w':=by
 have tk1:True:=trivial
 go_enter Tryz.func56,Tryz.ntmps56
 go_wp2_with (first
  | (have _t:=tk1;refine run_event rfl (.alloc 60) rfl (.pointer (some ⟨w.heap.size,0,none⟩)) (w.alloc (.cells row0 60)) (by kernel_rfl) ?_;intro w1 hw1;have B1:Hid (Below w.heap.size w w1):=hid (by rw [hw1];exact alloc_below _ _);have E1:Hid (w1.heap[w.heap.size]?=some (.cells row0 60 (0,0))):=hid (by rw [hw1];exact heap_alloc_new _ _);clear hw1 tk1 _t)
  | ((with_reducible refine gate_store (t:=60) (p:=8) rfl ?_);refine put_event rfl 60 _ _ rfl w.heap.size #[.string o,.string ⟨#[]⟩,.string ⟨#[]⟩,.string n,.int .i64 1,.slice none 0 0,.int .u32 lo,.int .u32 hi,.bool false,.int .i64 1,.string ⟨#[]⟩] rfl rfl 60 row0 E1.out (by kernel_rfl) rfl (by simp [Value.oneCell']) w.heap.size (Nat.le_refl _) ?_;intro w2 hb2 hB2 hs2 ho2;have B2:Hid (Below w.heap.size w w2):=hid (B1.out.trans hB2);clear hB2 hs2 ho2))
 obtain ⟨c0,c1,c2,c3,c4,c5,c6,c7,c8,c9,c10⟩:=row_cells hb2;exact bodyPost_ret (v:=.agg #[.string o,.string ⟨#[]⟩,.string ⟨#[]⟩,.string n,.int .i64 1,.slice none 0 0,.int .u32 lo,.int .u32 hi,.bool false,.int .i64 1,.string ⟨#[]⟩]) (by simp [results,Tryz.results56,go_sem,c0,c1,c2,c3,c4,c5,c6,c7,c8,c9,c10]) rfl ⟨rfl,B2.out⟩
theorem word_calls (o n d:ByteArray) (tm:Int) (A:Option Addr) (k c:Nat) (w:World):Calls Tryz.prog 58 #[.string o,.string n,.int .i64 tm,.string d,.slice A k c] w fun e w'=>e=.returned (.agg #[.string o,.string ⟨#[]⟩,.string ⟨#[]⟩,.string n,.int .i64 2,.slice A k c,.int .u32 0,.int .u32 0,.bool false,.int .i64 tm,.string d])/\Below w.heap.size w w':=by
 have tk1:True:=trivial
 go_enter Tryz.func58,Tryz.ntmps58
 go_wp2_with (first
  | (have _t:=tk1;refine run_event rfl (.alloc 60) rfl (.pointer (some ⟨w.heap.size,0,none⟩)) (w.alloc (.cells row0 60)) (by kernel_rfl) ?_;intro w1 hw1;have B1:Hid (Below w.heap.size w w1):=hid (by rw [hw1];exact alloc_below _ _);have E1:Hid (w1.heap[w.heap.size]?=some (.cells row0 60 (0,0))):=hid (by rw [hw1];exact heap_alloc_new _ _);clear hw1 tk1 _t)
  | ((with_reducible refine gate_store (t:=60) (p:=10) rfl ?_);refine put_event rfl 60 _ _ rfl w.heap.size #[.string o,.string ⟨#[]⟩,.string ⟨#[]⟩,.string n,.int .i64 2,.slice A k c,.int .u32 0,.int .u32 0,.bool false,.int .i64 tm,.string d] rfl rfl 60 row0 E1.out (by kernel_rfl) rfl (by simp [Value.oneCell']) w.heap.size (Nat.le_refl _) ?_;intro w2 hb2 hB2 hs2 ho2;have B2:Hid (Below w.heap.size w w2):=hid (B1.out.trans hB2);clear hB2 hs2 ho2))
 obtain ⟨c0,c1,c2,c3,c4,c5,c6,c7,c8,c9,c10⟩:=row_cells hb2;exact bodyPost_ret (v:=.agg #[.string o,.string ⟨#[]⟩,.string ⟨#[]⟩,.string n,.int .i64 2,.slice A k c,.int .u32 0,.int .u32 0,.bool false,.int .i64 tm,.string d]) (by simp [results,Tryz.results58,go_sem,c0,c1,c2,c3,c4,c5,c6,c7,c8,c9,c10]) rfl ⟨rfl,B2.out⟩
theorem ref_calls (o n:ByteArray) (tm:Int) (w:World):Calls Tryz.prog 61 #[.string o,.string n,.int .i64 tm] w fun e w'=>e=.returned (.agg #[.string o,.string ⟨#[]⟩,.string ⟨#[]⟩,.string n,.int .i64 3,.slice none 0 0,.int .u32 0,.int .u32 0,.bool false,.int .i64 tm,.string ⟨#[]⟩])/\Below w.heap.size w w':=by
 have tk1:True:=trivial
 go_enter Tryz.func61,Tryz.ntmps61
 go_wp2_with (first
  | (have _t:=tk1;refine run_event rfl (.alloc 60) rfl (.pointer (some ⟨w.heap.size,0,none⟩)) (w.alloc (.cells row0 60)) (by kernel_rfl) ?_;intro w1 hw1;have B1:Hid (Below w.heap.size w w1):=hid (by rw [hw1];exact alloc_below _ _);have E1:Hid (w1.heap[w.heap.size]?=some (.cells row0 60 (0,0))):=hid (by rw [hw1];exact heap_alloc_new _ _);clear hw1 tk1 _t)
  | ((with_reducible refine gate_store (t:=60) (p:=6) rfl ?_);refine put_event rfl 60 _ _ rfl w.heap.size #[.string o,.string ⟨#[]⟩,.string ⟨#[]⟩,.string n,.int .i64 3,.slice none 0 0,.int .u32 0,.int .u32 0,.bool false,.int .i64 tm,.string ⟨#[]⟩] rfl rfl 60 row0 E1.out (by kernel_rfl) rfl (by simp [Value.oneCell']) w.heap.size (Nat.le_refl _) ?_;intro w2 hb2 hB2 hs2 ho2;have B2:Hid (Below w.heap.size w w2):=hid (B1.out.trans hB2);clear hB2 hs2 ho2))
 obtain ⟨c0,c1,c2,c3,c4,c5,c6,c7,c8,c9,c10⟩:=row_cells hb2;exact bodyPost_ret (v:=.agg #[.string o,.string ⟨#[]⟩,.string ⟨#[]⟩,.string n,.int .i64 3,.slice none 0 0,.int .u32 0,.int .u32 0,.bool false,.int .i64 tm,.string ⟨#[]⟩]) (by simp [results,Tryz.results61,go_sem,c0,c1,c2,c3,c4,c5,c6,c7,c8,c9,c10]) rfl ⟨rfl,B2.out⟩
theorem text_calls (o n:ByteArray) (A:Option Addr) (k c:Nat) (w:World):Calls Tryz.prog 62 #[.string o,.string n,.slice A k c] w fun e w'=>e=.returned (.agg #[.string o,.string ⟨#[]⟩,.string ⟨#[]⟩,.string n,.int .i64 4,.slice A k c,.int .u32 0,.int .u32 0,.bool false,.int .i64 1,.string ⟨#[]⟩])/\Below w.heap.size w w':=by
 have tk1:True:=trivial
 go_enter Tryz.func62,Tryz.ntmps62
 go_wp2_with (first
  | (have _t:=tk1;refine run_event rfl (.alloc 60) rfl (.pointer (some ⟨w.heap.size,0,none⟩)) (w.alloc (.cells row0 60)) (by kernel_rfl) ?_;intro w1 hw1;have B1:Hid (Below w.heap.size w w1):=hid (by rw [hw1];exact alloc_below _ _);have E1:Hid (w1.heap[w.heap.size]?=some (.cells row0 60 (0,0))):=hid (by rw [hw1];exact heap_alloc_new _ _);clear hw1 tk1 _t)
  | ((with_reducible refine gate_store (t:=60) (p:=6) rfl ?_);refine put_event rfl 60 _ _ rfl w.heap.size #[.string o,.string ⟨#[]⟩,.string ⟨#[]⟩,.string n,.int .i64 4,.slice A k c,.int .u32 0,.int .u32 0,.bool false,.int .i64 1,.string ⟨#[]⟩] rfl rfl 60 row0 E1.out (by kernel_rfl) rfl (by simp [Value.oneCell']) w.heap.size (Nat.le_refl _) ?_;intro w2 hb2 hB2 hs2 ho2;have B2:Hid (Below w.heap.size w w2):=hid (B1.out.trans hB2);clear hB2 hs2 ho2))
 obtain ⟨c0,c1,c2,c3,c4,c5,c6,c7,c8,c9,c10⟩:=row_cells hb2;exact bodyPost_ret (v:=.agg #[.string o,.string ⟨#[]⟩,.string ⟨#[]⟩,.string n,.int .i64 4,.slice A k c,.int .u32 0,.int .u32 0,.bool false,.int .i64 1,.string ⟨#[]⟩]) (by simp [results,Tryz.results62,go_sem,c0,c1,c2,c3,c4,c5,c6,c7,c8,c9,c10]) rfl ⟨rfl,B2.out⟩
theorem flag_calls (o n d:ByteArray) (w:World):Calls Tryz.prog 59 #[.string o,.string n,.string d] w fun e w'=>(∃ g,e=.returned (.agg #[.string o,.string ⟨#[]⟩,.string ⟨#[]⟩,.string n,.int .i64 2,.slice (some ⟨g,0,none⟩) 2 2,.int .u32 0,.int .u32 0,.bool false,.int .i64 2,.string d])/\w.heap.size<=g/\w'.heap[g]?=some (.cells #[.string ⟨#[84,82,85,69]⟩,.string ⟨#[70,65,76,83,69]⟩] 9 (0,0)))/\Below w.heap.size w w':=by
 have tk1:True:=trivial
 go_enter Tryz.func59,Tryz.ntmps59
 go_wp2_with (first
  | (have _t:=tk1;refine run_event rfl (.alloc 60) rfl (.pointer (some ⟨w.heap.size,0,none⟩)) (w.alloc (.cells row0 60)) (by kernel_rfl) ?_;intro w1 hw1;have B1:Hid (Below w.heap.size w w1):=hid (by rw [hw1];exact alloc_below _ _);have E1:Hid (w1.heap[w.heap.size]?=some (.cells row0 60 (0,0))):=hid (by rw [hw1];exact heap_alloc_new _ _);clear hw1 tk1 _t)
  | (refine run_event rfl (.buildSlice 51 2 _) rfl (.slice (some ⟨w1.heap.size,0,none⟩) 2 2) (w1.alloc (.cells #[.string ⟨#[84,82,85,69]⟩,.string ⟨#[70,65,76,83,69]⟩] 9)) (by kernel_rfl) ?_;intro w3 hw3;have B3:Hid (Below w1.heap.size w1 w3):=hid (by rw [hw3];exact alloc_below _ _);have E3:Hid (w3.heap[w1.heap.size]?=some (.cells #[.string ⟨#[84,82,85,69]⟩,.string ⟨#[70,65,76,83,69]⟩] 9 (0,0))):=hid (by rw [hw3];exact heap_alloc_new _ _);clear hw3)
  | ((with_reducible refine gate_store (t:=60) (p:=6) rfl ?_);refine put_event rfl 60 _ _ rfl w.heap.size #[.string o,.string ⟨#[]⟩,.string ⟨#[]⟩,.string n,.int .i64 2,.slice (some ⟨w1.heap.size,0,none⟩) 2 2,.int .u32 0,.int .u32 0,.bool false,.int .i64 2,.string d] rfl rfl 60 row0 ((B3.out.block _ (gS.1 E1.out).1).trans E1.out) (by kernel_rfl) rfl (by simp [Value.oneCell']) w.heap.size (Nat.le_refl _) ?_;intro w2 hb2 hB2 hs2 ho2;have B2:Hid (Below w.heap.size w w2):=hid ((B1.out.trans (B3.out.mono B1.out.size)).trans hB2);have O2:=hid ho2;clear hB2 hs2 ho2))
 obtain ⟨c0,c1,c2,c3,c4,c5,c6,c7,c8,c9,c10⟩:=row_cells hb2;have hlt:w.heap.size<w1.heap.size:=(gS.1 E1.out).1;exact bodyPost_ret (v:=.agg #[.string o,.string ⟨#[]⟩,.string ⟨#[]⟩,.string n,.int .i64 2,.slice (some ⟨w1.heap.size,0,none⟩) 2 2,.int .u32 0,.int .u32 0,.bool false,.int .i64 2,.string d]) (by simp [results,Tryz.results59,go_sem,c0,c1,c2,c3,c4,c5,c6,c7,c8,c9,c10]) rfl ⟨⟨w1.heap.size,rfl,by omega,(O2.out _ (by omega)).trans E3.out⟩,B2.out⟩
open YtmfejjlmflgnbaaGreatDoorW.PrintMore
inductive RK where
 | wd (l:List ByteArray) (t:Nat)
 | ro (x:SR) (t:Nat)
 | rs (xs:List (SR × Nat)) (t:Nat)
 | al (xss:List (List (SR × Nat)))
 | fin (xs:List (SR × Nat))
def tagOf:RK->Nat
 | .rs _ t=>t
 | .wd _ t=>t
 | .ro _ t=>t
 | _=>0
def Gd (own:Nat->Nat) (B:Nat) (w:World):RK->Value->Prop
 | .wd l t,v=>Kd.R Kd.string 9 w B (fun k=>own k=t) v l
 | .ro x t,v=>∃ cs:List Value,v=.agg cs.toArray/\kRow.M w B (fun k=>own k=t) x cs
 | .rs xs t,v=>Kd.R (kT own) 60 w B (fun k=>1000<=own k∨own k=t) v xs/\∀ k,v.ownBlock=some k->own k=t
 | .al xss,v=>∃ gb,v=.slice (some ⟨gb,0,none⟩) xss.length xss.length/\∀ i x,xss[i]?=some x->∃ A c,w.cell? ⟨gb,i,none⟩=some (.slice A x.length c)/\ReadsRow ((kT own).M w B (fun k=>B<=k/\k<w.heap.size)) 11 w A x.length x
 | .fin xs,v=>Kd.R (kT own) 60 w B (fun _=>True) v xs
theorem kT_own {own own':Nat->Nat} {w:World} {B:Nat} {ok:Nat->Prop} {v:Value} {xs:List (SR × Nat)} {T:TypeId} (hs:∀ b,b<w.heap.size->own' b=own b) (h:Kd.R (kT own) T w B ok v xs):Kd.R (kT own') T w B ok v xs:=by
 obtain ⟨h0,inner,ho,hr⟩:=h
 refine ⟨h0,inner,ho,hr.imp_ (fun p cs hp=>?_)⟩
 have h1:kRow.M w B (fun k=>(ok k/\some k≠v.ownBlock)/\own k=p.2) p.1 cs:=hp;exact kRow.M_mono (fun k hk=>⟨hk.1.1,by rw [hs k hk.2.2.1];exact hk.1.2⟩) (kRow.M_bound h1)
theorem Gd.step {own own':Nat->Nat} {B t0:Nat} {w w':World} {k:RK} {v:Value} (h:Gd own B w k v) (h0:t0<1000) (ht:tagOf k≠t0) (hn:∀ xss,k≠.al xss) (hf:∀ xs,k≠.fin xs)
  (hs:∀ b,b<w.heap.size->own' b=own b) (hm:∀ b,b<w.heap.size->own b≠t0->w'.heap[b]?=w.heap[b]?):Gd own' B w' k v:=by
 cases k with
 | wd l t =>
  have h1:=Kd.R_move (w1:=w') (Kd.R_bound h) (fun b hb=>hm b hb.2.2.1 (by rw [hb.1];exact ht));exact Kd.R_mono h1 (fun b hb=>by rw [hs b hb.2.2.1];exact hb.1)
 | ro x t =>
  obtain ⟨cs,hv,hM⟩:=h;have h1:=kRow.M_move (w1:=w') (fun b hb=>hm b hb.2.2.1 (by rw [hb.1];exact ht)) (kRow.M_bound hM);exact ⟨cs,hv,kRow.M_mono (fun b hb=>by rw [hs b hb.2.2.1];exact hb.1) h1⟩
 | rs xs t =>
  obtain ⟨h1,h2⟩:=h
  have hne:∀ b,1000<=own b∨own b=t->own b≠t0:=fun b hb=>by
   rcases hb with e | e
   ·omega
   ·rw [e];exact ht
  refine ⟨Kd.R_mono (Kd.R_move (Kd.R_bound (kT_own hs h1)) (fun b hb=>hm b hb.2.2.1 (hne b hb.1))) (fun b hb=>by rw [hs b hb.2.2.1];exact hb.1),fun b hb=>?_⟩
  rw [hs b (ownLt h1 hb)];exact h2 b hb
 | al xss=>exact absurd rfl (hn xss)
 | fin xs=>exact absurd rfl (hf xs)
def sl (i:Nat):Nat:=if i=92 then 0 else i + 10
theorem sl_inj {i j:Nat} (h:sl i=sl j):i=j:=by
 unfold sl at h
 split at h <;> split at h <;> omega
theorem sl_lt {i:Nat} (h:i<93):sl i<102:=by
 unfold sl
 split <;> omega
theorem sl_p {i:Nat}:sl i≠1/\sl i≠2:=by
 unfold sl
 split <;> omega
theorem put_getD (a:Act) (d e:Nat) (v:Value) (hd:d<a.tmps.size):(a.put (some d) v).tmps.getD e undef=if d=e then v else a.tmps.getD e undef:=by
 show (a.tmps.setIfInBounds d v).getD e undef=_;simp only [Array.getD_eq_getD_getElem?,Array.getElem?_setIfInBounds]
 by_cases h:d=e
 ·subst h;simp [hd]
 ·simp [h]
noncomputable def OPS:Array Oper:=opsOf Tryz.f25 5
theorem ops_size:OPS.size=93:=by kernel_rfl
def WT:List Nat:=[1,16,16,16,16,16,16,16,16,16,16,12,16,16,15,16,90,18,19,90,29,29,29,29,29,29,29,28,29,90,31,32,90,40,40,40,40,40,39,40,90,42,43,90,46,46,47,90,49,50,90,52,53,90,57,57,57,58,90,60,61,90,63,64,65,90,68,68,69,90,72,72,73,90,75,76,90,78,79,90,82,82,83,90,85,86,90,88,89,90,91,92]
theorem ops_wait:((List.range 92).all fun j=>decide (j<WT.getD j 0)&&decide (WT.getD j 0<=max 90 (j + 1))&&depB OPS (WT.getD j 0) j)=true:=by kernel_rfl
theorem ops_order:((List.range 93).all fun i=>match OPS[i]? with
  | some o=>o.after.all (fun e=>!Region.binds .any e||decide (e.on<i))
  | none=>false)=true:=by kernel_rfl
structure IR (kd:Nat->RK) (con:Nat->Nat) (B:Nat) (w0:World) (p1 p2:Nat) (l:Array Bool) (a:Act) (w:World) (own:Nat->Nat):Prop where
 df:a.defers=[]
 sz:a.tmps.size=102
 lz:l.size=93
 s1:a.tmps.getD 1 undef=.pointer (some ⟨p1,0,none⟩)
 s2:a.tmps.getD 2 undef=.pointer (some ⟨p2,0,none⟩)
 bel:Below B w0 w
 bas:B<=w0.heap.size
 lc:ListedClosed .any OPS l
 gd:∀ i,i<93->l.getD i true=true->(con i<93->l.getD (con i) true=false)->Gd own B w (kd i) (a.tmps.getD (sl i) undef)
theorem getD_tf {l:Array Bool} {i:Nat} (hi:i<l.size):l.getD i true=l.getD i false:=by
 simp only [Array.getD_eq_getD_getElem?,Array.getElem?_eq_getElem hi,Option.getD_some]
theorem lc_dep {l:Array Bool} (lz:l.size=93) (lc:ListedClosed .any OPS l) {k j:Nat} (hk:k<93) (hj:j<93) (hd:depB OPS k j=true) (hl:l.getD k true=true):l.getD j true=true:=by
 unfold depB at hd;cases ho:OPS[k]? with
 | none=>rw [ho] at hd;cases hd
 | some o =>
  rw [ho] at hd;obtain ⟨n,hn,he⟩:=Array.any_eq_true.1 hd;simp only [Bool.and_eq_true,beq_iff_eq] at he;have h1:=lc k o ho (by rw [<- getD_tf (by omega)];exact hl) _ (Array.getElem_mem hn) he.1;rw [he.2] at h1;rw [getD_tf (by omega)];exact h1
theorem lc_last {l:Array Bool} (lz:l.size=93) (lc:ListedClosed .any OPS l) {e:Nat} (h0:90<=e) (h1:e<93) (hl:l.getD e true=true) {j:Nat} (hj:j<e):l.getD j true=true:=by
 have key:∀ n j,j<e->e - j=n->l.getD j true=true:=by
  intro n
  induction n using Nat.strongRecOn with
  | _ n ih =>
   intro j hj hn;have h2:=List.all_eq_true.1 ops_wait j (List.mem_range.2 (by omega));simp only [Bool.and_eq_true,decide_eq_true_eq] at h2;obtain ⟨⟨h3,h4⟩,h5⟩:=h2;generalize WT.getD j 0=k at h3 h4 h5;have hke:k<=e:=by omega
   have hlk:l.getD k true=true:=by
    rcases Nat.lt_or_ge k e with h6 | h6
    ·exact ih (e - k) (by omega) k h6 rfl
    ·have:k=e:=by omega
     subst this;exact hl
   exact lc_dep lz lc (by omega) (by omega) h5 hlk
 exact key _ j hj rfl
theorem all_listed {l:Array Bool} (lz:l.size=93) (h:Region.ready .any OPS l=[]):∀ i,i<93->l.getD i true=true:=by
 intro i
 induction i using Nat.strongRecOn with
 | ind i ih =>
  intro hi;cases hl:l.getD i true with
  | true=>rfl
  | false =>
   exfalso
   have hm:i ∈ Region.ready .any OPS l:=by
    unfold Region.ready
    refine List.mem_filter.2 ⟨List.mem_range.2 (by rw [ops_size];exact hi),?_⟩
    have ho:=List.all_eq_true.1 ops_order i (List.mem_range.2 hi);have hs:i<OPS.size:=by rw [ops_size];exact hi
    rw [Array.getElem?_eq_getElem hs] at ho ⊢;simp only [Option.map_some,Option.getD_some,hl,Bool.not_false,Bool.true_and]
    refine Array.all_eq_true.2 (fun k hk=>?_)
    have hk2:=Array.all_eq_true.1 ho k hk;cases hb:Region.binds .any (OPS[i].after[k]) with
    | false=>rfl
    | true =>
     rw [hb] at hk2;simp only [Bool.not_true,Bool.false_or,decide_eq_true_eq] at hk2 ⊢;have hk3:=ih _ hk2 (by omega);rw [getD_tf (by omega)] at hk3;exact hk3
   rw [h] at hm;cases hm
theorem IR.put {kd:Nat->RK} {con:Nat->Nat} {B:Nat} {w0:World} {p1 p2:Nat} {l:Array Bool} {a:Act} {w w':World} {own own':Nat->Nat} (h:IR kd con B w0 p1 p2 l a w own) {i t0:Nat} {v:Value} (hi:i<93) (h0:t0<1000) (hnew:Gd own' B w' (kd i) v)
  (hs:∀ b,b<w.heap.size->own' b=own b) (hm:∀ b,b<w.heap.size->own b≠t0->w'.heap[b]?=w.heap[b]?) (hbel:Below B w0 w') (hrd:i ∈ Region.ready .any OPS l)
  (htag:∀ i',i'<90->i'≠i->con i'≠i->tagOf (kd i')≠t0/\(∀ xss,kd i'≠.al xss)/\∀ xs,kd i'≠.fin xs) (h90:con 90=91) (h91:con 91=92) :
  IR kd con B w0 p1 p2 (l.setIfInBounds i true) (a.put (some (sl i)) v) w' own' where
 df:=h.df
 sz:=by show (a.tmps.setIfInBounds (sl i) v).size=102;simp [h.sz]
 lz:=by simp [h.lz]
 s1:=by rw [put_getD a _ _ _ (by rw [h.sz];exact sl_lt hi),if_neg sl_p.1];exact h.s1
 s2:=by rw [put_getD a _ _ _ (by rw [h.sz];exact sl_lt hi),if_neg sl_p.2];exact h.s2
 bel:=hbel
 bas:=h.bas
 lc:=h.lc.set hrd
 gd:=by
  intro i' hi' hl hc;rw [put_getD a _ _ _ (by rw [h.sz];exact sl_lt hi)]
  by_cases he:i=i'
  ·subst he
   rw [if_pos rfl];exact hnew
  ·rw [if_neg (fun e=>he (sl_inj e))]
   rw [getD_set l i i' (by rw [h.lz];exact hi),if_neg he] at hl;have hni:=(ready_open hrd).2
   have hci:con i'≠i:=fun e=>by
    have h1:=hc (by omega);rw [e,getD_set l i i (by rw [h.lz];exact hi),if_pos rfl] at h1;cases h1
   have h9:i'<90:=by
    rcases Nat.lt_or_ge i' 90 with h9 | h9
    ·exact h9
    ·exfalso
     rcases Nat.lt_or_ge i i' with h8 | h8
     ·have:=lc_last h.lz h.lc h9 hi' hl h8
      rw [hni] at this;cases this
     ·have h7:i'<i:=by omega
      have h6:con i'=i' + 1:=by
       have:i'=90∨i'=91:=by omega
       rcases this with e | e
       ·rw [e,h90]
       ·rw [e,h91]
      have h5:i=92/\i'=90:=by omega
      have h1:=hc (by rw [h6];omega);rw [h6,h5.2,getD_set l i _ (by rw [h.lz];exact hi),if_neg (by omega)] at h1;have h3:depB OPS 92 91=true:=by kernel_rfl
      have h4:=ready_dep (h5.1 ▸ hrd) h3;exact absurd (h1.symm.trans h4) (by simp)
   obtain ⟨k1,k2,k3⟩:=htag i' h9 (fun e=>he e.symm) hci
   refine Gd.step (h.gd i' hi' hl (fun hcc=>?_)) h0 k1 k2 k3 hs hm
   have h1:=hc hcc;rw [getD_set l i (con i') (by rw [h.lz];exact hi)] at h1
   by_cases h2:i=con i'
   ·rw [if_pos h2] at h1;cases h1
   ·rw [if_neg h2] at h1;exact h1
theorem words_lit (w:World) (l:List ByteArray) (B:Nat) (ok:Nat->Prop) (hB:B<=w.heap.size) (hok:ok w.heap.size) (hm:l.length<=1000):Kd.R Kd.string 9 (w.alloc (.cells (encs Value.string l).toArray 9)) B ok (.slice (some ⟨w.heap.size,0,none⟩) l.length l.length) l:=by
 have h2:=World.ownsRow_lit (base:=B) (e:=9) (size:=1) w (encs Value.string l).toArray l.length hB (by unfold maxLen;omega) (by simp [encs])
 refine Kd.R_of_own (by simpa using h2) (fun k hk=>?_)
 have:w.heap.size=k:=by simpa [Value.ownBlock] using hk
 subst this;exact hok
theorem kinds_calls (w:World):Calls Tryz.prog 23 #[] w fun e w'=>e=.returned (.slice (some ⟨w.heap.size,0,none⟩) 9 9)/\Kd.R Kd.string 9 w' w.heap.size (fun _=>True) (.slice (some ⟨w.heap.size,0,none⟩) 9 9) kindsT/\Below w.heap.size w w':=by
 go_enter Tryz.func23,Tryz.ntmps23
 go_wp2_with (first
  | (refine run_event rfl (.buildSlice 51 9 _) rfl (.slice (some ⟨w.heap.size,0,none⟩) 9 9) (w.alloc (.cells #[.string ⟨#[79,83]⟩,.string ⟨#[65,80,80,77,79,68,69]⟩,.string ⟨#[84,65,83,75]⟩,.string ⟨#[73,83,82]⟩,.string ⟨#[82,69,83,79,85,82,67,69]⟩,.string ⟨#[69,86,69,78,84]⟩,.string ⟨#[67,79,85,78,84,69,82]⟩,.string ⟨#[65,76,65,82,77]⟩,.string ⟨#[77,69,83,83,65,71,69]⟩] 9)) (by kernel_rfl) ?_;intro w1 hw1;have R1:Hid (Kd.R Kd.string 9 w1 w.heap.size (fun _=>True) (.slice (some ⟨w.heap.size,0,none⟩) 9 9) kindsT):=hid (by rw [hw1];exact words_lit w kindsT w.heap.size _ (Nat.le_refl _) trivial (by decide));have B1:Hid (Below w.heap.size w w1):=hid (by rw [hw1];exact alloc_below _ _);clear hw1))
 go_ret
 exact ⟨rfl,R1.out,B1.out⟩
theorem rkinds_calls (w:World):Calls Tryz.prog 24 #[] w fun e w'=>e=.returned (.slice (some ⟨w.heap.size,0,none⟩) 9 9)/\Kd.R Kd.string 9 w' w.heap.size (fun _=>True) (.slice (some ⟨w.heap.size,0,none⟩) 9 9) kindsT/\Below w.heap.size w w':=by
 go_enter Tryz.func24,Tryz.ntmps24
 go_wp2_with (first
  | (refine run_event rfl (.buildSlice 51 9 _) rfl (.slice (some ⟨w.heap.size,0,none⟩) 9 9) (w.alloc (.cells #[.string ⟨#[79,83]⟩,.string ⟨#[65,80,80,77,79,68,69]⟩,.string ⟨#[84,65,83,75]⟩,.string ⟨#[73,83,82]⟩,.string ⟨#[82,69,83,79,85,82,67,69]⟩,.string ⟨#[69,86,69,78,84]⟩,.string ⟨#[67,79,85,78,84,69,82]⟩,.string ⟨#[65,76,65,82,77]⟩,.string ⟨#[77,69,83,83,65,71,69]⟩] 9)) (by kernel_rfl) ?_;intro w1 hw1;have R1:Hid (Kd.R Kd.string 9 w1 w.heap.size (fun _=>True) (.slice (some ⟨w.heap.size,0,none⟩) 9 9) kindsT):=hid (by rw [hw1];exact words_lit w kindsT w.heap.size _ (Nat.le_refl _) trivial (by decide));have B1:Hid (Below w.heap.size w w1):=hid (by rw [hw1];exact alloc_below _ _);clear hw1))
 go_ret
 exact ⟨rfl,R1.out,B1.out⟩
abbrev e0:ByteArray:=⟨#[]⟩
def rowN (o n:ByteArray) (lo hi:Int):SR:=⟨o,e0,e0,n,1,[],lo,hi,false,1,e0⟩
def rowW (o n:ByteArray) (tm:Int) (d:ByteArray) (ws:List ByteArray):SR:=⟨o,e0,e0,n,2,ws,0,0,false,tm,d⟩
def rowF (o n d:ByteArray):SR:=⟨o,e0,e0,n,2,[⟨#[84,82,85,69]⟩,⟨#[70,65,76,83,69]⟩],0,0,false,2,d⟩
def rowP (o n:ByteArray) (tm:Int):SR:=⟨o,e0,e0,n,3,[],0,0,false,tm,e0⟩
def rowS (o n:ByteArray) (ws:List ByteArray):SR:=⟨o,e0,e0,n,4,ws,0,0,false,1,e0⟩
def rowE:SR:=⟨⟨#[69,86,69,78,84]⟩,e0,e0,⟨#[77,65,83,75]⟩,1,[],1,4294967295,true,2,sAuto⟩
def rowI:SR:=⟨⟨#[77,69,83,83,65,71,69]⟩,e0,e0,⟨#[73,78,73,84,73,65,76,86,65,76,85,69]⟩,1,[],0,4294967295,false,2,⟨#[48]⟩⟩
def ownX (own:Nat->Nat) (n t:Nat):Nat->Nat:=fun k=>if k<n then own k else t
theorem ownX_lt {own:Nat->Nat} {n t b:Nat} (h:b<n):ownX own n t b=own b:=by unfold ownX;rw [if_pos h]
theorem ownX_ge {own:Nat->Nat} {n t b:Nat} (h:n<=b):ownX own n t b=t:=by unfold ownX;rw [if_neg (by omega)]
section
variable {Q:Exit->Act->World->Prop} {K:Act->World->Prop} {a:Act} {w:World}
theorem step_op {i:Nat} {op:Op} (ho:(OPS[i]?).map (fun o=>(o.op,o.dst,o.guard))=some (op,some (sl i),none))
  (h:∀ o:Oper,o.op=op->o.dst=some (sl i)->Region.wanted o (yielded OPS a.tmps)=true->∀ K':Act->World->Prop,(∀ a w,K a w->K' a w)->if Region.wanted o (yielded OPS a.tmps)=true then Oper.wp Tryz.prog o a w K' Q else K' (a.put o.dst undef) w):wpOp Tryz.prog OPS Q i K a w:=by
 cases hO:OPS[i]? with
 | none=>rw [hO] at ho;cases ho
 | some o =>
  rw [hO] at ho;simp only [Option.map_some,Option.some.injEq,Prod.mk.injEq] at ho;exact wpOp_step hO (h o ho.1 ho.2.1 (by unfold Region.wanted;rw [ho.2.2]))
theorem step_call {i f:Nat} {fn:Func} {aa:Array Operand} {ts:Array TypeId} {args:Array Value} (ho:(OPS[i]?).map (fun o=>(o.op,o.dst,o.guard))=some (.call { callee:=.value (.func f),args:=aa,argTypes:=ts },some (sl i),none))
  (hf : Tryz.prog.funcs[f]? = some fn) (hname : (fn.name == "runtime.NumGoroutine") = false) (hb : fn.body.isSome = true) (hargs : aa.map a.eval = args)
  (h:Calls Tryz.prog f args w fun e w'=>∃ v,e=.returned v/\K (a.put (some (sl i)) v) w'):wpOp Tryz.prog OPS Q i K a w :=
 step_op ho (fun o h1 h2 h3 K' hK=>by
  rw [h2]
  exact goes_ hf hname hb args h3 h2 h1 hargs (h.mono (fun e w' hh=>by
   obtain ⟨v,he,hk⟩:=hh
   exact ⟨v,he,hK _ _ hk⟩)))
theorem step_value {i:Nat} {op:Op} {v:Value} {w1:World} (ho:(OPS[i]?).map (fun o=>(o.op,o.dst,o.guard))=some (op,some (sl i),none))
  (hrun:∀ o:Oper,o.op=op->(execOp a.eval o).run Tryz.prog w=.ok (.value v) w1) (h:K (a.put (some (sl i)) v) w1):wpOp Tryz.prog OPS Q i K a w :=
 step_op ho (fun o h1 h2 h3 K' hK=>by
  rw [h2]
  exact value_ h3 h2 (hrun o h1) (hK _ _ h))
end
theorem fold_set (c:List Value):∀ (pre z:List Value),z.length=c.length->∀ (post:List Value),
  (c.zipIdx).foldl (fun cs p=>cs.setIfInBounds (pre.length + p.2) p.1) (pre++z++post).toArray=(pre++c++post).toArray:=by
 have main:∀ (c:List Value) (k:Nat) (pre z post:List Value) (n:Nat),z.length=c.length->pre.length=n + k->(c.zipIdx k).foldl (fun cs p=>Array.setIfInBounds cs (n + p.2) p.1) (pre++z++post).toArray=(pre++c++post).toArray:=by
  intro c
  induction c with
  | nil=>intro k pre z post n hz hp;rw [List.eq_nil_of_length_eq_zero hz];rfl
  | cons x r ih =>
   intro k pre z post n hz hp;cases z with
   | nil=>cases hz
   | cons y z =>
    have h1:(pre++y :: z++post).toArray.setIfInBounds (n + k) x=((pre++[x])++z++post).toArray:=by
     rw [List.setIfInBounds_toArray,<- hp]
     congr 1
     rw [List.append_assoc,List.set_append_right _ _ (Nat.le_refl _),Nat.sub_self];simp
    rw [List.zipIdx_cons,List.foldl_cons,h1,ih (k + 1) (pre++[x]) z post n (by simpa using hz) (by simp;omega)];simp
 intro pre z hz post;exact main c 0 pre z post pre.length hz rfl
theorem fill_vals (sz : Nat) : ∀ (vs : List Value) (k : Nat) (pre z : List Value), (∀ v ∈ vs, v.cells.size = sz) -> pre.length = k * sz -> z.length = vs.length * sz ->
    Instr.fill (fun i => some (i * sz, sz)) (pre ++ z).toArray ((vs.zipIdx k).map fun p => (p.2, p.1)) = some (pre ++ (vs.map (fun v => v.cells.toList)).flatten).toArray := by
  intro vs
  induction vs with
  | nil =>
    intro k pre z _ _ hz;have h0 : z = [] := List.eq_nil_of_length_eq_zero (by simpa using hz);subst h0;simp [Instr.fill]
  | cons v r ih =>
    intro k pre z hc hp hz;have hcl : v.cells.size = sz := hc v List.mem_cons_self;have hzl : z.length = sz + r.length * sz := by rw [hz, List.length_cons, Nat.succ_mul, Nat.add_comm]
    rw [List.zipIdx_cons, List.map_cons];unfold Instr.fill;simp only [];rw [if_neg (by simp [hcl, hp, hzl])];have hzs : pre ++ z = pre ++ z.take sz ++ z.drop sz := by rw [List.append_assoc, List.take_append_drop]
    have hfold : (v.cells.zipIdx.foldl (fun cs p => cs.setIfInBounds (k * sz + p.2) p.1) (pre ++ z).toArray) = (pre ++ v.cells.toList ++ z.drop sz).toArray := by
      rw [hzs, <- hp]
      have h := fold_set v.cells.toList pre (z.take sz) (by have e1 : v.cells.toList.length = sz := by rw [Array.length_toList, hcl]
                                                            rw [List.length_take, e1]; omega) (z.drop sz)
      rw [<- h];obtain ⟨vc, hvc⟩ : ∃ vc : List Value, v.cells = vc.toArray := ⟨v.cells.toList, (Array.toArray_toList).symm⟩;rw [hvc];simp
    have h3 := ih (k + 1) (pre ++ v.cells.toList) (z.drop sz) (fun c' h => hc c' (List.mem_cons_of_mem _ h)) (by rw [List.length_append, hp, Array.length_toList, hcl, Nat.succ_mul]) (by rw [List.length_drop, hzl]; omega);rw [List.map_cons, List.flatten_cons, <- List.append_assoc, <- h3]
    congr 1
theorem parts_eq (ev:Operand->Value) (slots:List Nat):((slots.zipIdx.map fun p=>(p.2,Operand.tmp p.1)).toArray.map fun p=>(p.1,ev p.2)).toList=((slots.map (fun s=>ev (.tmp s))).zipIdx 0).map fun p=>(p.2,p.1):=by
 apply List.ext_getElem?
 intro j;simp only [List.map_toArray,List.map_map,List.getElem?_map,List.getElem?_zipIdx];cases slots[j]? with
 | none=>rfl
 | some s=>rfl
theorem run_vals {a:Act} {w:World} {o:Oper} {T e sz bytes:Nat} {z:Value} (hT:Tryz.prog.underlying T=some (.slice e)) (hi:(Tryz.prog.info? e).map (fun i=>(i.zero,i.size,i.bytes))=some (some z,sz,bytes)) (hzs:z.cells.size=sz) (hs0:0<sz) (hs1:sz<=20) (slots:List Nat)
  (hop:o.op=.buildSlice T slots.length (slots.zipIdx.map fun p=>(p.2,Operand.tmp p.1)).toArray) (hl:∀ s ∈ slots,(a.tmps.getD s undef).cells.size=sz) (h0:0<slots.length) (hn:slots.length<=100) :
  (execOp a.eval o).run Tryz.prog w=.ok (.value (.slice (some ⟨w.heap.size,0,none⟩) slots.length slots.length)) (w.alloc (.cells ((slots.map (fun s=>(a.tmps.getD s undef).cells.toList)).flatten).toArray e)):=by
 have hp:=parts_eq a.eval slots
 have hf:=fill_vals sz (slots.map (fun s=>a.eval (.tmp s))) 0 [] ((Array.range (slots.length*sz)).map (z.cells[· % z.cells.size]!)).toList (fun v hv=>by
  obtain ⟨s,hs,rfl⟩:=List.mem_map.1 hv
  exact hl s hs) (by simp) (by rw [Array.length_toList];simp)
 rw [List.nil_append,List.nil_append,Array.toArray_toList,<- hp,List.map_map] at hf
 have hne:slots.length*sz≠0:=by
  have:=Nat.mul_pos h0 hs0;omega
 have hle:¬ (slots.length*sz > 2 ^ 24):=by
  have:=Nat.mul_le_mul hn hs1;omega
 obtain ⟨info,hin,hinf⟩:∃ info,Tryz.prog.info? e=some info/\(info.zero,info.size,info.bytes)=(some z,sz,bytes):=by
  cases hq:Tryz.prog.info? e with
  | none=>rw [hq] at hi;cases hi
  | some info=>rw [hq] at hi;exact ⟨info,rfl,by simpa using hi⟩
 simp only [Prod.mk.injEq] at hinf;simp at hf;unfold execOp;rw [hop];simp [Instr.buildSlice,run_underlying hT,sizeOf,typeInfo,hin,hinf.2.1,hinf.1,hle,hne,zeroValue,hf,newRow];rw [show List.map ((fun v:Value=>v.cells.toList) ∘ fun s=>a.eval (Operand.tmp s)) slots=List.map (fun s=>(a.tmps[s]?.getD undef).cells.toList) slots from List.map_congr_left (fun s _=>by simp [Act.eval])]
section
variable {α:Type}
theorem R_made (d:Kd α) {w:World} (B e:Nat) {xs:List α} {inner:List Value} {ok okp:Nat->Prop} (hrep:Reps (d.M w B okp) d.sz xs inner) (hok:∀ k,okp k->k<w.heap.size->ok k) (hfresh:ok w.heap.size) (hB:B<=w.heap.size) (hm:xs.length<=9223372036854775807) :
  d.R e (w.alloc (.cells inner.toArray e)) B ok (.slice (some ⟨w.heap.size,0,none⟩) xs.length xs.length) xs:=by
 refine ⟨fun k hk=>?_,inner,?_,?_⟩
 ·have:w.heap.size=k:=by simpa [Value.ownBlock] using hk
  subst this;exact hfresh
 ·have h2:=World.ownsRow_lit (base:=B) (e:=e) (size:=d.sz) w inner.toArray xs.length hB (by simpa [maxLen] using hm) (by simpa using hrep.1)
  simpa using h2
 ·refine hrep.imp_ (fun p c hp=>d.M_mono (fun k hk=>⟨hok k hk.1 hk.2.2.1,fun he=>?_⟩) (Kd.M_below (d.M_bound hp) (alloc_below _ _)))
  have h3:k=w.heap.size:=by simpa [Value.ownBlock] using he
  have:=hk.2.2.1;omega
theorem reps_cons {R:α->List Value->Prop} {size:Nat} {ps:List α} {cs c:List Value} {p:α} (h:Reps R size ps cs) (hp:R p c) (hc:c.length=size):Reps R size (p :: ps) (c++cs):=by
 refine ⟨by rw [List.length_append,h.1,hc,List.length_cons,Nat.succ_mul,Nat.add_comm],fun j q hq=>?_⟩
 cases j with
 | zero =>
  obtain rfl:p=q:=by simpa using hq
  rw [Nat.zero_mul,List.drop_zero,<- hc,List.take_left']
  ·exact hp
  ·rfl
 | succ j =>
  have h2:=h.2 j q (by simpa using hq);have e1:(j + 1)*size=c.length + j*size:=by rw [Nat.succ_mul,hc,Nat.add_comm]
  have e2:(c++cs).drop (c.length + j*size)=cs.drop (j*size):=by
   rw [List.drop_append,List.drop_eq_nil_of_le (by omega),List.nil_append]
   congr 1
   omega
  rw [e1,e2];exact h2
end
end Go.Proofs.YtmfejjlmflgnbaaGreatDoor.Sc

/- CONTRACT: package schema's spelled: can a token of a kind and text be written? -/
import Derived.Test.YtmfejjlmflgnbaaGreatDoorZSpl
import Derived.Test.YtmfejjlmflgnbaaGreatDoorZVal
import Derived.Test.YtmfejjlmflgnbaaGreatDoorZAttrs
import Derived.Deep.RegionLaw
namespace Go.Proofs.YtmfejjlmflgnbaaGreatDoor.Sc
open Go.RowKit Go.Proofs.YtmfejjlmflgnbaaGreatDoor.PA Go.Proofs.YtmfejjlmflgnbaaGreatDoorW.PrintWords Go.Proofs.YtmfejjlmflgnbaaGreatDoorW.PrintLast Go.Proofs.YtmfejjlmflgnbaaGreatDoor.Sp Go.Proofs.YtmfejjlmflgnbaaGreatDoor.Tr Go.Proofs.YtmfejjlmflgnbaaGreatDoor.Tok
set_option linter.unusedVariables false
set_option linter.unusedSimpArgs false
set_option maxRecDepth 100000
theorem spelt_calls (k:Int) (t:ByteArray) (w:World) (hG:Glob w) (r:Bool) (hr:(spellT k t.data.toList 0 false).isSome=r) :
  Calls Tryz.prog 97 #[tokV k 0 0 0 t 0 false] w fun e w'=>(∃ s en,e=.returned (.tuple #[.string s,.int .i64 en])∧((en:Int) == 0)=r)∧Below w.heap.size w w' :=
 (spell_calls k 0 0 0 t 0 false w (by omega) hG).mono fun e w' ⟨hB,he⟩=>by
  refine ⟨?_,hB⟩
  rw [he]
  cases hs:spellT k t.data.toList 0 false with
  | none=>rw [hs] at hr;exact ⟨_,_,rfl,by rw [← hr];rfl⟩
  | some s=>rw [hs] at hr;exact ⟨_,_,rfl,by rw [← hr];rfl⟩
theorem spelled_calls (k:Int) (t:ByteArray) (w:World) (hG:Glob w) (r:Bool) (hr:(spellT k t.data.toList 0 false).isSome=r) :
  Calls Tryz.prog 75 #[.int .i64 k,.string t] w fun e w'=>e=.returned (.bool r)∧Below w.heap.size w w':=by
 have HC:=Lib.hid (spelt_calls k t w hG r hr)
 clear hG hr
 unfold tokV tokCells at HC
 go_enter Tryz.func75,Tryz.ntmps75
 go_wp2_with (first
  | (go_at_call 97;refine HC.out.mono ?_;rintro e w2 ⟨⟨s,en,rfl,hen⟩,hB2⟩;have B2:=Lib.hid hB2;clear hB2))
 go_ret
 exact ⟨by first | rw [hen] | rfl,B2.out⟩
theorem spell_name' (t:Bs):(spellT 1 t 0 false).isSome=nameB t:=by
 unfold spellT
 cases h:nameB t <;> simp [h]
theorem spell_text' (t:Bs):(spellT 3 t 0 false).isSome=stringB t:=by
 unfold spellT
 cases h:stringB t <;> simp [h]
end Go.Proofs.YtmfejjlmflgnbaaGreatDoor.Sc
/- CONTRACT: package schema's (*writer).attrs: entries as attributes by rows. -/
namespace Go.Proofs.YtmfejjlmflgnbaaGreatDoor.Sc
open Go.RowKit Go.Proofs.YtmfejjlmflgnbaaGreatDoor.PA Go.Proofs.YtmfejjlmflgnbaaGreatDoorW.PrintWords Go.Proofs.YtmfejjlmflgnbaaGreatDoorW.PrintLast Go.Proofs.YtmfejjlmflgnbaaGreatDoor.Sp Go.Proofs.YtmfejjlmflgnbaaGreatDoor.Tr Go.Proofs.YtmfejjlmflgnbaaGreatDoor.Tok
set_option linter.unusedVariables false
set_option linter.unusedSimpArgs false
set_option maxRecDepth 100000
abbrev wrC (rs:List SR) (A:Option Addr) (c:Nat) (bad:Bool):Array Value:=#[.slice A rs.length c,.map none,.bool bad]
theorem layL_none {rs:List SR} {obj:ByteArray} {l:List SR} {out:List SA} {b:Bool} {es:List SE} {j:Nat} {e:SE} (h:es[j]?=some e) (he:layE rs obj l e=none):layL rs obj l out b (es.drop j)=([],true):=by
 obtain ⟨hj,rfl⟩:=List.getElem?_eq_some_iff.1 h
 rw [List.drop_eq_getElem_cons hj]
 unfold layL
 rw [he]
theorem layL_go {rs:List SR} {obj:ByteArray} {l:List SR} {out:List SA} {b b2:Bool} {a:SA} {es:List SE} {j:Nat} {e:SE} (h:es[j]?=some e) (he:layE rs obj l e=some (a,b2)):layL rs obj l out b (es.drop j)=layL rs obj l (out++[a]) (b||b2) (es.drop (j + 1)):=by
 obtain ⟨hj,rfl⟩:=List.getElem?_eq_some_iff.1 h
 rw [List.drop_eq_getElem_cons hj]
 conv=>lhs;unfold layL
 rw [he]
def attN (n:ByteArray) (v:SV) (br:Bool) (ps:List SA):SA:=⟨n,z41,v,br,ps,false,⟨#[]⟩⟩
theorem layE_eq (rs:List SR) (obj:ByteArray) (l:List SR) (e:SE):layE rs obj l e=match findR l e.name with
  | none=>none
  | some x=>if (innerR rs obj x e.name e.word).isEmpty then some (attN e.name (layV x e.num e.auto e.word) false [],badV x e.word)
   else some (attN e.name (layV x e.num e.auto e.word) true (layL rs obj (innerR rs obj x e.name e.word) [] false e.params).1,badV x e.word||(layL rs obj (innerR rs obj x e.name e.word) [] false e.params).2):=by
 cases e
 unfold layE
 rfl
def WPost (rs:List SR) (r:List SA × Bool) (wb:Nat) (A:Option Addr) (c:Nat) (bad:Bool) (w:World) (e:Ending) (w':World):Prop :=
 w.grownBy w' (some wb)∧w'.heap[wb]?=some (.cells (wrC rs A c (bad||r.2)) 146 (0,0))∧∃ v,e=.returned v∧Kd.R k50 50 w' w.heap.size (fun _=>True) v r.1
def WriC (rs:List SR) (m:Nat):Prop :=
 ∀ (es:List SE) (obj:ByteArray) (l:List SR) (wb B0:Nat) (A:Option Addr) (c:Nat) (Al:Option Addr) (cl:Nat) (As:Option Addr) (cs:Nat) (bad:Bool) (wz w:World),szEs es≤m→szEs es≤1073741824→Below wz.heap.size wz w→wz.heap.size≤wb→w.heap[wb]?=some (.cells (wrC rs A c bad) 146 (0,0)) →
  Kd.C kRow wz A rs.length rs→rs.length≤1000→Kd.R (Kd.fixed kRow wz) 60 w B0 (fun k=>wb<k) (.slice Al l.length cl) l→l.length≤1000→Kd.C kEnt wz As es.length es→Glob wz →
  Calls Tryz.prog 76 #[.pointer (some ⟨wb,0,none⟩),.string obj,.slice Al l.length cl,.slice As es.length cs] w (WPost rs (layL rs obj l [] false es) wb A c bad w)
structure LW (rs:List SR) (obj:ByteArray) (l:List SR) (es:List SE) (RES:List SA × Bool) (wb:Nat) (A:Option Addr) (c:Nat) (bad:Bool) (w:World) (j:Nat) (out:List SA) (b:Bool) (ov:Value) (wr:World):Prop where
 ly:layL rs obj l out b (es.drop j)=RES
 gr:w.grownBy wr (some wb)
 blk:wr.heap[wb]?=some (.cells (wrC rs A c (bad||b)) 146 (0,0))
 row:Kd.R k50 50 wr w.heap.size (fun _=>True) ov out
 len:out.length≤j
theorem ent_at (l:List SE) (j:Nat) (e:SE) (h:l[j]?=some e):rd_Ent l (j:Int)=e:=by
 unfold rd_Ent
 rw [Int.toNat_natCast,List.getD_eq_getElem?_getD,h]
 rfl
theorem two_new {w w':World} {a b:Array Value} {S T:TypeId} (h:((w.alloc (.cells a S)).alloc (.cells b T)).drew=w'):Below w.heap.size w w'∧w'.heap[w.heap.size]?=some (.cells a S (0,0))∧w'.heap[w.heap.size + 1]?=some (.cells b T (0,0))∧w'.heap.size=w.heap.size + 2:=by
 subst h
 have b1:=alloc_below w (.cells a S)
 have z1:(w.alloc (.cells a S)).heap.size=w.heap.size + 1:=by simp
 have h1:=heap_alloc_new w (.cells a S)
 generalize w.alloc (.cells a S)=w1 at *
 have b2:=alloc_below w1 (.cells b T)
 have h2:=heap_alloc_new w1 (.cells b T)
 have z2:(w1.alloc (.cells b T)).heap.size=w1.heap.size + 1:=by simp
 rw [z1] at h2
 exact ⟨(b1.trans (b2.mono (by omega))).drew,(b2.block _ (by omega)).trans h1,h2,by show (w1.alloc (.cells b T)).heap.size=_;omega⟩
abbrev attZ (n:ByteArray) (v0:Int) (v1:ByteArray) (v2:Int) (br:Bool) (ps:Value):Array Value:=#[.string n,.int .i64 0,.int .i64 0,.int .i64 0,.int .i64 v0,.string v1,.int .u32 v2,.bool false,.bool br,ps,.bool false,.string ⟨#[]⟩]
structure PairN (y6 y8:World) (xb ab:Nat) (x:SR) (A5:Option Addr) (c5:Nat) (n:ByteArray):Prop where
 bel:Below y6.heap.size y6 y8
 row:y8.heap[xb]?=some (.cells (rowC x A5 c5) 60 (0,0))
 att:y8.heap[ab]?=some (.cells (attZ n 0 ⟨#[]⟩ 0 false (.slice none 0 0)) 50 (0,0))
 gx:y6.heap.size≤xb
 ga:y6.heap.size≤ab
 ne:xb≠ab
theorem row4 {w w1:World} {g o:Nat} {cs:Array Value} {t:TypeId} {x y z u:Value} (h:w.heap[g]?=some (.cells cs t (0,0))) (hw:w1=w.setCells g o [x,y,z,u]) :
  w1.heap[g]?=some (.cells ((((cs.setIfInBounds o x).setIfInBounds (o + 1) y).setIfInBounds (o + 1 + 1) z).setIfInBounds (o + 1 + 1 + 1) u) t (0,0))∧w.grownBy w1 (some g):=by
 have e:w1=((((w.setCell ⟨g,o,none⟩ x).setCell ⟨g,o + 1,none⟩ y).setCell ⟨g,o + 1 + 1,none⟩ z).setCell ⟨g,o + 1 + 1 + 1,none⟩ u):=hw
 rw [e]
 exact ⟨setCell_row (setCell_row (setCell_row (setCell_row h x) y) z) u,(((setCell_grown _ _ _ _).trans (setCell_grown _ _ _ _)).trans (setCell_grown _ _ _ _)).trans (setCell_grown _ _ _ _)⟩
theorem grown_own {w W z:World} {wb:Nat} {r:Option Nat} (h:w.grownBy W (some wb)) (h1:W.grownBy z r) (hr:∀ k,r=some k→w.heap.size≤k):w.grownBy z (some wb) :=
 ⟨h1.os.trans h.os,h1.tape.trans h.tape,h1.output.trans h.output,Nat.le_trans h.size h1.size,fun k hk hne=>(h1.block k (Nat.lt_of_lt_of_le hk h.size) (fun e=>by have:=hr k e.symm;omega)).trans (h.block k hk hne)⟩
theorem infoAtt:(Tryz.prog.info? 50).map (fun i=>(i.zero,i.size,i.bytes))=some (some (.agg att0),12,128):=by kernel_rfl
set_option maxHeartbeats 64000000 in
theorem wattrs_step (rs:List SR) (m:Nat) (ih:∀ k,k<m→WriC rs k):WriC rs m:=by
 intro es obj l wb B0 A c Al cl As cs bad wz w hm hm2 hB hwb hblk hCr hrl hRl hll hCe hG
 have IH:=Lib.hid ih
 have HM:=Lib.hid hm
 have HM2:=Lib.hid hm2
 have HB:=Lib.hid hB
 have HWB:=Lib.hid hwb
 have HCR:=Lib.hid hCr
 have HRL:=Lib.hid hRl
 have HCE:=Lib.hid hCe
 have HG:=Lib.hid hG
 have HRS:=Lib.hid hrl
 have HL0:Hid (es.length≤1073741824):=Lib.hid (Nat.le_trans (szEs_len es) hm2)
 have HWL:Hid (wb<w.heap.size):=Lib.hid (Array.getElem?_eq_some_iff.1 hblk).1
 obtain ⟨RES,hRES⟩:∃ r,layL rs obj l [] false es=r:=⟨_,rfl⟩
 rw [hRES]
 have HST:Hid (LW rs obj l es RES wb A c bad w 0 [] false (.slice none 0 0) w):=Lib.hid ⟨by rw [List.drop_zero];exact hRES,World.grownBy.refl _ _,by rw [Bool.or_false];exact hblk,Kd.R_nil _ _ _ _ _,by simp⟩
 clear ih hm hm2 hB hwb hblk hCr hRl hCe hG hRES hrl
 obtain ⟨n,hnn⟩:∃ n,es.length=n:=⟨_,rfl⟩
 rw [hnn] at HCE HL0 ⊢
 have HN:=Lib.hid hnn
 clear hnn
 have hn:=HL0.out
 obtain ⟨nl,hnl⟩:∃ nl,l.length=nl:=⟨_,rfl⟩
 rw [hnl] at HRL hll ⊢
 have HNL:=Lib.hid hnl
 clear hnl
 have hmf:∀ (fn:Fn) (first cap:Array Value) (w:World),(Instr.makeFunc fn first cap).run Tryz.prog w=.ok (.func fn first cap) w:=fun _ _ _ _=>rfl
 go_enter Tryz.func76,Tryz.ntmps76
 go_wp2_with fail
 go_loopw [9,18] (fun ov v wr=>∃ (j:Nat) (out:List SA) (b:Bool),v=.int .i64 (j:Int)∧j≤n∧Hid (LW rs obj l es RES wb A c bad w j out b ov wr)) (fun _ v _=>n - (intOf v).toNat)
 case atStart=>exact ⟨0,[],false,by go_num,by omega,HST⟩
 case round =>
  obtain ⟨j,out,b,rfl,hj,HI⟩:=hrel
  clear HST
  obtain ⟨Ao,co,hov⟩:=RForm HI.out.row
  subst hov
  have HZ:Hid (Below wz.heap.size wz wr):=Lib.hid (HB.out.trans (belowG HI.out.gr HWB.out HB.out.size))
  have HWR:Hid (wb<wr.heap.size):=Lib.hid (Array.getElem?_eq_some_iff.1 HI.out.blk).1
  have HRLR:Hid (Kd.R (Kd.fixed kRow wz) 60 wr B0 (fun k=>wb<k) (.slice Al nl cl) l):=Lib.hid (Kd.R_grown HRL.out HI.out.gr (fun k hk e=>by injection e with e;omega))
  by_cases hlt:j<n
  ·have hx:es[j]?=some (es[j]'(by rw [HN.out];exact hlt)):=List.getElem?_eq_getElem _
   obtain ⟨ad,A7,c7,eA,x0,x1,x2,x3,x4,x5,x6,x7,l7,C7⟩:=at_Ent (Kd.C_below HCE.out HZ.out) (j:Int) (by omega) (by omega)
   rw [ent_at es j _ hx] at x0 x1 x2 x3 x4 x5 x6 x7 l7 C7
   obtain ⟨adz,A7z,c7z,eAz,_,_,_,_,_,_,_,z7,_,C7z⟩:=at_Ent HCE.out (j:Int) (by omega) (by omega)
   rw [ent_at es j _ hx] at z7 C7z
   generalize (es[j]'(by rw [HN.out];exact hlt))=e at hx x0 x1 x2 x3 x4 x5 x6 x7 l7 C7 z7 C7z
   cases eA
   injection eAz with eAz
   subst eAz
   have z7':=(HZ.out.cell (World.block_lt_of_cell? wz _ z7)).trans z7
   rw [x7] at z7'
   injection z7' with z7'
   injection z7' with hA7 _ hc7
   subst hA7 hc7
   have HX:=Lib.hid hx
   have HC7:=Lib.hid C7z
   have HSE:Hid (szE e≤szEs es):=Lib.hid (szEs_get es j e hx)
   clear hx C7 C7z l7 z7
   simp only [Int.toNat_natCast] at x0 x1 x2 x3 x4 x5 x6 x7
   have tk1:True:=trivial
   go_upto_region 5 with (first
    | (have _t:=tk1;refine run_event rfl (.alloc 80) rfl (.pointer (some ⟨wr.heap.size,0,none⟩)) (wr.alloc (.cells ent0 80)) (by kernel_rfl) ?_;intro x4w hw4;have BX4:Hid (Below wr.heap.size wr x4w):=Lib.hid (by rw [hw4];exact alloc_below _ _);have EX4:Hid (x4w.heap[wr.heap.size]?=some (.cells ent0 80 (0,0))):=Lib.hid (by rw [hw4];exact heap_alloc_new _ _);have ZX4:Hid (x4w.heap.size=wr.heap.size + 1):=Lib.hid (by rw [hw4];simp);clear hw4 tk1 _t)
    | ((with_reducible refine gate_store (t:=80) (p:=11) rfl ?_);refine put_event rfl 80 _ _ rfl wr.heap.size (entC e (.slice A7 e.params.length c7)) rfl rfl 80 ent0 EX4.out (by kernel_rfl) rfl (ent_all _ _ _ _) wr.heap.size (Nat.le_refl _) ?_;intro y5 hb5 hB5 hs5 ho5;have E5:=Lib.hid hb5;have B5:Hid (Below wr.heap.size wr y5):=Lib.hid (BX4.out.trans hB5);have Z5:Hid (y5.heap.size=wr.heap.size + 1):=Lib.hid (by rw [hs5,ZX4.out]);clear hb5 hB5 hs5 ho5 x0 x1 x2 x3 x4 x5 x6 x7))
   clear BX4 EX4 ZX4
   have HKZ:Hid (Keeps wz y5):=Lib.hid (keeps_below (HZ.out.trans (B5.out.mono HZ.out.size)))
   have HRL5:=Lib.hid (Kd.R_below HRLR.out B5.out)
   have HIX:Hid (Calls Tryz.prog 103 #[.slice Al nl cl,.func (.func 114) #[] #[.pointer (some ⟨wr.heap.size,0,none⟩)]] y5 fun ev w'=>ev=.returned (.int .i64 (idxF (fun x=>decide (x.name=e.name)) l 0))∧Below y5.heap.size y5 w'):=Lib.hid (by
    have h:=findw_calls e.name l Al cl wr.heap.size y5 (fixed_C HKZ.out (Kd.R_reads' HRL5.out).2.2) ((cell_row E5.out 0).trans rfl)
    rw [HNL.out] at h
    exact h)
   obtain ⟨ix,hix⟩:∃ ix,idxF (fun x:SR=>decide (x.name=e.name)) l 0=ix:=⟨_,rfl⟩
   rw [hix] at HIX
   have hfi:=find_idx l e.name 0
   rw [hix] at hfi
   have HFI:=Lib.hid hfi
   clear hix hfi
   go_upto_region 6 with (first
    | (go_at_call 103;refine HIX.out.mono ?_;rintro ev y6 ⟨rfl,hB6⟩;have B56:=Lib.hid hB6;clear hB6))
   have B6:Hid (Below wr.heap.size wr y6):=Lib.hid (B5.out.trans (B56.out.mono B5.out.size))
   have E6:=Lib.hid ((B56.out.block wr.heap.size (by have:=Z5.out;omega)).trans E5.out)
   have BK6:=Lib.hid ((B6.out.block wb HWR.out).trans HI.out.blk)
   have HZ6:Hid (wr.heap.size<y6.heap.size):=Lib.hid (by have:=Z5.out;have:=B56.out.size;omega)
   have GR6:Hid (w.grownBy y6 (some wb)):=Lib.hid (HI.out.gr.trans (below_grown (r:=some wb) B6.out))
   have ROW6:=Lib.hid (Kd.R_below (Kd.R_mono (ok':=fun k=>w.heap.size≤k∧k<wr.heap.size) (Kd.R_bound HI.out.row) (fun k hk=>⟨hk.2.1,hk.2.2.1⟩)) B6.out)
   have HRL6:=Lib.hid (Kd.R_below HRLR.out B6.out)
   have HOL:Hid (out.length≤j∧layL rs obj l out b (es.drop j)=RES):=Lib.hid ⟨HI.out.len,HI.out.ly⟩
   have HWW:Hid (w.heap.size≤wr.heap.size):=Lib.hid HI.out.gr.size
   clear HI HRLR B5 E5 Z5 HKZ HRL5 B56
   cases hf:findR l e.name with
   | none =>
    have hi:=HFI.out
    rw [hf] at hi
    dsimp only at hi
    have HBAD:Hid (RES=([],true)):=Lib.hid (by rw [← HOL.out.2];exact layL_none HX.out (by rw [layE_eq,hf]))
    clear hf HFI
    subst hi
    go_wp2_with (first
     | ((with_reducible refine gate_store (t:=4) (p:=29) rfl ?_);refine cell_event rfl 4 _ _ rfl wb 2 (.bool true) rfl rfl rfl (thereR BK6.out (by simp)) (by kernel_rfl) wb (Nat.le_refl _) ?_;intro y7 hw7 hB7 hs7;obtain ⟨hr7,hk7,hz7⟩:=row1 BK6.out hw7;have BK7:Hid (y7.heap[wb]?=some (.cells (wrC rs A c true) 146 (0,0))):=Lib.hid hr7;have G7:Hid (y6.grownBy y7 (some wb)):=Lib.hid ⟨hB7.os,hB7.tape,hB7.output,hB7.size,fun k _ hne=>hk7 k (fun e=>hne (by rw [e]))⟩;clear hw7 hr7 hk7 hz7 hB7 hs7))
    go_ret
    rw [HBAD.out]
    exact ⟨GR6.out.trans G7.out,by rw [Bool.or_true];exact BK7.out,_,rfl,Kd.R_nil _ _ _ _ _⟩
   | some x =>
    have hi:=HFI.out
    rw [hf] at hi
    dsimp only at hi
    obtain ⟨i,hi1,hi2,hi3⟩:=hi
    rw [Nat.zero_add] at hi1
    have HXI:=Lib.hid hi2
    have HIL:Hid (i<nl):=Lib.hid (by rw [← HNL.out];exact (List.getElem?_eq_some_iff.1 hi2).1)
    have HLE:Hid (layE rs obj l e=if (innerR rs obj x e.name e.word).isEmpty then some (attN e.name (layV x e.num e.auto e.word) false [],badV x e.word)
     else some (attN e.name (layV x e.num e.auto e.word) true (layL rs obj (innerR rs obj x e.name e.word) [] false e.params).1,badV x e.word||(layL rs obj (innerR rs obj x e.name e.word) [] false e.params).2)):=Lib.hid (by rw [layE_eq,hf])
    clear hi2 hi3 hf HFI
    subst hi1
    have hi0:¬ ((i:Int)<0):=by omega
    have HCL6:Hid (Kd.C kRow y6 Al nl l):=Lib.hid (by
     have h:=fixed_C (keeps_below (HZ.out.trans (B6.out.mono HZ.out.size))) (Kd.R_reads' HRL6.out).2.2
     rw [HNL.out] at h
     exact h)
    obtain ⟨ad2,A5,c5,eA2,z0,z1,z2,z3,z4,z5,z6,z7,z8,z9,z10,l5,C5⟩:=at_Row HCL6.out (i:Int) (by omega) (by have:=HIL.out;omega)
    rw [row_at l i x HXI.out] at z0 z1 z2 z3 z4 z5 z6 z7 z8 z9 z10 l5 C5
    cases eA2
    simp only [Int.toNat_natCast] at z0 z1 z2 z3 z4 z5 z6 z7 z8 z9 z10
    clear C5 l5
    have hin:=HIL.out
    have hil2:(i:Int)<(nl:Int):=by omega
    go_upto_region 9 with fail
    apply once
    case h1 =>
     intro key
     have e0:y6.cell? ⟨wr.heap.size,0,none⟩=some (.string e.name):=(cell_row E6.out 0).trans rfl
     have hq1:wr.heap.size<y6.heap.size:=World.block_lt_of_cell? y6 _ e0
     have hq2:(ad2.add (i*11)).block<y6.heap.size:=World.block_lt_of_cell? y6 _ z0
     go_region
     all_goals
      clear e0 hq1 hq2
      generalize hy8:World.drew _=y8
      obtain ⟨F1,F2,F3,F4⟩:=two_new hy8
      obtain ⟨k1,hk1⟩:∃ k,k=y6.heap.size + 1:=⟨_,rfl⟩
      obtain ⟨k0,hk0⟩:∃ k,k=y6.heap.size:=⟨_,rfl⟩
      rw [← hk1,← hk0]
      first
       | (have F:Hid (PairN y6 y8 k0 k1 x A5 c5 e.name):=Lib.hid ⟨F1,by rw [hk0];exact F2,by rw [hk1];exact F3,by omega,by omega,by omega⟩
          clear hk0 hk1 hy8 F1 F2 F3 F4
          revert F
          revert k1
          revert k0
          revert y8
          exact key.out)
       | (have F:Hid (PairN y6 y8 k1 k0 x A5 c5 e.name):=Lib.hid ⟨F1,by rw [hk1];exact F3,by rw [hk0];exact F2,by omega,by omega,by omega⟩
          clear hk0 hk1 hy8 F1 F2 F3 F4
          revert F
          revert k0
          revert k1
          revert y8
          exact key.out)
    case h2 =>
     intro y8 xb ab F
     clear z0 z1 z2 z3 z4 z5 z6 z7 z8 z9 z10
     have E8:=Lib.hid ((F.out.bel.block wr.heap.size HZ6.out).trans E6.out)
     have BK8:=Lib.hid ((F.out.bel.block wb (by have:=HZ6.out;have:=HWR.out;omega)).trans BK6.out)
     have HZ8:Hid (Below wz.heap.size wz y8):=Lib.hid ((HZ.out.trans (B6.out.mono HZ.out.size)).trans (F.out.bel.mono (by have:=HZ.out.size;have:=HZ6.out;omega)))
     have GR8:Hid (w.grownBy y8 (some wb)):=Lib.hid (GR6.out.trans (below_grown (r:=some wb) F.out.bel))
     have ROW8:=Lib.hid (Kd.R_below ROW6.out F.out.bel)
     have X8:=Lib.hid F.out.row
     have AT8:=Lib.hid F.out.att
     have HNE:Hid (wb≠xb∧wb≠ab∧xb≠ab∧wr.heap.size≠xb∧wr.heap.size≠ab∧wr.heap.size≠wb∧w.heap.size≤ab∧w.heap.size≤xb∧wr.heap.size<ab∧wr.heap.size<xb):=Lib.hid (by have h1:=HWR.out;have h2:=HZ6.out;have h3:=F.out.gx;have h4:=F.out.ga;have h5:=F.out.ne;have h6:=HWW.out;exact ⟨by omega,by omega,h5,by omega,by omega,by omega,by omega,by omega,by omega,by omega⟩)
     obtain ⟨q,hq⟩:∃ q,(bad||b)=q:=⟨_,rfl⟩
     rw [hq] at BK8
     have HQ:=Lib.hid hq
     clear hq F E6 BK6 GR6 ROW6 HRL6 HCL6 B6
     have a0:y8.cell? ⟨wr.heap.size,0,none⟩=some (.string e.name):=(cell_row E8.out 0).trans rfl
     have a4:y8.cell? ⟨wr.heap.size,4,none⟩=some (.int .u32 e.num):=(cell_row E8.out 4).trans rfl
     have a5:y8.cell? ⟨wr.heap.size,5,none⟩=some (.bool e.auto):=(cell_row E8.out 5).trans rfl
     have a6:y8.cell? ⟨wr.heap.size,6,none⟩=some (.string e.word):=(cell_row E8.out 6).trans rfl
     have b1:y8.cell? ⟨xb,1,none⟩=some (.string x.un):=(cell_row X8.out 1).trans rfl
     by_cases hw1:x.want=1
     ·have b4:y8.cell? ⟨xb,4,none⟩=some (.int .i64 1):=(cell_row X8.out 4).trans (by rw [← hw1];rfl)
      have HIN:Hid ((innerR rs obj x e.name e.word).isEmpty=true):=Lib.hid (by unfold innerR;rw [if_neg (by rw [hw1];simp)];rfl)
      cases hau:e.auto with
      | true =>
       rw [hau] at a5
       have HLY:=Lib.hid (show layE rs obj l e=some (attN e.name ⟨1,sAuto,0,false⟩ false [],false) from by rw [HLE.out,if_pos HIN.out];unfold layV badV;rw [if_pos hw1,if_pos hw1,hau];rfl)
       have hw:=hw1;clear hw1 hau;have HWX:=Lib.hid hw;clear hw
       go_upto_region 19 with (first
        | ((with_reducible refine gate_store (t:=48) (p:=63) rfl ?_);refine cells_ev rfl 48 _ _ rfl ab 4 [.int .i64 1,.string sAuto,.int .u32 0,.bool false] rfl rfl (by simp [Value.oneCell']) (thereR AT8.out (by simp)) (by kernel_rfl) ?_;intro y9 hw9;obtain ⟨hr9,hg9⟩:=row4 AT8.out hw9;have AT9:Hid (y9.heap[ab]?=some (.cells (attZ e.name 1 sAuto 0 false (.slice none 0 0)) 50 (0,0))):=Lib.hid hr9;have G9:=Lib.hid hg9;clear hw9 hr9 hg9 a0 a4 a5 a6 b1 b4))
       have GR9:Hid (w.grownBy y9 (some wb)):=Lib.hid (grown_own GR8.out G9.out (fun k hk=>by injection hk with hk;have:=HNE.out;omega))
       have BK9:=Lib.hid ((G9.out.block wb (Array.getElem?_eq_some_iff.1 BK8.out).1 (fun h=>by injection h with h;have:=HNE.out;omega)).trans BK8.out)
       have ROW9:=Lib.hid (Kd.R_grown ROW8.out G9.out (fun k hk h=>by injection h with h;have:=HNE.out;omega))
       have X9:=Lib.hid ((G9.out.block xb (Array.getElem?_eq_some_iff.1 X8.out).1 (fun h=>by injection h with h;have:=HNE.out;omega)).trans X8.out)
       have E9:=Lib.hid ((G9.out.block wr.heap.size (Array.getElem?_eq_some_iff.1 E8.out).1 (fun h=>by injection h with h;have:=HNE.out;omega)).trans E8.out)
       have HZ9:Hid (Below wz.heap.size wz y9):=Lib.hid (HB.out.trans (belowG GR9.out HWB.out HB.out.size))
       have b4:y9.cell? ⟨xb,4,none⟩=some (.int .i64 1):=(cell_row X9.out 4).trans (by rw [← HWX.out];rfl)
       have c0:y9.cell? ⟨ab,0,none⟩=some (.string e.name):=(cell_row AT9.out 0).trans rfl
       have c1:y9.cell? ⟨ab,1,none⟩=some (.int .i64 0):=(cell_row AT9.out 1).trans rfl
       have c2:y9.cell? ⟨ab,2,none⟩=some (.int .i64 0):=(cell_row AT9.out 2).trans rfl
       have c3:y9.cell? ⟨ab,3,none⟩=some (.int .i64 0):=(cell_row AT9.out 3).trans rfl
       have c4:y9.cell? ⟨ab,4,none⟩=some (.int .i64 1):=(cell_row AT9.out 4).trans rfl
       have c5:y9.cell? ⟨ab,5,none⟩=some (.string sAuto):=(cell_row AT9.out 5).trans rfl
       have c6:y9.cell? ⟨ab,6,none⟩=some (.int .u32 0):=(cell_row AT9.out 6).trans rfl
       have c7:y9.cell? ⟨ab,7,none⟩=some (.bool false):=(cell_row AT9.out 7).trans rfl
       have c8:y9.cell? ⟨ab,8,none⟩=some (.bool false):=(cell_row AT9.out 8).trans rfl
       have c9:y9.cell? ⟨ab,9,none⟩=some (.slice none 0 0):=(cell_row AT9.out 9).trans rfl
       have c10:y9.cell? ⟨ab,10,none⟩=some (.bool false):=(cell_row AT9.out 10).trans rfl
       have c11:y9.cell? ⟨ab,11,none⟩=some (.string ⟨#[]⟩):=(cell_row AT9.out 11).trans rfl
       have HOB:Hid (∀ k,(Value.slice Ao out.length co).ownBlock=some k→w.heap.size≤k):=Lib.hid (fun k hk=>Kd.R_base ROW9.out k hk)
       have HLO:Hid (out.length≤1073741824):=Lib.hid (by have:=HOL.out.1;have:=HL0.out;omega)
       have HWZ:Hid (w.heap.size≤y9.heap.size):=Lib.hid GR9.out.size
       have HPM:Hid (k50.M y9 w.heap.size (fun _=>False) (attN e.name ⟨1,sAuto,0,false⟩ false []) [.string e.name,.int .i64 0,.int .i64 0,.int .i64 0,.int .i64 1,.string sAuto,.int .u32 0,.bool false,.bool false,.slice none 0 0,.bool false,.string ⟨#[]⟩]):=Lib.hid (k50_mkM y9 w.heap.size _ (attN e.name ⟨1,sAuto,0,false⟩ false []) (Kd.R_nil _ _ _ _ _))
       go_wp2_with (first
        | (at_builtin;refine Kd.R_append k50 (w0:=y9) w.heap.size rfl (.tmp 122) (.tmp 124) 42 50 (.agg att0) 128 rfl Tryz.underlying42 infoAtt rfl (show 0<12 by decide) (by omega) (.slice Ao out.length co) out (attN e.name ⟨1,sAuto,0,false⟩ false []) [.string e.name,.int .i64 0,.int .i64 0,.int .i64 0,.int .i64 1,.string sAuto,.int .u32 0,.bool false,.bool false,.slice none 0 0,.bool false,.string ⟨#[]⟩] (fun _=>True) (fun _=>False) rfl rfl HPM.out (fun _ h=>h.elim) (fun _ _=>trivial) (Kd.R_mono ROW9.out (fun _ _=>trivial)) (Below.refl _ _) HWZ.out (by have:=HLO.out;omega) ?_;intro v1 z1 ho hb hg hat;obtain ⟨out2,hout2⟩:∃ o,o=out++[attN e.name ⟨1,sAuto,0,false⟩ false []]:=⟨_,rfl⟩;rw [← hout2] at ho;obtain ⟨Av,cv,rfl⟩:=RForm ho;have RO:=Lib.hid ho;have RG:=Lib.hid hg;have HO2:=Lib.hid hout2;clear ho hb hg hat hout2 c0 c1 c2 c3 c4 c5 c6 c7 c8 c9 c10 c11))
       have hbb:(bad||(b||false))=q:=by rw [Bool.or_false,HQ.out]
       exact ⟨⟨j + 1,out2,(b||false),by go_num,by omega,Lib.hid ⟨by rw [HO2.out,← HOL.out.2];exact (layL_go HX.out HLY.out).symm,grown_own GR9.out RG.out HOB.out,by rw [hbb];exact (RG.out.block wb (Array.getElem?_eq_some_iff.1 BK9.out).1 (fun h=>by have:=HOB.out wb h.symm;have:=HWL.out;omega)).trans BK9.out,RO.out,by rw [HO2.out,List.length_append];have:=HOL.out.1;simp;omega⟩⟩,by simp [intOf];omega⟩
      | false =>
       rw [hau] at a5
       have HLY:=Lib.hid (show layE rs obj l e=some (attN e.name ⟨2,⟨#[]⟩,e.num,false⟩ false [],false) from by rw [HLE.out,if_pos HIN.out];unfold layV badV;rw [if_pos hw1,if_pos hw1,hau];rfl)
       have hw:=hw1;clear hw1 hau;have HWX:=Lib.hid hw;clear hw
       go_upto_region 19 with (first
        | ((with_reducible refine gate_store (t:=48) (p:=71) rfl ?_);refine cells_ev rfl 48 _ _ rfl ab 4 [.int .i64 2,.string ⟨#[]⟩,.int .u32 e.num,.bool false] rfl rfl (by simp [Value.oneCell']) (thereR AT8.out (by simp)) (by kernel_rfl) ?_;intro y9 hw9;obtain ⟨hr9,hg9⟩:=row4 AT8.out hw9;have AT9:Hid (y9.heap[ab]?=some (.cells (attZ e.name 2 ⟨#[]⟩ e.num false (.slice none 0 0)) 50 (0,0))):=Lib.hid hr9;have G9:=Lib.hid hg9;clear hw9 hr9 hg9 a0 a4 a5 a6 b1 b4))
       have GR9:Hid (w.grownBy y9 (some wb)):=Lib.hid (grown_own GR8.out G9.out (fun k hk=>by injection hk with hk;have:=HNE.out;omega))
       have BK9:=Lib.hid ((G9.out.block wb (Array.getElem?_eq_some_iff.1 BK8.out).1 (fun h=>by injection h with h;have:=HNE.out;omega)).trans BK8.out)
       have ROW9:=Lib.hid (Kd.R_grown ROW8.out G9.out (fun k hk h=>by injection h with h;have:=HNE.out;omega))
       have X9:=Lib.hid ((G9.out.block xb (Array.getElem?_eq_some_iff.1 X8.out).1 (fun h=>by injection h with h;have:=HNE.out;omega)).trans X8.out)
       have E9:=Lib.hid ((G9.out.block wr.heap.size (Array.getElem?_eq_some_iff.1 E8.out).1 (fun h=>by injection h with h;have:=HNE.out;omega)).trans E8.out)
       have HZ9:Hid (Below wz.heap.size wz y9):=Lib.hid (HB.out.trans (belowG GR9.out HWB.out HB.out.size))
       have b4:y9.cell? ⟨xb,4,none⟩=some (.int .i64 1):=(cell_row X9.out 4).trans (by rw [← HWX.out];rfl)
       have c0:y9.cell? ⟨ab,0,none⟩=some (.string e.name):=(cell_row AT9.out 0).trans rfl
       have c1:y9.cell? ⟨ab,1,none⟩=some (.int .i64 0):=(cell_row AT9.out 1).trans rfl
       have c2:y9.cell? ⟨ab,2,none⟩=some (.int .i64 0):=(cell_row AT9.out 2).trans rfl
       have c3:y9.cell? ⟨ab,3,none⟩=some (.int .i64 0):=(cell_row AT9.out 3).trans rfl
       have c4:y9.cell? ⟨ab,4,none⟩=some (.int .i64 2):=(cell_row AT9.out 4).trans rfl
       have c5:y9.cell? ⟨ab,5,none⟩=some (.string ⟨#[]⟩):=(cell_row AT9.out 5).trans rfl
       have c6:y9.cell? ⟨ab,6,none⟩=some (.int .u32 e.num):=(cell_row AT9.out 6).trans rfl
       have c7:y9.cell? ⟨ab,7,none⟩=some (.bool false):=(cell_row AT9.out 7).trans rfl
       have c8:y9.cell? ⟨ab,8,none⟩=some (.bool false):=(cell_row AT9.out 8).trans rfl
       have c9:y9.cell? ⟨ab,9,none⟩=some (.slice none 0 0):=(cell_row AT9.out 9).trans rfl
       have c10:y9.cell? ⟨ab,10,none⟩=some (.bool false):=(cell_row AT9.out 10).trans rfl
       have c11:y9.cell? ⟨ab,11,none⟩=some (.string ⟨#[]⟩):=(cell_row AT9.out 11).trans rfl
       have HOB:Hid (∀ k,(Value.slice Ao out.length co).ownBlock=some k→w.heap.size≤k):=Lib.hid (fun k hk=>Kd.R_base ROW9.out k hk)
       have HLO:Hid (out.length≤1073741824):=Lib.hid (by have:=HOL.out.1;have:=HL0.out;omega)
       have HWZ:Hid (w.heap.size≤y9.heap.size):=Lib.hid GR9.out.size
       have HPM:Hid (k50.M y9 w.heap.size (fun _=>False) (attN e.name ⟨2,⟨#[]⟩,e.num,false⟩ false []) [.string e.name,.int .i64 0,.int .i64 0,.int .i64 0,.int .i64 2,.string ⟨#[]⟩,.int .u32 e.num,.bool false,.bool false,.slice none 0 0,.bool false,.string ⟨#[]⟩]):=Lib.hid (k50_mkM y9 w.heap.size _ (attN e.name ⟨2,⟨#[]⟩,e.num,false⟩ false []) (Kd.R_nil _ _ _ _ _))
       go_wp2_with (first
        | (at_builtin;refine Kd.R_append k50 (w0:=y9) w.heap.size rfl (.tmp 122) (.tmp 124) 42 50 (.agg att0) 128 rfl Tryz.underlying42 infoAtt rfl (show 0<12 by decide) (by omega) (.slice Ao out.length co) out (attN e.name ⟨2,⟨#[]⟩,e.num,false⟩ false []) [.string e.name,.int .i64 0,.int .i64 0,.int .i64 0,.int .i64 2,.string ⟨#[]⟩,.int .u32 e.num,.bool false,.bool false,.slice none 0 0,.bool false,.string ⟨#[]⟩] (fun _=>True) (fun _=>False) rfl rfl HPM.out (fun _ h=>h.elim) (fun _ _=>trivial) (Kd.R_mono ROW9.out (fun _ _=>trivial)) (Below.refl _ _) HWZ.out (by have:=HLO.out;omega) ?_;intro v1 z1 ho hb hg hat;obtain ⟨out2,hout2⟩:∃ o,o=out++[attN e.name ⟨2,⟨#[]⟩,e.num,false⟩ false []]:=⟨_,rfl⟩;rw [← hout2] at ho;obtain ⟨Av,cv,rfl⟩:=RForm ho;have RO:=Lib.hid ho;have RG:=Lib.hid hg;have HO2:=Lib.hid hout2;clear ho hb hg hat hout2 c0 c1 c2 c3 c4 c5 c6 c7 c8 c9 c10 c11))
       have hbb:(bad||(b||false))=q:=by rw [Bool.or_false,HQ.out]
       exact ⟨⟨j + 1,out2,(b||false),by go_num,by omega,Lib.hid ⟨by rw [HO2.out,← HOL.out.2];exact (layL_go HX.out HLY.out).symm,grown_own GR9.out RG.out HOB.out,by rw [hbb];exact (RG.out.block wb (Array.getElem?_eq_some_iff.1 BK9.out).1 (fun h=>by have:=HOB.out wb h.symm;have:=HWL.out;omega)).trans BK9.out,RO.out,by rw [HO2.out,List.length_append];have:=HOL.out.1;simp;omega⟩⟩,by simp [intOf];omega⟩
     ·by_cases hw4:x.want=4
      ·have b4:y8.cell? ⟨xb,4,none⟩=some (.int .i64 4):=(cell_row X8.out 4).trans (by rw [← hw4];rfl)
       have HIN:Hid ((innerR rs obj x e.name e.word).isEmpty=true):=Lib.hid (by unfold innerR;rw [if_neg (by rw [hw4];simp)];rfl)
       obtain ⟨rk,hrk⟩:∃ rk,stringB (bs e.word)=rk:=⟨_,rfl⟩
       have HLY:=Lib.hid (show layE rs obj l e=some (attN e.name ⟨3,e.word,0,false⟩ false [],!rk) from by rw [HLE.out,if_pos HIN.out];unfold layV badV;rw [if_neg hw1,if_pos hw4,if_neg hw1,if_pos hw4,hrk])
       have HSP:Hid (∀ W,Below wz.heap.size wz W→Calls Tryz.prog 75 #[.int .i64 3,.string e.word] W fun ev w'=>ev=.returned (.bool rk)∧Below W.heap.size W w'):=Lib.hid (fun W hW=>spelled_calls 3 e.word W (HG.out.below hW) rk ((spell_text' _).trans hrk))
       have HWX:=Lib.hid hw4
       clear hw1 hw4 hrk
       go_upto_region 18 with (first
        | ((with_reducible refine gate_store (t:=48) (p:=79) rfl ?_);refine cells_ev rfl 48 _ _ rfl ab 4 [.int .i64 3,.string e.word,.int .u32 0,.bool false] rfl rfl (by simp [Value.oneCell']) (thereR AT8.out (by simp)) (by kernel_rfl) ?_;intro y9 hw9;obtain ⟨hr9,hg9⟩:=row4 AT8.out hw9;have AT9:Hid (y9.heap[ab]?=some (.cells (attZ e.name 3 e.word 0 false (.slice none 0 0)) 50 (0,0))):=Lib.hid hr9;have G9:=Lib.hid hg9;clear hw9 hr9 hg9 a0 a4 a5 a6 b1 b4))
       have GR9:Hid (w.grownBy y9 (some wb)):=Lib.hid (grown_own GR8.out G9.out (fun k hk=>by injection hk with hk;have:=HNE.out;omega))
       have BK9:=Lib.hid ((G9.out.block wb (Array.getElem?_eq_some_iff.1 BK8.out).1 (fun h=>by injection h with h;have:=HNE.out;omega)).trans BK8.out)
       have ROW9:=Lib.hid (Kd.R_grown ROW8.out G9.out (fun k hk h=>by injection h with h;have:=HNE.out;omega))
       have X9:=Lib.hid ((G9.out.block xb (Array.getElem?_eq_some_iff.1 X8.out).1 (fun h=>by injection h with h;have:=HNE.out;omega)).trans X8.out)
       have E9:=Lib.hid ((G9.out.block wr.heap.size (Array.getElem?_eq_some_iff.1 E8.out).1 (fun h=>by injection h with h;have:=HNE.out;omega)).trans E8.out)
       have HZ9:Hid (Below wz.heap.size wz y9):=Lib.hid (HB.out.trans (belowG GR9.out HWB.out HB.out.size))
       have k2:y9.cell? ⟨wb,2,none⟩=some (.bool q):=(cell_row BK9.out 2).trans rfl
       have e6:y9.cell? ⟨wr.heap.size,6,none⟩=some (.string e.word):=(cell_row E9.out 6).trans rfl
       cases q with
       | true =>
        go_upto_region 19 with (first
         | ((with_reducible refine gate_store (t:=4) (p:=92) rfl ?_);refine cell_event rfl 4 _ _ rfl wb 2 (.bool true) rfl rfl rfl (thereR BK9.out (by simp)) (by kernel_rfl) wb (Nat.le_refl _) ?_;intro y11 hw7 hB7 hs7;obtain ⟨hr7,hk7,hz7⟩:=row1 BK9.out hw7;have BK11:Hid (y11.heap[wb]?=some (.cells (wrC rs A c true) 146 (0,0))):=Lib.hid hr7;have G7:Hid (y9.grownBy y11 (some wb)):=Lib.hid ⟨hB7.os,hB7.tape,hB7.output,hB7.size,fun k _ hne=>hk7 k (fun e=>hne (by rw [e]))⟩;clear hw7 hr7 hk7 hz7 hB7 hs7))
        have G11:=G7
        clear k2 e6
        have GR11:Hid (w.grownBy y11 (some wb)):=Lib.hid (GR9.out.trans G11.out)
        have AT11:=Lib.hid ((G11.out.block ab (Array.getElem?_eq_some_iff.1 AT9.out).1 (fun h=>by injection h with h;have:=HNE.out;omega)).trans AT9.out)
        have ROW11:=Lib.hid (Kd.R_grown ROW9.out G11.out (fun k hk h=>by injection h with h;have:=HWL.out;omega))
        have X11:=Lib.hid ((G11.out.block xb (Array.getElem?_eq_some_iff.1 X9.out).1 (fun h=>by injection h with h;have:=HNE.out;omega)).trans X9.out)
        have E11:=Lib.hid ((G11.out.block wr.heap.size (Array.getElem?_eq_some_iff.1 E9.out).1 (fun h=>by injection h with h;have:=HNE.out;omega)).trans E9.out)
        have HZ11:Hid (Below wz.heap.size wz y11):=Lib.hid (HB.out.trans (belowG GR11.out HWB.out HB.out.size))
        clear G11 GR9 AT9 ROW9 X9 E9 BK9 HZ9
        have b4:y11.cell? ⟨xb,4,none⟩=some (.int .i64 4):=(cell_row X11.out 4).trans (by rw [← HWX.out];rfl)
        have c0:y11.cell? ⟨ab,0,none⟩=some (.string e.name):=(cell_row AT11.out 0).trans rfl
        have c1:y11.cell? ⟨ab,1,none⟩=some (.int .i64 0):=(cell_row AT11.out 1).trans rfl
        have c2:y11.cell? ⟨ab,2,none⟩=some (.int .i64 0):=(cell_row AT11.out 2).trans rfl
        have c3:y11.cell? ⟨ab,3,none⟩=some (.int .i64 0):=(cell_row AT11.out 3).trans rfl
        have c4:y11.cell? ⟨ab,4,none⟩=some (.int .i64 3):=(cell_row AT11.out 4).trans rfl
        have c5:y11.cell? ⟨ab,5,none⟩=some (.string e.word):=(cell_row AT11.out 5).trans rfl
        have c6:y11.cell? ⟨ab,6,none⟩=some (.int .u32 0):=(cell_row AT11.out 6).trans rfl
        have c7:y11.cell? ⟨ab,7,none⟩=some (.bool false):=(cell_row AT11.out 7).trans rfl
        have c8:y11.cell? ⟨ab,8,none⟩=some (.bool false):=(cell_row AT11.out 8).trans rfl
        have c9:y11.cell? ⟨ab,9,none⟩=some (.slice none 0 0):=(cell_row AT11.out 9).trans rfl
        have c10:y11.cell? ⟨ab,10,none⟩=some (.bool false):=(cell_row AT11.out 10).trans rfl
        have c11:y11.cell? ⟨ab,11,none⟩=some (.string ⟨#[]⟩):=(cell_row AT11.out 11).trans rfl
        have HOB:Hid (∀ k,(Value.slice Ao out.length co).ownBlock=some k→w.heap.size≤k):=Lib.hid (fun k hk=>Kd.R_base ROW11.out k hk)
        have HLO:Hid (out.length≤1073741824):=Lib.hid (by have:=HOL.out.1;have:=HL0.out;omega)
        have HWZ:Hid (w.heap.size≤y11.heap.size):=Lib.hid GR11.out.size
        have HPM:Hid (k50.M y11 w.heap.size (fun _=>False) (attN e.name ⟨3,e.word,0,false⟩ false []) [.string e.name,.int .i64 0,.int .i64 0,.int .i64 0,.int .i64 3,.string e.word,.int .u32 0,.bool false,.bool false,.slice none 0 0,.bool false,.string ⟨#[]⟩]):=Lib.hid (k50_mkM y11 w.heap.size _ (attN e.name ⟨3,e.word,0,false⟩ false []) (Kd.R_nil _ _ _ _ _))
        go_wp2_with (first
         | (at_builtin;refine Kd.R_append k50 (w0:=y11) w.heap.size rfl (.tmp 122) (.tmp 124) 42 50 (.agg att0) 128 rfl Tryz.underlying42 infoAtt rfl (show 0<12 by decide) (by omega) (.slice Ao out.length co) out (attN e.name ⟨3,e.word,0,false⟩ false []) [.string e.name,.int .i64 0,.int .i64 0,.int .i64 0,.int .i64 3,.string e.word,.int .u32 0,.bool false,.bool false,.slice none 0 0,.bool false,.string ⟨#[]⟩] (fun _=>True) (fun _=>False) rfl rfl HPM.out (fun _ h=>h.elim) (fun _ _=>trivial) (Kd.R_mono ROW11.out (fun _ _=>trivial)) (Below.refl _ _) HWZ.out (by have:=HLO.out;omega) ?_;intro v1 z1 ho hb hg hat;obtain ⟨out2,hout2⟩:∃ o,o=out++[attN e.name ⟨3,e.word,0,false⟩ false []]:=⟨_,rfl⟩;rw [← hout2] at ho;obtain ⟨Av,cv,rfl⟩:=RForm ho;have RO:=Lib.hid ho;have RG:=Lib.hid hg;have HO2:=Lib.hid hout2;clear ho hb hg hat hout2 c0 c1 c2 c3 c4 c5 c6 c7 c8 c9 c10 c11))
        have hbb:(bad||(b||(!rk)))=true:=(by rw [← Bool.or_assoc,HQ.out];rfl)
        exact ⟨⟨j + 1,out2,(b||(!rk)),by go_num,by omega,Lib.hid ⟨by rw [HO2.out,← HOL.out.2];exact (layL_go HX.out HLY.out).symm,grown_own GR11.out RG.out HOB.out,by rw [hbb];exact (RG.out.block wb (Array.getElem?_eq_some_iff.1 BK11.out).1 (fun h=>by have:=HOB.out wb h.symm;have:=HWL.out;omega)).trans BK11.out,RO.out,by rw [HO2.out,List.length_append];have:=HOL.out.1;simp;omega⟩⟩,by simp [intOf];omega⟩
       | false =>
        go_upto_region 19 with (first
         | (go_at_call 75;refine (HSP.out y9 HZ9.out).mono ?_;rintro ev y10 ⟨rfl,hB10⟩;have B10:=Lib.hid hB10;have BK10:=Lib.hid ((B10.out.block wb (Array.getElem?_eq_some_iff.1 BK9.out).1).trans BK9.out);clear hB10 k2 e6)
         | ((with_reducible refine gate_store (t:=4) (p:=92) rfl ?_);refine cell_event rfl 4 _ _ rfl wb 2 (.bool (!rk)) rfl rfl rfl (thereR BK10.out (by simp)) (by kernel_rfl) wb (Nat.le_refl _) ?_;intro y11 hw7 hB7 hs7;obtain ⟨hr7,hk7,hz7⟩:=row1 BK10.out hw7;have BK11:Hid (y11.heap[wb]?=some (.cells (wrC rs A c (!rk)) 146 (0,0))):=Lib.hid hr7;have G7:Hid (y10.grownBy y11 (some wb)):=Lib.hid ⟨hB7.os,hB7.tape,hB7.output,hB7.size,fun k _ hne=>hk7 k (fun e=>hne (by rw [e]))⟩;clear hw7 hr7 hk7 hz7 hB7 hs7))
        have G11:Hid (y9.grownBy y11 (some wb)):=Lib.hid ((below_grown (r:=some wb) B10.out).trans G7.out)
        have GR11:Hid (w.grownBy y11 (some wb)):=Lib.hid (GR9.out.trans G11.out)
        have AT11:=Lib.hid ((G11.out.block ab (Array.getElem?_eq_some_iff.1 AT9.out).1 (fun h=>by injection h with h;have:=HNE.out;omega)).trans AT9.out)
        have ROW11:=Lib.hid (Kd.R_grown ROW9.out G11.out (fun k hk h=>by injection h with h;have:=HWL.out;omega))
        have X11:=Lib.hid ((G11.out.block xb (Array.getElem?_eq_some_iff.1 X9.out).1 (fun h=>by injection h with h;have:=HNE.out;omega)).trans X9.out)
        have E11:=Lib.hid ((G11.out.block wr.heap.size (Array.getElem?_eq_some_iff.1 E9.out).1 (fun h=>by injection h with h;have:=HNE.out;omega)).trans E9.out)
        have HZ11:Hid (Below wz.heap.size wz y11):=Lib.hid (HB.out.trans (belowG GR11.out HWB.out HB.out.size))
        clear G11 GR9 AT9 ROW9 X9 E9 BK9 HZ9
        have b4:y11.cell? ⟨xb,4,none⟩=some (.int .i64 4):=(cell_row X11.out 4).trans (by rw [← HWX.out];rfl)
        have c0:y11.cell? ⟨ab,0,none⟩=some (.string e.name):=(cell_row AT11.out 0).trans rfl
        have c1:y11.cell? ⟨ab,1,none⟩=some (.int .i64 0):=(cell_row AT11.out 1).trans rfl
        have c2:y11.cell? ⟨ab,2,none⟩=some (.int .i64 0):=(cell_row AT11.out 2).trans rfl
        have c3:y11.cell? ⟨ab,3,none⟩=some (.int .i64 0):=(cell_row AT11.out 3).trans rfl
        have c4:y11.cell? ⟨ab,4,none⟩=some (.int .i64 3):=(cell_row AT11.out 4).trans rfl
        have c5:y11.cell? ⟨ab,5,none⟩=some (.string e.word):=(cell_row AT11.out 5).trans rfl
        have c6:y11.cell? ⟨ab,6,none⟩=some (.int .u32 0):=(cell_row AT11.out 6).trans rfl
        have c7:y11.cell? ⟨ab,7,none⟩=some (.bool false):=(cell_row AT11.out 7).trans rfl
        have c8:y11.cell? ⟨ab,8,none⟩=some (.bool false):=(cell_row AT11.out 8).trans rfl
        have c9:y11.cell? ⟨ab,9,none⟩=some (.slice none 0 0):=(cell_row AT11.out 9).trans rfl
        have c10:y11.cell? ⟨ab,10,none⟩=some (.bool false):=(cell_row AT11.out 10).trans rfl
        have c11:y11.cell? ⟨ab,11,none⟩=some (.string ⟨#[]⟩):=(cell_row AT11.out 11).trans rfl
        have HOB:Hid (∀ k,(Value.slice Ao out.length co).ownBlock=some k→w.heap.size≤k):=Lib.hid (fun k hk=>Kd.R_base ROW11.out k hk)
        have HLO:Hid (out.length≤1073741824):=Lib.hid (by have:=HOL.out.1;have:=HL0.out;omega)
        have HWZ:Hid (w.heap.size≤y11.heap.size):=Lib.hid GR11.out.size
        have HPM:Hid (k50.M y11 w.heap.size (fun _=>False) (attN e.name ⟨3,e.word,0,false⟩ false []) [.string e.name,.int .i64 0,.int .i64 0,.int .i64 0,.int .i64 3,.string e.word,.int .u32 0,.bool false,.bool false,.slice none 0 0,.bool false,.string ⟨#[]⟩]):=Lib.hid (k50_mkM y11 w.heap.size _ (attN e.name ⟨3,e.word,0,false⟩ false []) (Kd.R_nil _ _ _ _ _))
        go_wp2_with (first
         | (at_builtin;refine Kd.R_append k50 (w0:=y11) w.heap.size rfl (.tmp 122) (.tmp 124) 42 50 (.agg att0) 128 rfl Tryz.underlying42 infoAtt rfl (show 0<12 by decide) (by omega) (.slice Ao out.length co) out (attN e.name ⟨3,e.word,0,false⟩ false []) [.string e.name,.int .i64 0,.int .i64 0,.int .i64 0,.int .i64 3,.string e.word,.int .u32 0,.bool false,.bool false,.slice none 0 0,.bool false,.string ⟨#[]⟩] (fun _=>True) (fun _=>False) rfl rfl HPM.out (fun _ h=>h.elim) (fun _ _=>trivial) (Kd.R_mono ROW11.out (fun _ _=>trivial)) (Below.refl _ _) HWZ.out (by have:=HLO.out;omega) ?_;intro v1 z1 ho hb hg hat;obtain ⟨out2,hout2⟩:∃ o,o=out++[attN e.name ⟨3,e.word,0,false⟩ false []]:=⟨_,rfl⟩;rw [← hout2] at ho;obtain ⟨Av,cv,rfl⟩:=RForm ho;have RO:=Lib.hid ho;have RG:=Lib.hid hg;have HO2:=Lib.hid hout2;clear ho hb hg hat hout2 c0 c1 c2 c3 c4 c5 c6 c7 c8 c9 c10 c11))
        have hbb:(bad||(b||(!rk)))=(!rk):=(by rw [← Bool.or_assoc,HQ.out];rfl)
        exact ⟨⟨j + 1,out2,(b||(!rk)),by go_num,by omega,Lib.hid ⟨by rw [HO2.out,← HOL.out.2];exact (layL_go HX.out HLY.out).symm,grown_own GR11.out RG.out HOB.out,by rw [hbb];exact (RG.out.block wb (Array.getElem?_eq_some_iff.1 BK11.out).1 (fun h=>by have:=HOB.out wb h.symm;have:=HWL.out;omega)).trans BK11.out,RO.out,by rw [HO2.out,List.length_append];have:=HOL.out.1;simp;omega⟩⟩,by simp [intOf];omega⟩
      ·have hw1b:(x.want == 1)=false:=by simp [hw1]
       have hw4b:(x.want == 4)=false:=by simp [hw4]
       have b4:y8.cell? ⟨xb,4,none⟩=some (.int .i64 x.want):=(cell_row X8.out 4).trans rfl
       obtain ⟨rk,hrk⟩:∃ rk,nameB (bs e.word)=rk:=⟨_,rfl⟩
       have HLV:Hid (layV x e.num e.auto e.word=⟨1,e.word,0,false⟩∧badV x e.word=!rk):=Lib.hid ⟨by unfold layV;rw [if_neg hw1,if_neg hw4],by unfold badV;rw [if_neg hw1,if_neg hw4,hrk]⟩
       rw [HLV.out.1,HLV.out.2] at HLE
       have HSP:Hid (∀ W,Below wz.heap.size wz W→Calls Tryz.prog 75 #[.int .i64 1,.string e.word] W fun ev w'=>ev=.returned (.bool rk)∧Below W.heap.size W w'):=Lib.hid (fun W hW=>spelled_calls 1 e.word W (HG.out.below hW) rk ((spell_name' _).trans hrk))
       have HWX:=Lib.hid hw4
       clear hw1 hw4 hrk
       go_upto_region 11 with (first
        | ((with_reducible refine gate_store (t:=48) (p:=40) rfl ?_);refine cells_ev rfl 48 _ _ rfl ab 4 [.int .i64 1,.string e.word,.int .u32 0,.bool false] rfl rfl (by simp [Value.oneCell']) (thereR AT8.out (by simp)) (by kernel_rfl) ?_;intro y9 hw9;obtain ⟨hr9,hg9⟩:=row4 AT8.out hw9;have AT9:Hid (y9.heap[ab]?=some (.cells (attZ e.name 1 e.word 0 false (.slice none 0 0)) 50 (0,0))):=Lib.hid hr9;have G9:=Lib.hid hg9;clear hw9 hr9 hg9 a0 a4 a5 a6 b1 b4 hw1b hw4b))
       have GR9:Hid (w.grownBy y9 (some wb)):=Lib.hid (grown_own GR8.out G9.out (fun k hk=>by injection hk with hk;have:=HNE.out;omega))
       have BK9:=Lib.hid ((G9.out.block wb (Array.getElem?_eq_some_iff.1 BK8.out).1 (fun h=>by injection h with h;have:=HNE.out;omega)).trans BK8.out)
       have ROW9:=Lib.hid (Kd.R_grown ROW8.out G9.out (fun k hk h=>by injection h with h;have:=HNE.out;omega))
       have X9:=Lib.hid ((G9.out.block xb (Array.getElem?_eq_some_iff.1 X8.out).1 (fun h=>by injection h with h;have:=HNE.out;omega)).trans X8.out)
       have E9:=Lib.hid ((G9.out.block wr.heap.size (Array.getElem?_eq_some_iff.1 E8.out).1 (fun h=>by injection h with h;have:=HNE.out;omega)).trans E8.out)
       have HZ9:Hid (Below wz.heap.size wz y9):=Lib.hid (HB.out.trans (belowG GR9.out HWB.out HB.out.size))
       have k2:y9.cell? ⟨wb,2,none⟩=some (.bool q):=(cell_row BK9.out 2).trans rfl
       have e6:y9.cell? ⟨wr.heap.size,6,none⟩=some (.string e.word):=(cell_row E9.out 6).trans rfl
       cases q with
       | true =>
        go_upto_region 19 with (first
         | ((with_reducible refine gate_store (t:=4) (p:=53) rfl ?_);refine cell_event rfl 4 _ _ rfl wb 2 (.bool true) rfl rfl rfl (thereR BK9.out (by simp)) (by kernel_rfl) wb (Nat.le_refl _) ?_;intro y11 hw7 hB7 hs7;obtain ⟨hr7,hk7,hz7⟩:=row1 BK9.out hw7;have BK11:Hid (y11.heap[wb]?=some (.cells (wrC rs A c true) 146 (0,0))):=Lib.hid hr7;have G7:Hid (y9.grownBy y11 (some wb)):=Lib.hid ⟨hB7.os,hB7.tape,hB7.output,hB7.size,fun k _ hne=>hk7 k (fun e=>hne (by rw [e]))⟩;clear hw7 hr7 hk7 hz7 hB7 hs7))
        have G11:=G7
        clear k2 e6
        have GR11:Hid (w.grownBy y11 (some wb)):=Lib.hid (GR9.out.trans G11.out)
        have AT11:=Lib.hid ((G11.out.block ab (Array.getElem?_eq_some_iff.1 AT9.out).1 (fun h=>by injection h with h;have:=HNE.out;omega)).trans AT9.out)
        have ROW11:=Lib.hid (Kd.R_grown ROW9.out G11.out (fun k hk h=>by injection h with h;have:=HWL.out;omega))
        have X11:=Lib.hid ((G11.out.block xb (Array.getElem?_eq_some_iff.1 X9.out).1 (fun h=>by injection h with h;have:=HNE.out;omega)).trans X9.out)
        have E11:=Lib.hid ((G11.out.block wr.heap.size (Array.getElem?_eq_some_iff.1 E9.out).1 (fun h=>by injection h with h;have:=HNE.out;omega)).trans E9.out)
        have HZ11:Hid (Below wz.heap.size wz y11):=Lib.hid (HB.out.trans (belowG GR11.out HWB.out HB.out.size))
        clear G11 GR9 AT9 ROW9 X9 E9 BK9 HZ9
        have b1:y11.cell? ⟨xb,1,none⟩=some (.string x.un):=(cell_row X11.out 1).trans rfl
        have b4:y11.cell? ⟨xb,4,none⟩=some (.int .i64 x.want):=(cell_row X11.out 4).trans rfl
        by_cases hw2:x.want=2
        ·rw [hw2] at b4
         by_cases hun:x.un=⟨#[]⟩
         ·rw [hun] at b1
          obtain ⟨I,hI⟩:∃ I,underR rs obj e.name e.word=I:=⟨_,rfl⟩
          have HIN:Hid (innerR rs obj x e.name e.word=I):=Lib.hid (by unfold innerR;rw [if_pos ⟨hw2,hun⟩,hI])
          rw [HIN.out] at HLE
          have HIL2:Hid (I.length≤1000):=Lib.hid (by rw [← hI];exact Nat.le_trans (under_len _ _ _ _) HRS.out)
          have HBH:Hid (∀ W,Below y11.heap.size y11 W→Calls Tryz.prog 67 #[.pointer (some ⟨wb,0,none⟩),.string obj,.string e.name,.string e.word] W fun ev w'=>(∃ v,ev=.returned v∧Kd.R (Kd.fixed kRow wz) 60 w' W.heap.size (fun _=>True) v I)∧Below W.heap.size W w'):=Lib.hid (fun W hW=>by rw [← hI];exact behindz_calls wb rs A c obj e.name e.word wz W (HZ11.out.trans (hW.mono HZ11.out.size)) ((hW.cell (Array.getElem?_eq_some_iff.1 BK11.out).1).trans ((cell_row BK11.out 0).trans rfl)) HCR.out HRS.out)
          clear hw2 hun hI
          go_upto_region 20 with fail
          clear b1 b4
          have e0:y11.cell? ⟨wr.heap.size,0,none⟩=some (.string e.name):=(cell_row E11.out 0).trans rfl
          have e6:y11.cell? ⟨wr.heap.size,6,none⟩=some (.string e.word):=(cell_row E11.out 6).trans rfl
          go_region_held3 (fun W=>W.cell? ⟨wr.heap.size,0,none⟩=some (.string e.name)∧W.cell? ⟨wr.heap.size,6,none⟩=some (.string e.word)) (first | exact ⟨e0,e6⟩ | exact ⟨p0,p6⟩ | assumption) (first
           | (go_at_call 67;refine (HBH.out _ (Below.refl _ _).drew).mono ?_;rintro ev y12 ⟨⟨v8,rfl,hR8⟩,hB8⟩;obtain ⟨Ai,ci,rfl⟩:=RForm hR8;have B12:Hid (Below y11.heap.size y11 y12):=Lib.hid ((Below.refl _ _).drew.trans hB8);have R12:Hid (Kd.R (Kd.fixed kRow wz) 60 y12 y11.heap.size (fun _=>True) (.slice Ai I.length ci) I):=Lib.hid hR8;have p0:=(hB8.cell (World.block_lt_of_cell? y11 _ e0)).trans e0;have p6:=(hB8.cell (World.block_lt_of_cell? y11 _ e6)).trans e6;clear hR8 hB8))
          clear e0 e6 p0 p6 HBH
          have GR12:Hid (w.grownBy y12 (some wb)):=Lib.hid (GR11.out.trans (below_grown (r:=some wb) B12.out))
          have BK12:=Lib.hid ((B12.out.block wb (Array.getElem?_eq_some_iff.1 BK11.out).1).trans BK11.out)
          have AT12:=Lib.hid ((B12.out.block ab (Array.getElem?_eq_some_iff.1 AT11.out).1).trans AT11.out)
          have E12:=Lib.hid ((B12.out.block wr.heap.size (Array.getElem?_eq_some_iff.1 E11.out).1).trans E11.out)
          have ROW12:=Lib.hid (Kd.R_below ROW11.out B12.out)
          have HZ12:Hid (Below wz.heap.size wz y12):=Lib.hid (HB.out.trans (belowG GR12.out HWB.out HB.out.size))
          have HS12:Hid (wr.heap.size<y11.heap.size∧y11.heap.size≤y12.heap.size):=Lib.hid ⟨(Array.getElem?_eq_some_iff.1 E11.out).1,B12.out.size⟩
          clear GR11 BK11 AT11 E11 X11 ROW11 HZ11 B12
          obtain ⟨nI,hnI⟩:∃ nI,I.length=nI:=⟨_,rfl⟩
          rw [hnI] at R12 HIL2 ⊢
          have HNI:=Lib.hid hnI
          clear hnI
          by_cases h0:nI=0
          ·subst h0
           have HLY:Hid (layE rs obj l e=some (attN e.name ⟨1,e.word,0,false⟩ false [],!rk)):=Lib.hid (by rw [HLE.out,if_pos (by rw [List.eq_nil_of_length_eq_zero HNI.out];rfl)])
           have c0:y12.cell? ⟨ab,0,none⟩=some (.string e.name):=(cell_row AT12.out 0).trans rfl
           have c1:y12.cell? ⟨ab,1,none⟩=some (.int .i64 0):=(cell_row AT12.out 1).trans rfl
           have c2:y12.cell? ⟨ab,2,none⟩=some (.int .i64 0):=(cell_row AT12.out 2).trans rfl
           have c3:y12.cell? ⟨ab,3,none⟩=some (.int .i64 0):=(cell_row AT12.out 3).trans rfl
           have c4:y12.cell? ⟨ab,4,none⟩=some (.int .i64 1):=(cell_row AT12.out 4).trans rfl
           have c5:y12.cell? ⟨ab,5,none⟩=some (.string e.word):=(cell_row AT12.out 5).trans rfl
           have c6:y12.cell? ⟨ab,6,none⟩=some (.int .u32 0):=(cell_row AT12.out 6).trans rfl
           have c7:y12.cell? ⟨ab,7,none⟩=some (.bool false):=(cell_row AT12.out 7).trans rfl
           have c8:y12.cell? ⟨ab,8,none⟩=some (.bool false):=(cell_row AT12.out 8).trans rfl
           have c9:y12.cell? ⟨ab,9,none⟩=some (.slice none 0 0):=(cell_row AT12.out 9).trans rfl
           have c10:y12.cell? ⟨ab,10,none⟩=some (.bool false):=(cell_row AT12.out 10).trans rfl
           have c11:y12.cell? ⟨ab,11,none⟩=some (.string ⟨#[]⟩):=(cell_row AT12.out 11).trans rfl
           have HOB:Hid (∀ k,(Value.slice Ao out.length co).ownBlock=some k→w.heap.size≤k):=Lib.hid (fun k hk=>Kd.R_base ROW12.out k hk)
           have HLO:Hid (out.length≤1073741824):=Lib.hid (by have:=HOL.out.1;have:=HL0.out;omega)
           have HWZ:Hid (w.heap.size≤y12.heap.size):=Lib.hid GR12.out.size
           have HPM:Hid (k50.M y12 w.heap.size (fun _=>False) (attN e.name ⟨1,e.word,0,false⟩ false []) [.string e.name,.int .i64 0,.int .i64 0,.int .i64 0,.int .i64 1,.string e.word,.int .u32 0,.bool false,.bool false,.slice none 0 0,.bool false,.string ⟨#[]⟩]):=Lib.hid (k50_mkM y12 w.heap.size _ (attN e.name ⟨1,e.word,0,false⟩ false []) (Kd.R_nil _ _ _ _ _))
           go_wp2_with (first
            | (at_builtin;refine Kd.R_append k50 (w0:=y12) w.heap.size rfl (.tmp 122) (.tmp 124) 42 50 (.agg att0) 128 rfl Tryz.underlying42 infoAtt rfl (show 0<12 by decide) (by omega) (.slice Ao out.length co) out (attN e.name ⟨1,e.word,0,false⟩ false []) [.string e.name,.int .i64 0,.int .i64 0,.int .i64 0,.int .i64 1,.string e.word,.int .u32 0,.bool false,.bool false,.slice none 0 0,.bool false,.string ⟨#[]⟩] (fun _=>True) (fun _=>False) rfl rfl HPM.out (fun _ h=>h.elim) (fun _ _=>trivial) (Kd.R_mono ROW12.out (fun _ _=>trivial)) (Below.refl _ _) HWZ.out (by have:=HLO.out;omega) ?_;intro v1 z1 ho hb hg hat;obtain ⟨out2,hout2⟩:∃ o,o=out++[attN e.name ⟨1,e.word,0,false⟩ false []]:=⟨_,rfl⟩;rw [← hout2] at ho;obtain ⟨Av,cv,rfl⟩:=RForm ho;have RO:=Lib.hid ho;have RG:=Lib.hid hg;have HO2:=Lib.hid hout2;clear ho hb hg hat hout2 c0 c1 c2 c3 c4 c5 c6 c7 c8 c9 c10 c11))
           have hbb:(bad||(b||(!rk)))=true:=(by rw [← Bool.or_assoc,HQ.out];rfl)
           exact ⟨⟨j + 1,out2,(b||(!rk)),by go_num,by omega,Lib.hid ⟨by rw [HO2.out,← HOL.out.2];exact (layL_go HX.out HLY.out).symm,grown_own GR12.out RG.out HOB.out,by rw [hbb];exact (RG.out.block wb (Array.getElem?_eq_some_iff.1 BK12.out).1 (fun h=>by have:=HOB.out wb h.symm;have:=HWL.out;omega)).trans BK12.out,RO.out,by rw [HO2.out,List.length_append];have:=HOL.out.1;simp;omega⟩⟩,by simp [intOf];omega⟩
          ·have HNE0:Hid (I.isEmpty=false):=Lib.hid (by cases I with
            | nil=>exact absurd HNI.out.symm h0
            | cons q r=>rfl)
           obtain ⟨rL,hrL⟩:∃ rL,layL rs obj I [] false e.params=rL:=⟨_,rfl⟩
           have HLY:Hid (layE rs obj l e=some (attN e.name ⟨1,e.word,0,false⟩ true rL.1,!rk||rL.2)):=Lib.hid (by rw [HLE.out,if_neg (by rw [HNE0.out];simp),hrL])
           have HAT:Hid (Calls Tryz.prog 76 #[.pointer (some ⟨wb,0,none⟩),.string obj,.slice Ai nI ci,.slice A7 e.params.length c7] y12 (WPost rs rL wb A c true y12)):=Lib.hid (by
            have hsz:=szE_eq e
            have h:=IH.out (szEs e.params) (by have:=HSE.out;have:=HM.out;omega) e.params obj I wb y11.heap.size A c Ai ci A7 c7 true wz y12 (Nat.le_refl _) (by have:=HSE.out;have:=HM2.out;omega) HZ12.out HWB.out BK12.out HCR.out HRS.out (by rw [HNI.out];exact Kd.R_mono (Kd.R_bound R12.out) (fun k hk=>by have:=hk.2.1;have:=HS12.out;have:=HWR.out;omega)) (by rw [HNI.out];exact HIL2.out) HC7.out HG.out
            rw [HNI.out,hrL] at h
            exact h)
           clear hrL
           have hnp:(0:Int)<(nI:Int):=by omega
           have e7:y12.cell? ⟨wr.heap.size,7,none⟩=some (.slice A7 e.params.length c7):=(cell_row E12.out 7).trans rfl
           go_upto_region 23 with (first
            | (go_at_call 76;refine HAT.out.mono ?_;rintro ev y13 ⟨hg13,hb13,v13,rfl,hR13⟩;obtain ⟨Ap,cp,rfl⟩:=RForm hR13;have G13:=Lib.hid hg13;have BK13:=Lib.hid hb13;have R13:=Lib.hid hR13;have AT13:=Lib.hid ((G13.out.block ab (Array.getElem?_eq_some_iff.1 AT12.out).1 (fun h=>by injection h with h;have:=HNE.out;omega)).trans AT12.out);clear hg13 hb13 hR13 e7)
            | ((with_reducible refine gate_store (t:=4) (p:=120) rfl ?_);refine cell_event rfl 4 _ _ rfl ab 8 (.bool true) rfl rfl rfl (thereR AT13.out (by simp)) (by kernel_rfl) ab (Nat.le_refl _) ?_;intro y14 hw7 hB7 hs7;obtain ⟨hr7,hk7,hz7⟩:=row1 AT13.out hw7;have AT14:Hid (y14.heap[ab]?=some (.cells (attZ e.name 1 e.word 0 true (.slice none 0 0)) 50 (0,0))):=Lib.hid hr7;have G14:Hid (y13.grownBy y14 (some ab)):=Lib.hid ⟨hB7.os,hB7.tape,hB7.output,hB7.size,fun k _ hne=>hk7 k (fun e=>hne (by rw [e]))⟩;clear hw7 hr7 hk7 hz7 hB7 hs7)
            | ((with_reducible refine gate_store (t:=42) (p:=121) rfl ?_);refine cell_event rfl 42 _ _ rfl ab 9 (.slice Ap rL.1.length cp) rfl rfl rfl (thereR AT14.out (by simp)) (by kernel_rfl) ab (Nat.le_refl _) ?_;intro y15 hw7 hB7 hs7;obtain ⟨hr7,hk7,hz7⟩:=row1 AT14.out hw7;have AT15:Hid (y15.heap[ab]?=some (.cells (attZ e.name 1 e.word 0 true (.slice Ap rL.1.length cp)) 50 (0,0))):=Lib.hid hr7;have G15:Hid (y13.grownBy y15 (some ab)):=Lib.hid (G14.out.trans ⟨hB7.os,hB7.tape,hB7.output,hB7.size,fun k _ hne=>hk7 k (fun e=>hne (by rw [e]))⟩);clear hw7 hr7 hk7 hz7 hB7 hs7))
           have GR15:Hid (w.grownBy y15 (some wb)):=Lib.hid (grown_own (GR12.out.trans G13.out) G15.out (fun k hk=>by injection hk with hk;have:=HNE.out;omega))
           have BK15:Hid (y15.heap[wb]?=some (.cells (wrC rs A c (true||rL.2)) 146 (0,0))):=Lib.hid ((G15.out.block wb (Array.getElem?_eq_some_iff.1 BK13.out).1 (fun h=>by injection h with h;have:=HNE.out;omega)).trans BK13.out)
           have ROW15:=Lib.hid (Kd.R_grown (Kd.R_grown ROW12.out G13.out (fun k hk h=>by injection h with h;have:=HWL.out;omega)) G15.out (fun k hk h=>by injection h with h;have:=HNE.out;omega))
           have HAB:Hid (ab<y12.heap.size):=Lib.hid (Array.getElem?_eq_some_iff.1 AT12.out).1
           have R15:Hid (Kd.R k50 50 y15 w.heap.size (fun k=>y12.heap.size≤k) (.slice Ap rL.1.length cp) rL.1):=Lib.hid (Kd.R_grown (Kd.R_lower (Kd.R_mono (Kd.R_bound R13.out) (fun k hk=>hk.2.1)) (by have:=GR12.out.size;omega)) G15.out (fun k hk h=>by injection h with h;have:=HAB.out;omega))
           clear GR12 BK12 AT12 E12 R12 G13 BK13 AT13 G14 AT14 G15 ROW12 R13
           have HOKP:Hid (∀ k,y12.heap.size≤k→True∧some k≠(Value.slice Ao out.length co).ownBlock):=Lib.hid (fun k hk=>⟨trivial,fun h=>by have:=ROW15.out.1 k h.symm;have:=HS12.out;omega⟩)
           clear hnp h0
           have c0:y15.cell? ⟨ab,0,none⟩=some (.string e.name):=(cell_row AT15.out 0).trans rfl
           have c1:y15.cell? ⟨ab,1,none⟩=some (.int .i64 0):=(cell_row AT15.out 1).trans rfl
           have c2:y15.cell? ⟨ab,2,none⟩=some (.int .i64 0):=(cell_row AT15.out 2).trans rfl
           have c3:y15.cell? ⟨ab,3,none⟩=some (.int .i64 0):=(cell_row AT15.out 3).trans rfl
           have c4:y15.cell? ⟨ab,4,none⟩=some (.int .i64 1):=(cell_row AT15.out 4).trans rfl
           have c5:y15.cell? ⟨ab,5,none⟩=some (.string e.word):=(cell_row AT15.out 5).trans rfl
           have c6:y15.cell? ⟨ab,6,none⟩=some (.int .u32 0):=(cell_row AT15.out 6).trans rfl
           have c7:y15.cell? ⟨ab,7,none⟩=some (.bool false):=(cell_row AT15.out 7).trans rfl
           have c8:y15.cell? ⟨ab,8,none⟩=some (.bool true):=(cell_row AT15.out 8).trans rfl
           have c9:y15.cell? ⟨ab,9,none⟩=some (.slice Ap rL.1.length cp):=(cell_row AT15.out 9).trans rfl
           have c10:y15.cell? ⟨ab,10,none⟩=some (.bool false):=(cell_row AT15.out 10).trans rfl
           have c11:y15.cell? ⟨ab,11,none⟩=some (.string ⟨#[]⟩):=(cell_row AT15.out 11).trans rfl
           have HOB:Hid (∀ k,(Value.slice Ao out.length co).ownBlock=some k→w.heap.size≤k):=Lib.hid (fun k hk=>Kd.R_base ROW15.out k hk)
           have HLO:Hid (out.length≤1073741824):=Lib.hid (by have:=HOL.out.1;have:=HL0.out;omega)
           have HWZ:Hid (w.heap.size≤y15.heap.size):=Lib.hid GR15.out.size
           have HPM:Hid (k50.M y15 w.heap.size (fun k=>y12.heap.size≤k) (attN e.name ⟨1,e.word,0,false⟩ true rL.1) [.string e.name,.int .i64 0,.int .i64 0,.int .i64 0,.int .i64 1,.string e.word,.int .u32 0,.bool false,.bool true,.slice Ap rL.1.length cp,.bool false,.string ⟨#[]⟩]):=Lib.hid (k50_mkM y15 w.heap.size _ (attN e.name ⟨1,e.word,0,false⟩ true rL.1) R15.out)
           go_wp2_with (first
            | (at_builtin;refine Kd.R_append k50 (w0:=y15) w.heap.size rfl (.tmp 122) (.tmp 124) 42 50 (.agg att0) 128 rfl Tryz.underlying42 infoAtt rfl (show 0<12 by decide) (by omega) (.slice Ao out.length co) out (attN e.name ⟨1,e.word,0,false⟩ true rL.1) [.string e.name,.int .i64 0,.int .i64 0,.int .i64 0,.int .i64 1,.string e.word,.int .u32 0,.bool false,.bool true,.slice Ap rL.1.length cp,.bool false,.string ⟨#[]⟩] (fun _=>True) (fun k=>y12.heap.size≤k) rfl rfl HPM.out HOKP.out (fun _ _=>trivial) (Kd.R_mono ROW15.out (fun _ _=>trivial)) (Below.refl _ _) HWZ.out (by have:=HLO.out;omega) ?_;intro v1 z1 ho hb hg hat;obtain ⟨out2,hout2⟩:∃ o,o=out++[attN e.name ⟨1,e.word,0,false⟩ true rL.1]:=⟨_,rfl⟩;rw [← hout2] at ho;obtain ⟨Av,cv,rfl⟩:=RForm ho;have RO:=Lib.hid ho;have RG:=Lib.hid hg;have HO2:=Lib.hid hout2;clear ho hb hg hat hout2 c0 c1 c2 c3 c4 c5 c6 c7 c8 c9 c10 c11))
           have hbb:(bad||(b||(!rk||rL.2)))=(true||rL.2):=by rw [← Bool.or_assoc,HQ.out];cases rk <;> rfl
           exact ⟨⟨j + 1,out2,(b||(!rk||rL.2)),by go_num,by omega,Lib.hid ⟨by rw [HO2.out,← HOL.out.2];exact (layL_go HX.out HLY.out).symm,grown_own GR15.out RG.out HOB.out,by rw [hbb];exact (RG.out.block wb (Array.getElem?_eq_some_iff.1 BK15.out).1 (fun h=>by have:=HOB.out wb h.symm;have:=HWL.out;omega)).trans BK15.out,RO.out,by rw [HO2.out,List.length_append];have:=HOL.out.1;simp;omega⟩⟩,by simp [intOf];omega⟩
         ·have HLY:Hid (layE rs obj l e=some (attN e.name ⟨1,e.word,0,false⟩ false [],!rk)):=Lib.hid (by rw [HLE.out,if_pos (by unfold innerR;rw [if_neg (fun h=>hun h.2)];rfl)])
          have hu1:x.un.toList.isEmpty=false:=by
           rw [ByteArray.toList_eq]
           cases h:x.un.data.toList with
           | nil=>exact absurd (ByteArray.ext (Array.toList_inj.1 h)) hun
           | cons q r=>rfl
          have hu2:(x.un.toList == [])=false:=by
           rw [ByteArray.toList_eq]
           cases h:x.un.data.toList with
           | nil=>exact absurd (ByteArray.ext (Array.toList_inj.1 h)) hun
           | cons q r=>rfl
          clear hun hw2
          have c0:y11.cell? ⟨ab,0,none⟩=some (.string e.name):=(cell_row AT11.out 0).trans rfl
          have c1:y11.cell? ⟨ab,1,none⟩=some (.int .i64 0):=(cell_row AT11.out 1).trans rfl
          have c2:y11.cell? ⟨ab,2,none⟩=some (.int .i64 0):=(cell_row AT11.out 2).trans rfl
          have c3:y11.cell? ⟨ab,3,none⟩=some (.int .i64 0):=(cell_row AT11.out 3).trans rfl
          have c4:y11.cell? ⟨ab,4,none⟩=some (.int .i64 1):=(cell_row AT11.out 4).trans rfl
          have c5:y11.cell? ⟨ab,5,none⟩=some (.string e.word):=(cell_row AT11.out 5).trans rfl
          have c6:y11.cell? ⟨ab,6,none⟩=some (.int .u32 0):=(cell_row AT11.out 6).trans rfl
          have c7:y11.cell? ⟨ab,7,none⟩=some (.bool false):=(cell_row AT11.out 7).trans rfl
          have c8:y11.cell? ⟨ab,8,none⟩=some (.bool false):=(cell_row AT11.out 8).trans rfl
          have c9:y11.cell? ⟨ab,9,none⟩=some (.slice none 0 0):=(cell_row AT11.out 9).trans rfl
          have c10:y11.cell? ⟨ab,10,none⟩=some (.bool false):=(cell_row AT11.out 10).trans rfl
          have c11:y11.cell? ⟨ab,11,none⟩=some (.string ⟨#[]⟩):=(cell_row AT11.out 11).trans rfl
          have HOB:Hid (∀ k,(Value.slice Ao out.length co).ownBlock=some k→w.heap.size≤k):=Lib.hid (fun k hk=>Kd.R_base ROW11.out k hk)
          have HLO:Hid (out.length≤1073741824):=Lib.hid (by have:=HOL.out.1;have:=HL0.out;omega)
          have HWZ:Hid (w.heap.size≤y11.heap.size):=Lib.hid GR11.out.size
          have HPM:Hid (k50.M y11 w.heap.size (fun _=>False) (attN e.name ⟨1,e.word,0,false⟩ false []) [.string e.name,.int .i64 0,.int .i64 0,.int .i64 0,.int .i64 1,.string e.word,.int .u32 0,.bool false,.bool false,.slice none 0 0,.bool false,.string ⟨#[]⟩]):=Lib.hid (k50_mkM y11 w.heap.size _ (attN e.name ⟨1,e.word,0,false⟩ false []) (Kd.R_nil _ _ _ _ _))
          go_wp2_with (first
           | (at_builtin;refine Kd.R_append k50 (w0:=y11) w.heap.size rfl (.tmp 122) (.tmp 124) 42 50 (.agg att0) 128 rfl Tryz.underlying42 infoAtt rfl (show 0<12 by decide) (by omega) (.slice Ao out.length co) out (attN e.name ⟨1,e.word,0,false⟩ false []) [.string e.name,.int .i64 0,.int .i64 0,.int .i64 0,.int .i64 1,.string e.word,.int .u32 0,.bool false,.bool false,.slice none 0 0,.bool false,.string ⟨#[]⟩] (fun _=>True) (fun _=>False) rfl rfl HPM.out (fun _ h=>h.elim) (fun _ _=>trivial) (Kd.R_mono ROW11.out (fun _ _=>trivial)) (Below.refl _ _) HWZ.out (by have:=HLO.out;omega) ?_;intro v1 z1 ho hb hg hat;obtain ⟨out2,hout2⟩:∃ o,o=out++[attN e.name ⟨1,e.word,0,false⟩ false []]:=⟨_,rfl⟩;rw [← hout2] at ho;obtain ⟨Av,cv,rfl⟩:=RForm ho;have RO:=Lib.hid ho;have RG:=Lib.hid hg;have HO2:=Lib.hid hout2;clear ho hb hg hat hout2 c0 c1 c2 c3 c4 c5 c6 c7 c8 c9 c10 c11))
          have hbb:(bad||(b||(!rk)))=true:=(by rw [← Bool.or_assoc,HQ.out];rfl)
          exact ⟨⟨j + 1,out2,(b||(!rk)),by go_num,by omega,Lib.hid ⟨by rw [HO2.out,← HOL.out.2];exact (layL_go HX.out HLY.out).symm,grown_own GR11.out RG.out HOB.out,by rw [hbb];exact (RG.out.block wb (Array.getElem?_eq_some_iff.1 BK11.out).1 (fun h=>by have:=HOB.out wb h.symm;have:=HWL.out;omega)).trans BK11.out,RO.out,by rw [HO2.out,List.length_append];have:=HOL.out.1;simp;omega⟩⟩,by simp [intOf];omega⟩
        ·have HLY:Hid (layE rs obj l e=some (attN e.name ⟨1,e.word,0,false⟩ false [],!rk)):=Lib.hid (by rw [HLE.out,if_pos (by unfold innerR;rw [if_neg (fun h=>hw2 h.1)];rfl)])
         have hw2b:(x.want == 2)=false:=by simp [hw2]
         clear hw2
         have c0:y11.cell? ⟨ab,0,none⟩=some (.string e.name):=(cell_row AT11.out 0).trans rfl
         have c1:y11.cell? ⟨ab,1,none⟩=some (.int .i64 0):=(cell_row AT11.out 1).trans rfl
         have c2:y11.cell? ⟨ab,2,none⟩=some (.int .i64 0):=(cell_row AT11.out 2).trans rfl
         have c3:y11.cell? ⟨ab,3,none⟩=some (.int .i64 0):=(cell_row AT11.out 3).trans rfl
         have c4:y11.cell? ⟨ab,4,none⟩=some (.int .i64 1):=(cell_row AT11.out 4).trans rfl
         have c5:y11.cell? ⟨ab,5,none⟩=some (.string e.word):=(cell_row AT11.out 5).trans rfl
         have c6:y11.cell? ⟨ab,6,none⟩=some (.int .u32 0):=(cell_row AT11.out 6).trans rfl
         have c7:y11.cell? ⟨ab,7,none⟩=some (.bool false):=(cell_row AT11.out 7).trans rfl
         have c8:y11.cell? ⟨ab,8,none⟩=some (.bool false):=(cell_row AT11.out 8).trans rfl
         have c9:y11.cell? ⟨ab,9,none⟩=some (.slice none 0 0):=(cell_row AT11.out 9).trans rfl
         have c10:y11.cell? ⟨ab,10,none⟩=some (.bool false):=(cell_row AT11.out 10).trans rfl
         have c11:y11.cell? ⟨ab,11,none⟩=some (.string ⟨#[]⟩):=(cell_row AT11.out 11).trans rfl
         have HOB:Hid (∀ k,(Value.slice Ao out.length co).ownBlock=some k→w.heap.size≤k):=Lib.hid (fun k hk=>Kd.R_base ROW11.out k hk)
         have HLO:Hid (out.length≤1073741824):=Lib.hid (by have:=HOL.out.1;have:=HL0.out;omega)
         have HWZ:Hid (w.heap.size≤y11.heap.size):=Lib.hid GR11.out.size
         have HPM:Hid (k50.M y11 w.heap.size (fun _=>False) (attN e.name ⟨1,e.word,0,false⟩ false []) [.string e.name,.int .i64 0,.int .i64 0,.int .i64 0,.int .i64 1,.string e.word,.int .u32 0,.bool false,.bool false,.slice none 0 0,.bool false,.string ⟨#[]⟩]):=Lib.hid (k50_mkM y11 w.heap.size _ (attN e.name ⟨1,e.word,0,false⟩ false []) (Kd.R_nil _ _ _ _ _))
         go_wp2_with (first
          | (at_builtin;refine Kd.R_append k50 (w0:=y11) w.heap.size rfl (.tmp 122) (.tmp 124) 42 50 (.agg att0) 128 rfl Tryz.underlying42 infoAtt rfl (show 0<12 by decide) (by omega) (.slice Ao out.length co) out (attN e.name ⟨1,e.word,0,false⟩ false []) [.string e.name,.int .i64 0,.int .i64 0,.int .i64 0,.int .i64 1,.string e.word,.int .u32 0,.bool false,.bool false,.slice none 0 0,.bool false,.string ⟨#[]⟩] (fun _=>True) (fun _=>False) rfl rfl HPM.out (fun _ h=>h.elim) (fun _ _=>trivial) (Kd.R_mono ROW11.out (fun _ _=>trivial)) (Below.refl _ _) HWZ.out (by have:=HLO.out;omega) ?_;intro v1 z1 ho hb hg hat;obtain ⟨out2,hout2⟩:∃ o,o=out++[attN e.name ⟨1,e.word,0,false⟩ false []]:=⟨_,rfl⟩;rw [← hout2] at ho;obtain ⟨Av,cv,rfl⟩:=RForm ho;have RO:=Lib.hid ho;have RG:=Lib.hid hg;have HO2:=Lib.hid hout2;clear ho hb hg hat hout2 c0 c1 c2 c3 c4 c5 c6 c7 c8 c9 c10 c11))
         have hbb:(bad||(b||(!rk)))=true:=(by rw [← Bool.or_assoc,HQ.out];rfl)
         exact ⟨⟨j + 1,out2,(b||(!rk)),by go_num,by omega,Lib.hid ⟨by rw [HO2.out,← HOL.out.2];exact (layL_go HX.out HLY.out).symm,grown_own GR11.out RG.out HOB.out,by rw [hbb];exact (RG.out.block wb (Array.getElem?_eq_some_iff.1 BK11.out).1 (fun h=>by have:=HOB.out wb h.symm;have:=HWL.out;omega)).trans BK11.out,RO.out,by rw [HO2.out,List.length_append];have:=HOL.out.1;simp;omega⟩⟩,by simp [intOf];omega⟩
       | false =>
        go_upto_region 19 with (first
         | (go_at_call 75;refine (HSP.out y9 HZ9.out).mono ?_;rintro ev y10 ⟨rfl,hB10⟩;have B10:=Lib.hid hB10;have BK10:=Lib.hid ((B10.out.block wb (Array.getElem?_eq_some_iff.1 BK9.out).1).trans BK9.out);clear hB10 k2 e6)
         | ((with_reducible refine gate_store (t:=4) (p:=53) rfl ?_);refine cell_event rfl 4 _ _ rfl wb 2 (.bool (!rk)) rfl rfl rfl (thereR BK10.out (by simp)) (by kernel_rfl) wb (Nat.le_refl _) ?_;intro y11 hw7 hB7 hs7;obtain ⟨hr7,hk7,hz7⟩:=row1 BK10.out hw7;have BK11:Hid (y11.heap[wb]?=some (.cells (wrC rs A c (!rk)) 146 (0,0))):=Lib.hid hr7;have G7:Hid (y10.grownBy y11 (some wb)):=Lib.hid ⟨hB7.os,hB7.tape,hB7.output,hB7.size,fun k _ hne=>hk7 k (fun e=>hne (by rw [e]))⟩;clear hw7 hr7 hk7 hz7 hB7 hs7))
        have G11:Hid (y9.grownBy y11 (some wb)):=Lib.hid ((below_grown (r:=some wb) B10.out).trans G7.out)
        have GR11:Hid (w.grownBy y11 (some wb)):=Lib.hid (GR9.out.trans G11.out)
        have AT11:=Lib.hid ((G11.out.block ab (Array.getElem?_eq_some_iff.1 AT9.out).1 (fun h=>by injection h with h;have:=HNE.out;omega)).trans AT9.out)
        have ROW11:=Lib.hid (Kd.R_grown ROW9.out G11.out (fun k hk h=>by injection h with h;have:=HWL.out;omega))
        have X11:=Lib.hid ((G11.out.block xb (Array.getElem?_eq_some_iff.1 X9.out).1 (fun h=>by injection h with h;have:=HNE.out;omega)).trans X9.out)
        have E11:=Lib.hid ((G11.out.block wr.heap.size (Array.getElem?_eq_some_iff.1 E9.out).1 (fun h=>by injection h with h;have:=HNE.out;omega)).trans E9.out)
        have HZ11:Hid (Below wz.heap.size wz y11):=Lib.hid (HB.out.trans (belowG GR11.out HWB.out HB.out.size))
        clear G11 GR9 AT9 ROW9 X9 E9 BK9 HZ9
        have b1:y11.cell? ⟨xb,1,none⟩=some (.string x.un):=(cell_row X11.out 1).trans rfl
        have b4:y11.cell? ⟨xb,4,none⟩=some (.int .i64 x.want):=(cell_row X11.out 4).trans rfl
        by_cases hw2:x.want=2
        ·rw [hw2] at b4
         by_cases hun:x.un=⟨#[]⟩
         ·rw [hun] at b1
          obtain ⟨I,hI⟩:∃ I,underR rs obj e.name e.word=I:=⟨_,rfl⟩
          have HIN:Hid (innerR rs obj x e.name e.word=I):=Lib.hid (by unfold innerR;rw [if_pos ⟨hw2,hun⟩,hI])
          rw [HIN.out] at HLE
          have HIL2:Hid (I.length≤1000):=Lib.hid (by rw [← hI];exact Nat.le_trans (under_len _ _ _ _) HRS.out)
          have HBH:Hid (∀ W,Below y11.heap.size y11 W→Calls Tryz.prog 67 #[.pointer (some ⟨wb,0,none⟩),.string obj,.string e.name,.string e.word] W fun ev w'=>(∃ v,ev=.returned v∧Kd.R (Kd.fixed kRow wz) 60 w' W.heap.size (fun _=>True) v I)∧Below W.heap.size W w'):=Lib.hid (fun W hW=>by rw [← hI];exact behindz_calls wb rs A c obj e.name e.word wz W (HZ11.out.trans (hW.mono HZ11.out.size)) ((hW.cell (Array.getElem?_eq_some_iff.1 BK11.out).1).trans ((cell_row BK11.out 0).trans rfl)) HCR.out HRS.out)
          clear hw2 hun hI
          go_upto_region 20 with fail
          clear b1 b4
          have e0:y11.cell? ⟨wr.heap.size,0,none⟩=some (.string e.name):=(cell_row E11.out 0).trans rfl
          have e6:y11.cell? ⟨wr.heap.size,6,none⟩=some (.string e.word):=(cell_row E11.out 6).trans rfl
          go_region_held3 (fun W=>W.cell? ⟨wr.heap.size,0,none⟩=some (.string e.name)∧W.cell? ⟨wr.heap.size,6,none⟩=some (.string e.word)) (first | exact ⟨e0,e6⟩ | exact ⟨p0,p6⟩ | assumption) (first
           | (go_at_call 67;refine (HBH.out _ (Below.refl _ _).drew).mono ?_;rintro ev y12 ⟨⟨v8,rfl,hR8⟩,hB8⟩;obtain ⟨Ai,ci,rfl⟩:=RForm hR8;have B12:Hid (Below y11.heap.size y11 y12):=Lib.hid ((Below.refl _ _).drew.trans hB8);have R12:Hid (Kd.R (Kd.fixed kRow wz) 60 y12 y11.heap.size (fun _=>True) (.slice Ai I.length ci) I):=Lib.hid hR8;have p0:=(hB8.cell (World.block_lt_of_cell? y11 _ e0)).trans e0;have p6:=(hB8.cell (World.block_lt_of_cell? y11 _ e6)).trans e6;clear hR8 hB8))
          clear e0 e6 p0 p6 HBH
          have GR12:Hid (w.grownBy y12 (some wb)):=Lib.hid (GR11.out.trans (below_grown (r:=some wb) B12.out))
          have BK12:=Lib.hid ((B12.out.block wb (Array.getElem?_eq_some_iff.1 BK11.out).1).trans BK11.out)
          have AT12:=Lib.hid ((B12.out.block ab (Array.getElem?_eq_some_iff.1 AT11.out).1).trans AT11.out)
          have E12:=Lib.hid ((B12.out.block wr.heap.size (Array.getElem?_eq_some_iff.1 E11.out).1).trans E11.out)
          have ROW12:=Lib.hid (Kd.R_below ROW11.out B12.out)
          have HZ12:Hid (Below wz.heap.size wz y12):=Lib.hid (HB.out.trans (belowG GR12.out HWB.out HB.out.size))
          have HS12:Hid (wr.heap.size<y11.heap.size∧y11.heap.size≤y12.heap.size):=Lib.hid ⟨(Array.getElem?_eq_some_iff.1 E11.out).1,B12.out.size⟩
          clear GR11 BK11 AT11 E11 X11 ROW11 HZ11 B12
          obtain ⟨nI,hnI⟩:∃ nI,I.length=nI:=⟨_,rfl⟩
          rw [hnI] at R12 HIL2 ⊢
          have HNI:=Lib.hid hnI
          clear hnI
          by_cases h0:nI=0
          ·subst h0
           have HLY:Hid (layE rs obj l e=some (attN e.name ⟨1,e.word,0,false⟩ false [],!rk)):=Lib.hid (by rw [HLE.out,if_pos (by rw [List.eq_nil_of_length_eq_zero HNI.out];rfl)])
           have c0:y12.cell? ⟨ab,0,none⟩=some (.string e.name):=(cell_row AT12.out 0).trans rfl
           have c1:y12.cell? ⟨ab,1,none⟩=some (.int .i64 0):=(cell_row AT12.out 1).trans rfl
           have c2:y12.cell? ⟨ab,2,none⟩=some (.int .i64 0):=(cell_row AT12.out 2).trans rfl
           have c3:y12.cell? ⟨ab,3,none⟩=some (.int .i64 0):=(cell_row AT12.out 3).trans rfl
           have c4:y12.cell? ⟨ab,4,none⟩=some (.int .i64 1):=(cell_row AT12.out 4).trans rfl
           have c5:y12.cell? ⟨ab,5,none⟩=some (.string e.word):=(cell_row AT12.out 5).trans rfl
           have c6:y12.cell? ⟨ab,6,none⟩=some (.int .u32 0):=(cell_row AT12.out 6).trans rfl
           have c7:y12.cell? ⟨ab,7,none⟩=some (.bool false):=(cell_row AT12.out 7).trans rfl
           have c8:y12.cell? ⟨ab,8,none⟩=some (.bool false):=(cell_row AT12.out 8).trans rfl
           have c9:y12.cell? ⟨ab,9,none⟩=some (.slice none 0 0):=(cell_row AT12.out 9).trans rfl
           have c10:y12.cell? ⟨ab,10,none⟩=some (.bool false):=(cell_row AT12.out 10).trans rfl
           have c11:y12.cell? ⟨ab,11,none⟩=some (.string ⟨#[]⟩):=(cell_row AT12.out 11).trans rfl
           have HOB:Hid (∀ k,(Value.slice Ao out.length co).ownBlock=some k→w.heap.size≤k):=Lib.hid (fun k hk=>Kd.R_base ROW12.out k hk)
           have HLO:Hid (out.length≤1073741824):=Lib.hid (by have:=HOL.out.1;have:=HL0.out;omega)
           have HWZ:Hid (w.heap.size≤y12.heap.size):=Lib.hid GR12.out.size
           have HPM:Hid (k50.M y12 w.heap.size (fun _=>False) (attN e.name ⟨1,e.word,0,false⟩ false []) [.string e.name,.int .i64 0,.int .i64 0,.int .i64 0,.int .i64 1,.string e.word,.int .u32 0,.bool false,.bool false,.slice none 0 0,.bool false,.string ⟨#[]⟩]):=Lib.hid (k50_mkM y12 w.heap.size _ (attN e.name ⟨1,e.word,0,false⟩ false []) (Kd.R_nil _ _ _ _ _))
           go_wp2_with (first
            | (at_builtin;refine Kd.R_append k50 (w0:=y12) w.heap.size rfl (.tmp 122) (.tmp 124) 42 50 (.agg att0) 128 rfl Tryz.underlying42 infoAtt rfl (show 0<12 by decide) (by omega) (.slice Ao out.length co) out (attN e.name ⟨1,e.word,0,false⟩ false []) [.string e.name,.int .i64 0,.int .i64 0,.int .i64 0,.int .i64 1,.string e.word,.int .u32 0,.bool false,.bool false,.slice none 0 0,.bool false,.string ⟨#[]⟩] (fun _=>True) (fun _=>False) rfl rfl HPM.out (fun _ h=>h.elim) (fun _ _=>trivial) (Kd.R_mono ROW12.out (fun _ _=>trivial)) (Below.refl _ _) HWZ.out (by have:=HLO.out;omega) ?_;intro v1 z1 ho hb hg hat;obtain ⟨out2,hout2⟩:∃ o,o=out++[attN e.name ⟨1,e.word,0,false⟩ false []]:=⟨_,rfl⟩;rw [← hout2] at ho;obtain ⟨Av,cv,rfl⟩:=RForm ho;have RO:=Lib.hid ho;have RG:=Lib.hid hg;have HO2:=Lib.hid hout2;clear ho hb hg hat hout2 c0 c1 c2 c3 c4 c5 c6 c7 c8 c9 c10 c11))
           have hbb:(bad||(b||(!rk)))=(!rk):=(by rw [← Bool.or_assoc,HQ.out];rfl)
           exact ⟨⟨j + 1,out2,(b||(!rk)),by go_num,by omega,Lib.hid ⟨by rw [HO2.out,← HOL.out.2];exact (layL_go HX.out HLY.out).symm,grown_own GR12.out RG.out HOB.out,by rw [hbb];exact (RG.out.block wb (Array.getElem?_eq_some_iff.1 BK12.out).1 (fun h=>by have:=HOB.out wb h.symm;have:=HWL.out;omega)).trans BK12.out,RO.out,by rw [HO2.out,List.length_append];have:=HOL.out.1;simp;omega⟩⟩,by simp [intOf];omega⟩
          ·have HNE0:Hid (I.isEmpty=false):=Lib.hid (by cases I with
            | nil=>exact absurd HNI.out.symm h0
            | cons q r=>rfl)
           obtain ⟨rL,hrL⟩:∃ rL,layL rs obj I [] false e.params=rL:=⟨_,rfl⟩
           have HLY:Hid (layE rs obj l e=some (attN e.name ⟨1,e.word,0,false⟩ true rL.1,!rk||rL.2)):=Lib.hid (by rw [HLE.out,if_neg (by rw [HNE0.out];simp),hrL])
           have HAT:Hid (Calls Tryz.prog 76 #[.pointer (some ⟨wb,0,none⟩),.string obj,.slice Ai nI ci,.slice A7 e.params.length c7] y12 (WPost rs rL wb A c (!rk) y12)):=Lib.hid (by
            have hsz:=szE_eq e
            have h:=IH.out (szEs e.params) (by have:=HSE.out;have:=HM.out;omega) e.params obj I wb y11.heap.size A c Ai ci A7 c7 (!rk) wz y12 (Nat.le_refl _) (by have:=HSE.out;have:=HM2.out;omega) HZ12.out HWB.out BK12.out HCR.out HRS.out (by rw [HNI.out];exact Kd.R_mono (Kd.R_bound R12.out) (fun k hk=>by have:=hk.2.1;have:=HS12.out;have:=HWR.out;omega)) (by rw [HNI.out];exact HIL2.out) HC7.out HG.out
            rw [HNI.out,hrL] at h
            exact h)
           clear hrL
           have hnp:(0:Int)<(nI:Int):=by omega
           have e7:y12.cell? ⟨wr.heap.size,7,none⟩=some (.slice A7 e.params.length c7):=(cell_row E12.out 7).trans rfl
           go_upto_region 23 with (first
            | (go_at_call 76;refine HAT.out.mono ?_;rintro ev y13 ⟨hg13,hb13,v13,rfl,hR13⟩;obtain ⟨Ap,cp,rfl⟩:=RForm hR13;have G13:=Lib.hid hg13;have BK13:=Lib.hid hb13;have R13:=Lib.hid hR13;have AT13:=Lib.hid ((G13.out.block ab (Array.getElem?_eq_some_iff.1 AT12.out).1 (fun h=>by injection h with h;have:=HNE.out;omega)).trans AT12.out);clear hg13 hb13 hR13 e7)
            | ((with_reducible refine gate_store (t:=4) (p:=120) rfl ?_);refine cell_event rfl 4 _ _ rfl ab 8 (.bool true) rfl rfl rfl (thereR AT13.out (by simp)) (by kernel_rfl) ab (Nat.le_refl _) ?_;intro y14 hw7 hB7 hs7;obtain ⟨hr7,hk7,hz7⟩:=row1 AT13.out hw7;have AT14:Hid (y14.heap[ab]?=some (.cells (attZ e.name 1 e.word 0 true (.slice none 0 0)) 50 (0,0))):=Lib.hid hr7;have G14:Hid (y13.grownBy y14 (some ab)):=Lib.hid ⟨hB7.os,hB7.tape,hB7.output,hB7.size,fun k _ hne=>hk7 k (fun e=>hne (by rw [e]))⟩;clear hw7 hr7 hk7 hz7 hB7 hs7)
            | ((with_reducible refine gate_store (t:=42) (p:=121) rfl ?_);refine cell_event rfl 42 _ _ rfl ab 9 (.slice Ap rL.1.length cp) rfl rfl rfl (thereR AT14.out (by simp)) (by kernel_rfl) ab (Nat.le_refl _) ?_;intro y15 hw7 hB7 hs7;obtain ⟨hr7,hk7,hz7⟩:=row1 AT14.out hw7;have AT15:Hid (y15.heap[ab]?=some (.cells (attZ e.name 1 e.word 0 true (.slice Ap rL.1.length cp)) 50 (0,0))):=Lib.hid hr7;have G15:Hid (y13.grownBy y15 (some ab)):=Lib.hid (G14.out.trans ⟨hB7.os,hB7.tape,hB7.output,hB7.size,fun k _ hne=>hk7 k (fun e=>hne (by rw [e]))⟩);clear hw7 hr7 hk7 hz7 hB7 hs7))
           have GR15:Hid (w.grownBy y15 (some wb)):=Lib.hid (grown_own (GR12.out.trans G13.out) G15.out (fun k hk=>by injection hk with hk;have:=HNE.out;omega))
           have BK15:Hid (y15.heap[wb]?=some (.cells (wrC rs A c ((!rk)||rL.2)) 146 (0,0))):=Lib.hid ((G15.out.block wb (Array.getElem?_eq_some_iff.1 BK13.out).1 (fun h=>by injection h with h;have:=HNE.out;omega)).trans BK13.out)
           have ROW15:=Lib.hid (Kd.R_grown (Kd.R_grown ROW12.out G13.out (fun k hk h=>by injection h with h;have:=HWL.out;omega)) G15.out (fun k hk h=>by injection h with h;have:=HNE.out;omega))
           have HAB:Hid (ab<y12.heap.size):=Lib.hid (Array.getElem?_eq_some_iff.1 AT12.out).1
           have R15:Hid (Kd.R k50 50 y15 w.heap.size (fun k=>y12.heap.size≤k) (.slice Ap rL.1.length cp) rL.1):=Lib.hid (Kd.R_grown (Kd.R_lower (Kd.R_mono (Kd.R_bound R13.out) (fun k hk=>hk.2.1)) (by have:=GR12.out.size;omega)) G15.out (fun k hk h=>by injection h with h;have:=HAB.out;omega))
           clear GR12 BK12 AT12 E12 R12 G13 BK13 AT13 G14 AT14 G15 ROW12 R13
           have HOKP:Hid (∀ k,y12.heap.size≤k→True∧some k≠(Value.slice Ao out.length co).ownBlock):=Lib.hid (fun k hk=>⟨trivial,fun h=>by have:=ROW15.out.1 k h.symm;have:=HS12.out;omega⟩)
           clear hnp h0
           have c0:y15.cell? ⟨ab,0,none⟩=some (.string e.name):=(cell_row AT15.out 0).trans rfl
           have c1:y15.cell? ⟨ab,1,none⟩=some (.int .i64 0):=(cell_row AT15.out 1).trans rfl
           have c2:y15.cell? ⟨ab,2,none⟩=some (.int .i64 0):=(cell_row AT15.out 2).trans rfl
           have c3:y15.cell? ⟨ab,3,none⟩=some (.int .i64 0):=(cell_row AT15.out 3).trans rfl
           have c4:y15.cell? ⟨ab,4,none⟩=some (.int .i64 1):=(cell_row AT15.out 4).trans rfl
           have c5:y15.cell? ⟨ab,5,none⟩=some (.string e.word):=(cell_row AT15.out 5).trans rfl
           have c6:y15.cell? ⟨ab,6,none⟩=some (.int .u32 0):=(cell_row AT15.out 6).trans rfl
           have c7:y15.cell? ⟨ab,7,none⟩=some (.bool false):=(cell_row AT15.out 7).trans rfl
           have c8:y15.cell? ⟨ab,8,none⟩=some (.bool true):=(cell_row AT15.out 8).trans rfl
           have c9:y15.cell? ⟨ab,9,none⟩=some (.slice Ap rL.1.length cp):=(cell_row AT15.out 9).trans rfl
           have c10:y15.cell? ⟨ab,10,none⟩=some (.bool false):=(cell_row AT15.out 10).trans rfl
           have c11:y15.cell? ⟨ab,11,none⟩=some (.string ⟨#[]⟩):=(cell_row AT15.out 11).trans rfl
           have HOB:Hid (∀ k,(Value.slice Ao out.length co).ownBlock=some k→w.heap.size≤k):=Lib.hid (fun k hk=>Kd.R_base ROW15.out k hk)
           have HLO:Hid (out.length≤1073741824):=Lib.hid (by have:=HOL.out.1;have:=HL0.out;omega)
           have HWZ:Hid (w.heap.size≤y15.heap.size):=Lib.hid GR15.out.size
           have HPM:Hid (k50.M y15 w.heap.size (fun k=>y12.heap.size≤k) (attN e.name ⟨1,e.word,0,false⟩ true rL.1) [.string e.name,.int .i64 0,.int .i64 0,.int .i64 0,.int .i64 1,.string e.word,.int .u32 0,.bool false,.bool true,.slice Ap rL.1.length cp,.bool false,.string ⟨#[]⟩]):=Lib.hid (k50_mkM y15 w.heap.size _ (attN e.name ⟨1,e.word,0,false⟩ true rL.1) R15.out)
           go_wp2_with (first
            | (at_builtin;refine Kd.R_append k50 (w0:=y15) w.heap.size rfl (.tmp 122) (.tmp 124) 42 50 (.agg att0) 128 rfl Tryz.underlying42 infoAtt rfl (show 0<12 by decide) (by omega) (.slice Ao out.length co) out (attN e.name ⟨1,e.word,0,false⟩ true rL.1) [.string e.name,.int .i64 0,.int .i64 0,.int .i64 0,.int .i64 1,.string e.word,.int .u32 0,.bool false,.bool true,.slice Ap rL.1.length cp,.bool false,.string ⟨#[]⟩] (fun _=>True) (fun k=>y12.heap.size≤k) rfl rfl HPM.out HOKP.out (fun _ _=>trivial) (Kd.R_mono ROW15.out (fun _ _=>trivial)) (Below.refl _ _) HWZ.out (by have:=HLO.out;omega) ?_;intro v1 z1 ho hb hg hat;obtain ⟨out2,hout2⟩:∃ o,o=out++[attN e.name ⟨1,e.word,0,false⟩ true rL.1]:=⟨_,rfl⟩;rw [← hout2] at ho;obtain ⟨Av,cv,rfl⟩:=RForm ho;have RO:=Lib.hid ho;have RG:=Lib.hid hg;have HO2:=Lib.hid hout2;clear ho hb hg hat hout2 c0 c1 c2 c3 c4 c5 c6 c7 c8 c9 c10 c11))
           have hbb:(bad||(b||(!rk||rL.2)))=((!rk)||rL.2):=by rw [← Bool.or_assoc,HQ.out];cases rk <;> rfl
           exact ⟨⟨j + 1,out2,(b||(!rk||rL.2)),by go_num,by omega,Lib.hid ⟨by rw [HO2.out,← HOL.out.2];exact (layL_go HX.out HLY.out).symm,grown_own GR15.out RG.out HOB.out,by rw [hbb];exact (RG.out.block wb (Array.getElem?_eq_some_iff.1 BK15.out).1 (fun h=>by have:=HOB.out wb h.symm;have:=HWL.out;omega)).trans BK15.out,RO.out,by rw [HO2.out,List.length_append];have:=HOL.out.1;simp;omega⟩⟩,by simp [intOf];omega⟩
         ·have HLY:Hid (layE rs obj l e=some (attN e.name ⟨1,e.word,0,false⟩ false [],!rk)):=Lib.hid (by rw [HLE.out,if_pos (by unfold innerR;rw [if_neg (fun h=>hun h.2)];rfl)])
          have hu1:x.un.toList.isEmpty=false:=by
           rw [ByteArray.toList_eq]
           cases h:x.un.data.toList with
           | nil=>exact absurd (ByteArray.ext (Array.toList_inj.1 h)) hun
           | cons q r=>rfl
          have hu2:(x.un.toList == [])=false:=by
           rw [ByteArray.toList_eq]
           cases h:x.un.data.toList with
           | nil=>exact absurd (ByteArray.ext (Array.toList_inj.1 h)) hun
           | cons q r=>rfl
          clear hun hw2
          have c0:y11.cell? ⟨ab,0,none⟩=some (.string e.name):=(cell_row AT11.out 0).trans rfl
          have c1:y11.cell? ⟨ab,1,none⟩=some (.int .i64 0):=(cell_row AT11.out 1).trans rfl
          have c2:y11.cell? ⟨ab,2,none⟩=some (.int .i64 0):=(cell_row AT11.out 2).trans rfl
          have c3:y11.cell? ⟨ab,3,none⟩=some (.int .i64 0):=(cell_row AT11.out 3).trans rfl
          have c4:y11.cell? ⟨ab,4,none⟩=some (.int .i64 1):=(cell_row AT11.out 4).trans rfl
          have c5:y11.cell? ⟨ab,5,none⟩=some (.string e.word):=(cell_row AT11.out 5).trans rfl
          have c6:y11.cell? ⟨ab,6,none⟩=some (.int .u32 0):=(cell_row AT11.out 6).trans rfl
          have c7:y11.cell? ⟨ab,7,none⟩=some (.bool false):=(cell_row AT11.out 7).trans rfl
          have c8:y11.cell? ⟨ab,8,none⟩=some (.bool false):=(cell_row AT11.out 8).trans rfl
          have c9:y11.cell? ⟨ab,9,none⟩=some (.slice none 0 0):=(cell_row AT11.out 9).trans rfl
          have c10:y11.cell? ⟨ab,10,none⟩=some (.bool false):=(cell_row AT11.out 10).trans rfl
          have c11:y11.cell? ⟨ab,11,none⟩=some (.string ⟨#[]⟩):=(cell_row AT11.out 11).trans rfl
          have HOB:Hid (∀ k,(Value.slice Ao out.length co).ownBlock=some k→w.heap.size≤k):=Lib.hid (fun k hk=>Kd.R_base ROW11.out k hk)
          have HLO:Hid (out.length≤1073741824):=Lib.hid (by have:=HOL.out.1;have:=HL0.out;omega)
          have HWZ:Hid (w.heap.size≤y11.heap.size):=Lib.hid GR11.out.size
          have HPM:Hid (k50.M y11 w.heap.size (fun _=>False) (attN e.name ⟨1,e.word,0,false⟩ false []) [.string e.name,.int .i64 0,.int .i64 0,.int .i64 0,.int .i64 1,.string e.word,.int .u32 0,.bool false,.bool false,.slice none 0 0,.bool false,.string ⟨#[]⟩]):=Lib.hid (k50_mkM y11 w.heap.size _ (attN e.name ⟨1,e.word,0,false⟩ false []) (Kd.R_nil _ _ _ _ _))
          go_wp2_with (first
           | (at_builtin;refine Kd.R_append k50 (w0:=y11) w.heap.size rfl (.tmp 122) (.tmp 124) 42 50 (.agg att0) 128 rfl Tryz.underlying42 infoAtt rfl (show 0<12 by decide) (by omega) (.slice Ao out.length co) out (attN e.name ⟨1,e.word,0,false⟩ false []) [.string e.name,.int .i64 0,.int .i64 0,.int .i64 0,.int .i64 1,.string e.word,.int .u32 0,.bool false,.bool false,.slice none 0 0,.bool false,.string ⟨#[]⟩] (fun _=>True) (fun _=>False) rfl rfl HPM.out (fun _ h=>h.elim) (fun _ _=>trivial) (Kd.R_mono ROW11.out (fun _ _=>trivial)) (Below.refl _ _) HWZ.out (by have:=HLO.out;omega) ?_;intro v1 z1 ho hb hg hat;obtain ⟨out2,hout2⟩:∃ o,o=out++[attN e.name ⟨1,e.word,0,false⟩ false []]:=⟨_,rfl⟩;rw [← hout2] at ho;obtain ⟨Av,cv,rfl⟩:=RForm ho;have RO:=Lib.hid ho;have RG:=Lib.hid hg;have HO2:=Lib.hid hout2;clear ho hb hg hat hout2 c0 c1 c2 c3 c4 c5 c6 c7 c8 c9 c10 c11))
          have hbb:(bad||(b||(!rk)))=(!rk):=(by rw [← Bool.or_assoc,HQ.out];rfl)
          exact ⟨⟨j + 1,out2,(b||(!rk)),by go_num,by omega,Lib.hid ⟨by rw [HO2.out,← HOL.out.2];exact (layL_go HX.out HLY.out).symm,grown_own GR11.out RG.out HOB.out,by rw [hbb];exact (RG.out.block wb (Array.getElem?_eq_some_iff.1 BK11.out).1 (fun h=>by have:=HOB.out wb h.symm;have:=HWL.out;omega)).trans BK11.out,RO.out,by rw [HO2.out,List.length_append];have:=HOL.out.1;simp;omega⟩⟩,by simp [intOf];omega⟩
        ·have HLY:Hid (layE rs obj l e=some (attN e.name ⟨1,e.word,0,false⟩ false [],!rk)):=Lib.hid (by rw [HLE.out,if_pos (by unfold innerR;rw [if_neg (fun h=>hw2 h.1)];rfl)])
         have hw2b:(x.want == 2)=false:=by simp [hw2]
         clear hw2
         have c0:y11.cell? ⟨ab,0,none⟩=some (.string e.name):=(cell_row AT11.out 0).trans rfl
         have c1:y11.cell? ⟨ab,1,none⟩=some (.int .i64 0):=(cell_row AT11.out 1).trans rfl
         have c2:y11.cell? ⟨ab,2,none⟩=some (.int .i64 0):=(cell_row AT11.out 2).trans rfl
         have c3:y11.cell? ⟨ab,3,none⟩=some (.int .i64 0):=(cell_row AT11.out 3).trans rfl
         have c4:y11.cell? ⟨ab,4,none⟩=some (.int .i64 1):=(cell_row AT11.out 4).trans rfl
         have c5:y11.cell? ⟨ab,5,none⟩=some (.string e.word):=(cell_row AT11.out 5).trans rfl
         have c6:y11.cell? ⟨ab,6,none⟩=some (.int .u32 0):=(cell_row AT11.out 6).trans rfl
         have c7:y11.cell? ⟨ab,7,none⟩=some (.bool false):=(cell_row AT11.out 7).trans rfl
         have c8:y11.cell? ⟨ab,8,none⟩=some (.bool false):=(cell_row AT11.out 8).trans rfl
         have c9:y11.cell? ⟨ab,9,none⟩=some (.slice none 0 0):=(cell_row AT11.out 9).trans rfl
         have c10:y11.cell? ⟨ab,10,none⟩=some (.bool false):=(cell_row AT11.out 10).trans rfl
         have c11:y11.cell? ⟨ab,11,none⟩=some (.string ⟨#[]⟩):=(cell_row AT11.out 11).trans rfl
         have HOB:Hid (∀ k,(Value.slice Ao out.length co).ownBlock=some k→w.heap.size≤k):=Lib.hid (fun k hk=>Kd.R_base ROW11.out k hk)
         have HLO:Hid (out.length≤1073741824):=Lib.hid (by have:=HOL.out.1;have:=HL0.out;omega)
         have HWZ:Hid (w.heap.size≤y11.heap.size):=Lib.hid GR11.out.size
         have HPM:Hid (k50.M y11 w.heap.size (fun _=>False) (attN e.name ⟨1,e.word,0,false⟩ false []) [.string e.name,.int .i64 0,.int .i64 0,.int .i64 0,.int .i64 1,.string e.word,.int .u32 0,.bool false,.bool false,.slice none 0 0,.bool false,.string ⟨#[]⟩]):=Lib.hid (k50_mkM y11 w.heap.size _ (attN e.name ⟨1,e.word,0,false⟩ false []) (Kd.R_nil _ _ _ _ _))
         go_wp2_with (first
          | (at_builtin;refine Kd.R_append k50 (w0:=y11) w.heap.size rfl (.tmp 122) (.tmp 124) 42 50 (.agg att0) 128 rfl Tryz.underlying42 infoAtt rfl (show 0<12 by decide) (by omega) (.slice Ao out.length co) out (attN e.name ⟨1,e.word,0,false⟩ false []) [.string e.name,.int .i64 0,.int .i64 0,.int .i64 0,.int .i64 1,.string e.word,.int .u32 0,.bool false,.bool false,.slice none 0 0,.bool false,.string ⟨#[]⟩] (fun _=>True) (fun _=>False) rfl rfl HPM.out (fun _ h=>h.elim) (fun _ _=>trivial) (Kd.R_mono ROW11.out (fun _ _=>trivial)) (Below.refl _ _) HWZ.out (by have:=HLO.out;omega) ?_;intro v1 z1 ho hb hg hat;obtain ⟨out2,hout2⟩:∃ o,o=out++[attN e.name ⟨1,e.word,0,false⟩ false []]:=⟨_,rfl⟩;rw [← hout2] at ho;obtain ⟨Av,cv,rfl⟩:=RForm ho;have RO:=Lib.hid ho;have RG:=Lib.hid hg;have HO2:=Lib.hid hout2;clear ho hb hg hat hout2 c0 c1 c2 c3 c4 c5 c6 c7 c8 c9 c10 c11))
         have hbb:(bad||(b||(!rk)))=(!rk):=(by rw [← Bool.or_assoc,HQ.out];rfl)
         exact ⟨⟨j + 1,out2,(b||(!rk)),by go_num,by omega,Lib.hid ⟨by rw [HO2.out,← HOL.out.2];exact (layL_go HX.out HLY.out).symm,grown_own GR11.out RG.out HOB.out,by rw [hbb];exact (RG.out.block wb (Array.getElem?_eq_some_iff.1 BK11.out).1 (fun h=>by have:=HOB.out wb h.symm;have:=HWL.out;omega)).trans BK11.out,RO.out,by rw [HO2.out,List.length_append];have:=HOL.out.1;simp;omega⟩⟩,by simp [intOf];omega⟩
  ·obtain rfl:j=n:=by omega
   have HRE:Hid (RES=(out,b)):=Lib.hid (by
    have h:=HI.out.ly
    rw [List.drop_eq_nil_of_le (by rw [HN.out];exact Nat.le_refl _)] at h
    rw [← h]
    unfold layL
    rfl)
   go_wp2_with fail
   go_ret
   rw [HRE.out]
   exact ⟨HI.out.gr,HI.out.blk,_,rfl,HI.out.row⟩
end Go.Proofs.YtmfejjlmflgnbaaGreatDoor.Sc
/- CONTRACT: package schema's (*writer).attrs, for every list. -/
namespace Go.Proofs.YtmfejjlmflgnbaaGreatDoor.Sc
open Go.RowKit Go.Proofs.YtmfejjlmflgnbaaGreatDoor.PA Go.Proofs.YtmfejjlmflgnbaaGreatDoorW.PrintWords Go.Proofs.YtmfejjlmflgnbaaGreatDoorW.PrintLast Go.Proofs.YtmfejjlmflgnbaaGreatDoor.Sp Go.Proofs.YtmfejjlmflgnbaaGreatDoor.Tr Go.Proofs.YtmfejjlmflgnbaaGreatDoor.Tok
theorem wattrs_all (rs:List SR) (m:Nat):WriC rs m:=by
 induction m using Nat.strongRecOn with
 | _ m ih=>exact wattrs_step rs m ih
theorem wattrs_calls (rs:List SR) (es:List SE) (obj:ByteArray) (l:List SR) (wb B0:Nat) (A:Option Addr) (c:Nat) (Al:Option Addr) (cl:Nat) (As:Option Addr) (cs:Nat) (bad:Bool) (wz w:World) (hs:szEs es≤1073741824) (hB:Below wz.heap.size wz w) (hwb:wz.heap.size≤wb) (hw:w.heap[wb]?=some (.cells (wrC rs A c bad) 146 (0,0)))
  (hC:Kd.C kRow wz A rs.length rs) (hr:rs.length≤1000) (hl:Kd.R (Kd.fixed kRow wz) 60 w B0 (fun k=>wb<k) (.slice Al l.length cl) l) (hn:l.length≤1000) (he:Kd.C kEnt wz As es.length es) (hG:Glob wz) :
  Calls Tryz.prog 76 #[.pointer (some ⟨wb,0,none⟩),.string obj,.slice Al l.length cl,.slice As es.length cs] w (WPost rs (layL rs obj l [] false es) wb A c bad w) :=
 wattrs_all rs (szEs es) es obj l wb B0 A c Al cl As cs bad wz w (Nat.le_refl _) hs hB hwb hw hC hr hl hn he hG
end Go.Proofs.YtmfejjlmflgnbaaGreatDoor.Sc

/- THE LAW SchemaOwn, its walk, as far as its loop's round and its end. -/
import Derived.Test.YtmfejjlmflgnbaaGreatDoorZScLr
import Derived.Test.YtmfejjlmflgnbaaGreatDoorZScOa
namespace Go.Proofs.YtmfejjlmflgnbaaGreatDoor.Sc
open Go.RowKit Go.Proofs.YtmfejjlmflgnbaaGreatDoor.PA Go.Proofs.YtmfejjlmflgnbaaGreatDoorW.PrintWords Go.Proofs.YtmfejjlmflgnbaaGreatDoorW.PrintLast Go.Proofs.YtmfejjlmflgnbaaGreatDoorW.PrintMore Go.Proofs.YtmfejjlmflgnbaaGreatDoor.Sp Go.Proofs.YtmfejjlmflgnbaaGreatDoor.Tr Go.Proofs.YtmfejjlmflgnbaaGreatDoor.Tok
set_option linter.unusedVariables false
set_option linter.unusedSimpArgs false
set_option maxRecDepth 100000
structure OwSplit (M:Prop) where
 P1:Prop
 P2:Prop
 go:Hid P1→Hid P2→M
structure WU where
 v:ByteArray
 c:ByteArray
 l:List SO
 e:Int
def wuOf (s:SS):WU:=match writeS s with
 | some u=>⟨ver,s.cpu,u.f2,0⟩
 | none=>⟨⟨#[]⟩,⟨#[]⟩,[],2⟩
theorem write_any {s:SS} {w:World} {fn:Nat} {args:Array Value} (h:Calls Tryz.prog fn args w (WritePost s w)):Calls Tryz.prog fn args w fun e w'=>Below w.heap.size w w'∧∃ (Ao:Option Addr) (co:Nat),e=.returned (.tuple #[.agg #[.string (wuOf s).v,.string (wuOf s).c,.slice Ao (wuOf s).l.length co,.bool false,.string ⟨#[]⟩],.int .i64 (wuOf s).e])∧Kd.R k44 44 w' w.heap.size (fun _=>True) (.slice Ao (wuOf s).l.length co) (wuOf s).l:=by
 refine h.mono ?_
 rintro e w' ⟨hB,hp⟩
 unfold wuOf
 cases hr:writeS s with
 | some u =>
  rw [hr] at hp
  obtain ⟨v,h2,h3⟩:=hp
  obtain ⟨Ai,ci,rfl⟩:=RForm h3
  exact ⟨hB,Ai,ci,h2,h3⟩
 | none =>
  rw [hr] at hp
  exact ⟨hB,none,0,hp,Kd.R_nil _ _ _ _ _⟩
def Back (s:SS) (u:WU):Prop:=u.e=2∨(u.e=0∧(u.l.length≤1073741824∧∀ o ∈ u.l,szL o.f3≤1073741824)∧∃ b,readT ⟨u.v,u.c,u.l,false,⟨#[]⟩⟩=.ok b∧sameS false b s=true∧b.cpu=s.cpu∧b.items.length=s.items.length∧∀ i ∈ b.items,szEs i.ents≤1073741824)
theorem wu_back {s:SS} (hn:s.items.length≤1073741824) (hs:∀ i ∈ s.items,szEs i.ents≤1073741824):Back s (wuOf s):=by
 unfold wuOf
 cases hr:writeS s with
 | none=>exact .inl rfl
 | some u =>
  obtain ⟨rfl,b,hb,hsb⟩:=write_back hr
  refine .inr ⟨rfl,⟨by show (layT s).f2.length≤_;rw [lay_len];exact hn,lay_sz hs⟩,b,hb,hsb,back_sz hsb hs⟩
theorem es_len:∀ l:List SE,l.length≤szEs l
 | []=>Nat.zero_le _
 | ⟨n,sp,m,au,wd,ps⟩ :: r=>by
  have:=es_len r
  simp only [szEs,szE,List.length_cons]
  omega
set_option maxHeartbeats 64000000 in
noncomputable def owSplit (eb:Int→Addr) (t:ST) (A:Option Addr) (c:Nat) (w:World) (hs:∀ o ∈ t.f2,szL o.f3≤1048576) (hn:t.f2.length≤1048576) (hC:Kd.C k44 w A t.f2.length t.f2) (hG:EGlob eb w) (hGl:Glob w) (hT:w.cell? ⟨4,0,none⟩=some (.iface 226 (.agg #[.pointer (some ⟨15,84,none⟩)]))):OwSplit (Calls Tryz.prog 11 #[.agg (treC t A c)] w fun e w'=>e=.returned (.bool true)∧Below w.heap.size w w'):=by
 apply OwSplit.mk
 case go =>
 intro K1 K2
 have HRD:Hid (∀ W,Below w.heap.size w W→Calls Tryz.prog 29 #[.agg (treC t A c)] W (ReadPost t W)):=Lib.hid (fun W hB=>read_calls eb t A c W (fun o ho=>Nat.le_trans (hs o ho) (by decide)) (Nat.le_trans hn (by decide)) (Kd.C_below hC hB) (hG.below hB) ((hB.cell (World.block_lt_of_cell? w _ hT)).trans hT))
 have HRF:Hid (∀ W,Below w.heap.size w W→Calls Tryz.prog 30 #[.agg (treC t A c)] W (ReadPost t W)):=Lib.hid (fun W hB=>rread_calls t A c W (fun o ho=>Nat.le_trans (hs o ho) (by decide)) (Nat.le_trans hn (by decide)) (Kd.C_below hC hB))
 have HHD:Hid (∀ W,Below w.heap.size w W→Calls Tryz.prog 28 #[] W fun e w'=>e=.returned (.bool true)∧Below w.heap.size w w'):=Lib.hid (fun W hB=>(heads_calls eb W (hG.below hB) (hGl.below hB) ((hB.cell (World.block_lt_of_cell? w _ hT)).trans hT)).mono (fun e w' hp=>⟨hp.1,hB.trans (hp.2.mono hB.size)⟩))
 have HR1:=Lib.hid (fun W hB=>read_any (HRD.out W hB))
 have HR2:=Lib.hid (fun W hB=>read_any (HRF.out W hB))
 have hlen:=sh_len hn
 have hsz:=sh_sz hs
 have HBK:=Lib.hid (wu_back hlen hsz)
 have HWR:Hid (∀ W Ax cx,Below w.heap.size w W→Kd.C kItem W Ax (shOf (readT t)).items.length (shOf (readT t)).items→Calls Tryz.prog 32 #[.agg #[.string (shOf (readT t)).cpu,.slice Ax (shOf (readT t)).items.length cx]] W fun e w'=>Below W.heap.size W w'∧∃ (Ao:Option Addr) (co:Nat),e=.returned (.tuple #[.agg #[.string (wuOf (shOf (readT t))).v,.string (wuOf (shOf (readT t))).c,.slice Ao (wuOf (shOf (readT t))).l.length co,.bool false,.string ⟨#[]⟩],.int .i64 (wuOf (shOf (readT t))).e])∧Kd.R k44 44 w' W.heap.size (fun _=>True) (.slice Ao (wuOf (shOf (readT t))).l.length co) (wuOf (shOf (readT t))).l):=Lib.hid (fun W Ax cx hB hCI=>write_any (write_calls eb (shOf (readT t)) Ax cx W hsz hlen hCI (hG.below hB) (hGl.below hB) ((hB.cell (World.block_lt_of_cell? w _ hT)).trans hT)))
 have HRU:Hid (∀ (T:ST) Ax cx W,(T.f2.length≤1073741824∧∀ o ∈ T.f2,szL o.f3≤1073741824)→Below w.heap.size w W→Kd.C k44 W Ax T.f2.length T.f2→Calls Tryz.prog 29 #[.agg (treC T Ax cx)] W (ReadPost T W)):=Lib.hid (fun T Ax cx W hz hB hCT=>read_calls eb T Ax cx W hz.2 hz.1 hCT (hG.below hB) ((hB.cell (World.block_lt_of_cell? w _ hT)).trans hT))
 generalize wuOf (shOf (readT t))=U at HBK HWR
 generalize shOf (readT t)=S at HR1 HR2 hlen hsz HBK HWR
 generalize ftOf (readT t)=F at HR1 HR2
 have HSM:Hid (∀ W Ax cx Ay cy,Kd.C kItem W Ax S.items.length S.items→Kd.C kItem W Ay S.items.length S.items→Calls Tryz.prog 31 #[.agg #[.string S.cpu,.slice Ax S.items.length cx],.agg #[.string S.cpu,.slice Ay S.items.length cy],.bool true] W fun e w'=>e=.returned (.bool true)∧Below W.heap.size W w'):=Lib.hid (fun W Ax cx Ay cy h1 h2=>rsameS_calls true S S Ax Ay cx cy W h1 h2 (sameS_refl true S) hlen hsz)
 have HLN:=Lib.hid hlen
 have HSZ:Hid (∀ i ∈ S.items,i.ents.length≤1073741824):=Lib.hid (fun i hi=>Nat.le_trans (es_len _) (hsz i hi))
 clear HRD HRF hsz
 unfold treC at HR1 HR2 ⊢
 generalize t.f2.length=N at HR1 HR2 ⊢
 obtain ⟨uv,uc,ul,ue⟩:=U
 obtain ⟨cp,its⟩:=S
 dsimp only at HR1 HR2 HSM hlen HWR HBK HLN HSZ
 generalize hni:its.length=ni at HR1 HR2 HSM hlen HWR HLN
 have HNI:=Lib.hid hni
 clear hni
 generalize hm:ul.length=m at HWR
 have HM:=Lib.hid hm
 clear hm
 have tkA:True:=trivial
 have tkB:True:=trivial
 have tkC:True:=trivial
 have tkD:True:=trivial
 have tkE:True:=trivial
 go_enter Tryz.func11,Tryz.ntmps11
 go_upto_region 2 with (first
  | (refine run_event rfl (.box 24 _) rfl (.pointer (some ⟨w.heap.size,0,none⟩)) (w.alloc (.cells #[.string t.f0,.string t.f1,.slice A N c,.bool t.f3,.string t.f4] 24)) (by kernel_rfl) ?_;intro w1 hw1;have B1:Hid (Below w.heap.size w w1):=Lib.hid (by rw [hw1];exact alloc_below _ _);have E1:Hid (w1.heap[w.heap.size]?=some (.cells #[.string t.f0,.string t.f1,.slice A N c,.bool t.f3,.string t.f4] 24 (0,0))):=Lib.hid (by rw [hw1];exact heap_alloc_new _ _);clear hw1;obtain ⟨c0,c1,c2,c3,c4⟩:=tre_cells E1.out)
  | (go_at_call 29;refine (HR1.out w1 B1.out).mono ?_;rintro e u1 ⟨hB1,Au,cu,rfl,hR1⟩;have C1u:=Lib.hid hB1;have R1u:=Lib.hid hR1;clear hB1 hR1 c0 c1 c2 c3 c4)
  | (have _t:=tkA;refine run_event rfl (.alloc 64) rfl (.pointer (some ⟨u1.heap.size,0,none⟩)) (u1.alloc (.cells sh0 64)) (by kernel_rfl) ?_;intro u2 hu2;have Bu2:Hid (Below u1.heap.size u1 u2):=Lib.hid (by rw [hu2];exact alloc_below _ _);have Eu2:Hid (u2.heap[u1.heap.size]?=some (.cells sh0 64 (0,0))):=Lib.hid (by rw [hu2];exact heap_alloc_new _ _);clear hu2 tkA _t)
  | (have _t:=tkB;refine run_event rfl (.alloc 66) rfl (.pointer (some ⟨u2.heap.size,0,none⟩)) (u2.alloc (.cells fa0 66)) (by kernel_rfl) ?_;intro u3 hu3;have Bu3:Hid (Below u2.heap.size u2 u3):=Lib.hid (by rw [hu3];exact alloc_below _ _);have Eu3:Hid (u3.heap[u2.heap.size]?=some (.cells fa0 66 (0,0))):=Lib.hid (by rw [hu3];exact heap_alloc_new _ _);have E23u:=Lib.hid (blk_b Eu2.out Bu3.out);clear hu3 tkB _t)
  | ((with_reducible refine gate_store (t:=64) (p:=3) rfl ?_);refine put_event rfl 64 _ _ rfl u1.heap.size #[.string cp,.slice Au ni cu] rfl rfl 64 sh0 E23u.out (by kernel_rfl) rfl (by simp [Value.oneCell']) u1.heap.size (Nat.le_refl _) ?_;intro u4 hb4 hB4 hs4 ho4;have E4u:=Lib.hid hb4;have B4u:=Lib.hid hB4;have E34u:=Lib.hid ((ho4 u2.heap.size (blk_ne Eu3.out E23u.out (by decide))).trans Eu3.out);clear hb4 hB4 hs4 ho4)
  | ((with_reducible refine gate_store (t:=66) (p:=4) rfl ?_);refine put_event rfl 66 _ _ rfl u2.heap.size #[.int .i64 F.code,.int .i64 F.spot.f0,.int .i64 F.spot.f1,.int .i64 F.spot.f2,.string F.name] rfl rfl 66 fa0 E34u.out (by kernel_rfl) rfl (by simp [Value.oneCell']) u2.heap.size (Nat.le_refl _) ?_;intro u5 hb5 hB5 hs5 ho5;have F5u:Hid (u5.heap[u2.heap.size]?=some (.cells #[.int .i64 F.code,.int .i64 F.spot.f0,.int .i64 F.spot.f1,.int .i64 F.spot.f2,.string F.name] 66 (0,0))):=Lib.hid hb5;have S5u:Hid (u5.heap[u1.heap.size]?=some (.cells #[.string cp,.slice Au ni cu] 64 (0,0))):=Lib.hid ((ho5 u1.heap.size (blk_ne E4u.out E34u.out (by decide))).trans E4u.out);have BUu:Hid (Below u1.heap.size u1 u5):=Lib.hid (((Bu2.out.trans (Bu3.out.mono Bu2.out.size)).trans B4u.out).trans (hB5.mono Bu2.out.size));clear hb5 hB5 hs5 ho5 Bu2 Eu2 Bu3 Eu3 E23u E4u B4u E34u))
 have BU:Hid (Below w.heap.size w u5):=Lib.hid (B1.out.trans ((C1u.out.trans (BUu.out.mono C1u.out.size)).mono B1.out.size))
 have T5:=Lib.hid (blk_b E1.out (C1u.out.trans (BUu.out.mono C1u.out.size)))
 have R5:=Lib.hid (Kd.R_below (Kd.R_mono (Kd.R_bound R1u.out) (fun k hk=>show k<u1.heap.size from hk.2.2.1)) BUu.out)
 have HZ1:Hid (w.heap.size<w1.heap.size∧w1.heap.size≤u1.heap.size):=Lib.hid ⟨(Array.getElem?_eq_some_iff.1 E1.out).1,C1u.out.size⟩
 have HU5:Hid (u1.heap.size<u5.heap.size):=Lib.hid (Array.getElem?_eq_some_iff.1 S5u.out).1
 clear R1u C1u BUu E1 F5u B1
 obtain ⟨c0,c1,c2,c3,c4⟩:=tre_cells T5.out
 go_upto_region 3 with (first
  | (go_at_call 30;refine (HR2.out u5 BU.out).mono ?_;rintro e x1 ⟨hB1,Ax,cx,rfl,hR1⟩;have C1x:=Lib.hid hB1;have R1x:=Lib.hid hR1;clear hB1 hR1 c0 c1 c2 c3 c4)
  | (have _t:=tkC;refine run_event rfl (.alloc 64) rfl (.pointer (some ⟨x1.heap.size,0,none⟩)) (x1.alloc (.cells sh0 64)) (by kernel_rfl) ?_;intro x2 hx2;have Bx2:Hid (Below x1.heap.size x1 x2):=Lib.hid (by rw [hx2];exact alloc_below _ _);have Ex2:Hid (x2.heap[x1.heap.size]?=some (.cells sh0 64 (0,0))):=Lib.hid (by rw [hx2];exact heap_alloc_new _ _);clear hx2 tkC _t)
  | (have _t:=tkD;refine run_event rfl (.alloc 66) rfl (.pointer (some ⟨x2.heap.size,0,none⟩)) (x2.alloc (.cells fa0 66)) (by kernel_rfl) ?_;intro x3 hx3;have Bx3:Hid (Below x2.heap.size x2 x3):=Lib.hid (by rw [hx3];exact alloc_below _ _);have Ex3:Hid (x3.heap[x2.heap.size]?=some (.cells fa0 66 (0,0))):=Lib.hid (by rw [hx3];exact heap_alloc_new _ _);have E23x:=Lib.hid (blk_b Ex2.out Bx3.out);clear hx3 tkD _t)
  | ((with_reducible refine gate_store (t:=64) (p:=5) rfl ?_);refine put_event rfl 64 _ _ rfl x1.heap.size #[.string cp,.slice Ax ni cx] rfl rfl 64 sh0 E23x.out (by kernel_rfl) rfl (by simp [Value.oneCell']) x1.heap.size (Nat.le_refl _) ?_;intro x4 hb4 hB4 hs4 ho4;have E4x:=Lib.hid hb4;have B4x:=Lib.hid hB4;have E34x:=Lib.hid ((ho4 x2.heap.size (blk_ne Ex3.out E23x.out (by decide))).trans Ex3.out);clear hb4 hB4 hs4 ho4)
  | ((with_reducible refine gate_store (t:=66) (p:=6) rfl ?_);refine put_event rfl 66 _ _ rfl x2.heap.size #[.int .i64 F.code,.int .i64 F.spot.f0,.int .i64 F.spot.f1,.int .i64 F.spot.f2,.string F.name] rfl rfl 66 fa0 E34x.out (by kernel_rfl) rfl (by simp [Value.oneCell']) x2.heap.size (Nat.le_refl _) ?_;intro x5 hb5 hB5 hs5 ho5;have F5x:Hid (x5.heap[x2.heap.size]?=some (.cells #[.int .i64 F.code,.int .i64 F.spot.f0,.int .i64 F.spot.f1,.int .i64 F.spot.f2,.string F.name] 66 (0,0))):=Lib.hid hb5;have S5x:Hid (x5.heap[x1.heap.size]?=some (.cells #[.string cp,.slice Ax ni cx] 64 (0,0))):=Lib.hid ((ho5 x1.heap.size (blk_ne E4x.out E34x.out (by decide))).trans E4x.out);have BUx:Hid (Below x1.heap.size x1 x5):=Lib.hid (((Bx2.out.trans (Bx3.out.mono Bx2.out.size)).trans B4x.out).trans (hB5.mono Bx2.out.size));clear hb5 hB5 hs5 ho5 Bx2 Ex2 Bx3 Ex3 E23x E4x B4x E34x))
 have BX:Hid (Below u5.heap.size u5 x5):=Lib.hid (C1x.out.trans (BUx.out.mono C1x.out.size))
 have BW:Hid (Below w.heap.size w x5):=Lib.hid (BU.out.trans (BX.out.mono BU.out.size))
 have SU:=Lib.hid (blk_b S5u.out BX.out)
 have TX:=Lib.hid (blk_b T5.out BX.out)
 have RX:=Lib.hid (Kd.R_below R1x.out BUx.out)
 have RU:=Lib.hid (Kd.R_below R5.out BX.out)
 have SX:=S5x
 have HX1:Hid (u5.heap.size≤x1.heap.size):=Lib.hid C1x.out.size
 clear HR2 R1x C1x BUx F5x S5u T5 R5
 have HW1:=Lib.hid (HWR.out x5 Au cu BW.out (by have h:=(Kd.R_reads' RU.out).2.2;rw [HNI.out] at h;exact h))
 obtain ⟨s0,s1⟩:=she_cells SU.out
 go_upto_region 4 with (first
  | (go_at_call 32;refine HW1.out.mono ?_;rintro e q1 ⟨hB1,Ao,co,rfl,hR1⟩;have C1q:=Lib.hid hB1;have R1q:=Lib.hid hR1;clear hB1 hR1 s0 s1)
  | (have _t:=tkE;refine run_event rfl (.alloc 24) rfl (.pointer (some ⟨q1.heap.size,0,none⟩)) (q1.alloc (.cells tr0 24)) (by kernel_rfl) ?_;intro q2 hq2;have Bq2:Hid (Below q1.heap.size q1 q2):=Lib.hid (by rw [hq2];exact alloc_below _ _);have Eq2:Hid (q2.heap[q1.heap.size]?=some (.cells tr0 24 (0,0))):=Lib.hid (by rw [hq2];exact heap_alloc_new _ _);clear hq2 tkE _t)
  | ((with_reducible refine gate_store (t:=24) (p:=7) rfl ?_);refine put_event rfl 24 _ _ rfl q1.heap.size #[.string uv,.string uc,.slice Ao m co,.bool false,.string ⟨#[]⟩] rfl rfl 24 tr0 Eq2.out (by kernel_rfl) rfl (by simp [Value.oneCell']) q1.heap.size (Nat.le_refl _) ?_;intro q3 hbq3 hBq3 hsq3 hoq3;have Gq3:Hid (q3.heap[q1.heap.size]?=some (.cells #[.string uv,.string uc,.slice Ao m co,.bool false,.string ⟨#[]⟩] 24 (0,0))):=Lib.hid hbq3;have Dq3:Hid (Below q1.heap.size q1 q3):=Lib.hid (Bq2.out.trans hBq3);clear hbq3 hBq3 hsq3 hoq3;clear Bq2 Eq2))
 have BQ:Hid (Below x5.heap.size x5 q3):=Lib.hid (C1q.out.trans (Dq3.out.mono C1q.out.size))
 have BWQ:Hid (Below w.heap.size w q3):=Lib.hid (BW.out.trans (BQ.out.mono BW.out.size))
 have SU3:=Lib.hid (blk_b SU.out BQ.out)
 have SX3:=Lib.hid (blk_b SX.out BQ.out)
 have TX3:=Lib.hid (blk_b TX.out BQ.out)
 have RX3:=Lib.hid (Kd.R_below RX.out BQ.out)
 have RU3:=Lib.hid (Kd.R_below RU.out BQ.out)
 have RO3:=Lib.hid (Kd.R_below R1q.out Dq3.out)
 have HZ2:Hid (u1.heap.size<u5.heap.size∧u5.heap.size≤x1.heap.size∧x1.heap.size<x5.heap.size∧x5.heap.size≤q1.heap.size∧q1.heap.size<q3.heap.size):=Lib.hid ⟨HU5.out,HX1.out,(Array.getElem?_eq_some_iff.1 SX.out).1,C1q.out.size,(Array.getElem?_eq_some_iff.1 Gq3.out).1⟩
 have HGI:Hid (∃ gI,0<its.length→Au=some ⟨gI,0,none⟩∧w1.heap.size≤gI∧gI<u1.heap.size):=Lib.hid (by
  rcases Nat.eq_zero_or_pos its.length with hz | hz
  ·exact ⟨0,fun h=>by omega⟩
  ·obtain ⟨g,cap,hv,hb,_,_⟩:=Kd.R_form RU3.out hz
   injection hv with ha _ _
   exact ⟨g,fun _=>⟨ha,hb,RU3.out.1 g (by rw [ha];rfl)⟩⟩)
 obtain ⟨gI,hgI⟩:=HGI.out
 have HGI2:=Lib.hid hgI
 have HO0:Hid (OI q3 w1.heap.size u1.heap.size gI its q3):=Lib.hid (oi_start HZ1.out.2 (by have:=HZ2.out;omega) (by rw [HNI.out];exact RU3.out) (fun hp=>(hgI hp).1))
 clear hgI HGI RU SU SX TX RX R1q C1q Dq3 BU BX BW HW1 HWR HX1 HU5
 go_wp2_with fail
 go_loopw [9] (fun v W=>∃ i:Nat,v=.int .i64 (i:Int)∧i≤ni∧Hid (OI q3 w1.heap.size u1.heap.size gI its W)) (fun v _=>ni - (intOf v).toNat)
 case atStart=>exact ⟨0,by go_num,by omega,HO0⟩
 case round =>
  obtain ⟨i,rfl,hi,HO⟩:=hrel
  have SUr:Hid (wr.heap[u1.heap.size]?=some (.cells #[.string cp,.slice Au ni cu] 64 (0,0))):=Lib.hid ((HO.out.up _ (Nat.le_refl _) (by have:=HZ2.out;omega)).trans SU3.out)
  by_cases hin:i<ni
  ·clear HR1 HBK HSM HRU HHD RX3 RO3 RU3 TX3 SX3 Gq3 BQ BWQ HO0
   rename_i n0_ n1_ n2_
   revert F N uv uc ul ue cp its HSZ ni hlen HLN HNI m HM n0_ w1 u1 Au cu u2 u3 u4 u5 HZ1 x1 Ax cx x2 x3 x4 x5 S5x q1 Ao co q2 q3 n1_ n2_ SU3 HZ2 gI HGI2 wr u10 u11 u12 u13 u35 u36 u37 u38 u39 u40 u41 u42 u43 u44 u45 u46 u47 u48 u49 u50 u51 u52 u53 u54 u55 u56 u57 u58 u59 u60 u61 u62 u63 u64 u65 u66 u67 u68 u69 u70 u71 u72 u73 u74 u75 u76 u77 u78 u79 u80 u81 u82 u83 u84 u85 u86 u87 u88 i hi HO SUr hin
   exact K1.out
  ·clear HGI2 HSZ HO0 SU3
   rename_i n0_ n1_ n2_
   revert HHD HRU F N uv uc ul ue cp its HBK ni HR1 HSM hlen HLN HNI m HM n0_ w1 u1 Au cu u2 u3 u4 u5 HZ1 x1 Ax cx x2 x3 x4 x5 S5x q1 Ao co q2 q3 Gq3 n1_ n2_ BQ BWQ SX3 TX3 RX3 RU3 RO3 HZ2 gI wr u10 u11 u12 u13 u35 u36 u37 u38 u39 u40 u41 u42 u43 u44 u45 u46 u47 u48 u49 u50 u51 u52 u53 u54 u55 u56 u57 u58 u59 u60 u61 u62 u63 u64 u65 u66 u67 u68 u69 u70 u71 u72 u73 u74 u75 u76 u77 u78 u79 u80 u81 u82 u83 u84 u85 u86 u87 u88 i hi HO SUr hin
   exact K2.out
end Go.Proofs.YtmfejjlmflgnbaaGreatDoor.Sc

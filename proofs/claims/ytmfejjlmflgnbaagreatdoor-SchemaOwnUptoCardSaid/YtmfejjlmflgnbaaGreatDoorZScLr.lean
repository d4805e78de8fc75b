/- THE LAW SchemaReads, its walk. -/
import Derived.Test.YtmfejjlmflgnbaaGreatDoorZScHx
import Derived.Test.YtmfejjlmflgnbaaGreatDoorZRd
namespace Go.Proofs.YtmfejjlmflgnbaaGreatDoor.Sc
open Go.RowKit Go.Proofs.YtmfejjlmflgnbaaGreatDoor.PA Go.Proofs.YtmfejjlmflgnbaaGreatDoorW.PrintWords Go.Proofs.YtmfejjlmflgnbaaGreatDoorW.PrintLast Go.Proofs.YtmfejjlmflgnbaaGreatDoorW.PrintMore Go.Proofs.YtmfejjlmflgnbaaGreatDoor.Sp Go.Proofs.YtmfejjlmflgnbaaGreatDoor.Tr Go.Proofs.YtmfejjlmflgnbaaGreatDoor.Tok
set_option linter.unusedVariables false
set_option linter.unusedSimpArgs false
set_option maxRecDepth 100000
def shOf:Except SF SS→SS
 | .ok s=>s
 | .error _=>⟨⟨#[]⟩,[]⟩
def ftOf:Except SF SS→SF
 | .ok _=>⟨0,z41,⟨#[]⟩⟩
 | .error f=>f
theorem read_any {t:ST} {w:World} {fn:Nat} {args:Array Value} (h:Calls Tryz.prog fn args w (ReadPost t w)):Calls Tryz.prog fn args w fun e w'=>Below w.heap.size w w'∧∃ (Ai:Option Addr) (ci:Nat),e=.returned (.tuple #[.agg #[.string (shOf (readT t)).cpu,.slice Ai (shOf (readT t)).items.length ci],.agg #[.int .i64 (ftOf (readT t)).code,.int .i64 (ftOf (readT t)).spot.f0,.int .i64 (ftOf (readT t)).spot.f1,.int .i64 (ftOf (readT t)).spot.f2,.string (ftOf (readT t)).name]])∧Kd.R kItem 78 w' w.heap.size (fun _=>True) (.slice Ai (shOf (readT t)).items.length ci) (shOf (readT t)).items:=by
 refine h.mono ?_
 rintro e w' ⟨hB,hp⟩
 cases hr:readT t with
 | ok s =>
  rw [hr] at hp
  obtain ⟨v,h2,h3⟩:=hp
  obtain ⟨Ai,ci,rfl⟩:=RForm h3
  exact ⟨hB,Ai,ci,h2,h3⟩
 | error f =>
  rw [hr] at hp
  exact ⟨hB,none,0,hp,Kd.R_nil _ _ _ _ _⟩
mutual
theorem sameE_refl:∀ (s:Bool) (a:SE),sameE s a a=true
 | s,⟨n,sp,m,au,wd,ps⟩=>by simp [sameE,sameP,sameEs_refl s ps]
theorem sameEs_refl:∀ (s:Bool) (a:List SE),sameEs s a a=true
 | s,[]=>rfl
 | s,x :: a=>by rw [sameEs,sameE_refl s x,sameEs_refl s a];rfl
end
theorem sameIs_refl:∀ (s:Bool) (a:List SI),sameIs s a a=true
 | s,[]=>rfl
 | s,x :: a=>by rw [sameIs,sameIs_refl s a];simp [sameI,sameP,sameEs_refl s x.ents]
theorem sameS_refl (s:Bool) (a:SS):sameS s a a=true:=by simp [sameS,sameIs_refl s a.items]
theorem sh_len {t:ST} (hn:t.f2.length≤1048576):(shOf (readT t)).items.length≤1073741824:=by
 cases hr:readT t with
 | ok s =>
  obtain ⟨_,h,_⟩:=readT_get hr
  show s.items.length≤_
  omega
 | error f=>exact Nat.zero_le _
theorem sh_sz {t:ST} (hs:∀ o ∈ t.f2,szL o.f3≤1048576):∀ i ∈ (shOf (readT t)).items,szEs i.ents≤1073741824:=by
 cases hr:readT t with
 | ok s=>exact readT_sz hr hs
 | error f=>exact fun i hi=>absurd hi List.not_mem_nil
set_option maxHeartbeats 64000000 in
theorem reads_calls (eb:Int→Addr) (t:ST) (A:Option Addr) (c:Nat) (w:World) (hs:∀ o ∈ t.f2,szL o.f3≤1048576) (hn:t.f2.length≤1048576) (hC:Kd.C k44 w A t.f2.length t.f2) (hG:EGlob eb w) (hGl:Glob w) (hT:w.cell? ⟨4,0,none⟩=some (.iface 226 (.agg #[.pointer (some ⟨15,84,none⟩)]))) :
  Calls Tryz.prog 8 #[.agg (treC t A c)] w fun e w'=>e=.returned (.bool true)∧Below w.heap.size w w':=by
 have HRD:Hid (∀ W,Below w.heap.size w W→Calls Tryz.prog 29 #[.agg (treC t A c)] W (ReadPost t W)):=Lib.hid (fun W hB=>read_calls eb t A c W (fun o ho=>Nat.le_trans (hs o ho) (by decide)) (Nat.le_trans hn (by decide)) (Kd.C_below hC hB) (hG.below hB) ((hB.cell (World.block_lt_of_cell? w _ hT)).trans hT))
 have HRF:Hid (∀ W,Below w.heap.size w W→Calls Tryz.prog 30 #[.agg (treC t A c)] W (ReadPost t W)):=Lib.hid (fun W hB=>rread_calls t A c W (fun o ho=>Nat.le_trans (hs o ho) (by decide)) (Nat.le_trans hn (by decide)) (Kd.C_below hC hB))
 have HHD:Hid (∀ W,Below w.heap.size w W→Calls Tryz.prog 28 #[] W fun e w'=>e=.returned (.bool true)∧Below w.heap.size w w'):=Lib.hid (fun W hB=>(heads_calls eb W (hG.below hB) (hGl.below hB) ((hB.cell (World.block_lt_of_cell? w _ hT)).trans hT)).mono (fun e w' hp=>⟨hp.1,hB.trans (hp.2.mono hB.size)⟩))
 have HR1:=Lib.hid (fun W hB=>read_any (HRD.out W hB))
 have HR2:=Lib.hid (fun W hB=>read_any (HRF.out W hB))
 have hlen:=sh_len hn
 have HSZ:=Lib.hid (sh_sz hs)
 generalize shOf (readT t)=S at HR1 HR2 hlen HSZ
 generalize ftOf (readT t)=F at HR1 HR2
 have HSM:Hid (∀ W Ax cx Ay cy,Kd.C kItem W Ax S.items.length S.items→Kd.C kItem W Ay S.items.length S.items→Calls Tryz.prog 31 #[.agg #[.string S.cpu,.slice Ax S.items.length cx],.agg #[.string S.cpu,.slice Ay S.items.length cy],.bool true] W fun e w'=>e=.returned (.bool true)∧Below W.heap.size W w'):=Lib.hid (fun W Ax cx Ay cy h1 h2=>rsameS_calls true S S Ax Ay cx cy W h1 h2 (sameS_refl true S) hlen HSZ.out)
 clear HRD HRF HSZ hs hn hC hG hGl hT hlen
 unfold treC at HR1 HR2 ⊢
 generalize t.f2.length=N at HR1 HR2 ⊢
 obtain ⟨cp,its⟩:=S
 dsimp only at HR1 HR2 HSM
 generalize hni:its.length=ni at HR1 HR2 HSM
 have HNI:=Lib.hid hni
 clear hni
 have tkA:True:=trivial
 have tkB:True:=trivial
 have tkC:True:=trivial
 have tkD:True:=trivial
 go_enter Tryz.func8,Tryz.ntmps8
 go_upto_region 2 with (first
  | (refine run_event rfl (.box 24 _) rfl (.pointer (some ⟨w.heap.size,0,none⟩)) (w.alloc (.cells #[.string t.f0,.string t.f1,.slice A N c,.bool t.f3,.string t.f4] 24)) (by kernel_rfl) ?_;intro w1 hw1;have B1:Hid (Below w.heap.size w w1):=Lib.hid (by rw [hw1];exact alloc_below _ _);have E1:Hid (w1.heap[w.heap.size]?=some (.cells #[.string t.f0,.string t.f1,.slice A N c,.bool t.f3,.string t.f4] 24 (0,0))):=Lib.hid (by rw [hw1];exact heap_alloc_new _ _);clear hw1;obtain ⟨c0,c1,c2,c3,c4⟩:=tre_cells E1.out)
  | (go_at_call 29;refine (HR1.out w1 B1.out).mono ?_;rintro e u1 ⟨hB1,Au,cu,rfl,hR1⟩;have C1u:=Lib.hid hB1;have R1u:=Lib.hid hR1;clear hB1 hR1 c0 c1 c2 c3 c4)
  | (have _t:=tkA;refine run_event rfl (.alloc 64) rfl (.pointer (some ⟨u1.heap.size,0,none⟩)) (u1.alloc (.cells sh0 64)) (by kernel_rfl) ?_;intro u2 hu2;have Bu2:Hid (Below u1.heap.size u1 u2):=Lib.hid (by rw [hu2];exact alloc_below _ _);have Eu2:Hid (u2.heap[u1.heap.size]?=some (.cells sh0 64 (0,0))):=Lib.hid (by rw [hu2];exact heap_alloc_new _ _);clear hu2 tkA _t)
  | (have _t:=tkB;refine run_event rfl (.alloc 66) rfl (.pointer (some ⟨u2.heap.size,0,none⟩)) (u2.alloc (.cells fa0 66)) (by kernel_rfl) ?_;intro u3 hu3;have Bu3:Hid (Below u2.heap.size u2 u3):=Lib.hid (by rw [hu3];exact alloc_below _ _);have Eu3:Hid (u3.heap[u2.heap.size]?=some (.cells fa0 66 (0,0))):=Lib.hid (by rw [hu3];exact heap_alloc_new _ _);have E23u:=Lib.hid (blk_b Eu2.out Bu3.out);clear hu3 tkB _t)
  | ((with_reducible refine gate_store (t:=64) (p:=3) rfl ?_);refine put_event rfl 64 _ _ rfl u1.heap.size #[.string cp,.slice Au ni cu] rfl rfl 64 sh0 E23u.out (by kernel_rfl) rfl (by simp [Value.oneCell']) u1.heap.size (Nat.le_refl _) ?_;intro u4 hb4 hB4 hs4 ho4;have E4u:=Lib.hid hb4;have B4u:=Lib.hid hB4;have E34u:=Lib.hid ((ho4 u2.heap.size (blk_ne Eu3.out E23u.out (by decide))).trans Eu3.out);clear hb4 hB4 hs4 ho4)
  | ((with_reducible refine gate_store (t:=66) (p:=4) rfl ?_);refine put_event rfl 66 _ _ rfl u2.heap.size #[.int .i64 F.code,.int .i64 F.spot.f0,.int .i64 F.spot.f1,.int .i64 F.spot.f2,.string F.name] rfl rfl 66 fa0 E34u.out (by kernel_rfl) rfl (by simp [Value.oneCell']) u2.heap.size (Nat.le_refl _) ?_;intro u5 hb5 hB5 hs5 ho5;have F5u:Hid (u5.heap[u2.heap.size]?=some (.cells #[.int .i64 F.code,.int .i64 F.spot.f0,.int .i64 F.spot.f1,.int .i64 F.spot.f2,.string F.name] 66 (0,0))):=Lib.hid hb5;have S5u:Hid (u5.heap[u1.heap.size]?=some (.cells #[.string cp,.slice Au ni cu] 64 (0,0))):=Lib.hid ((ho5 u1.heap.size (blk_ne E4u.out E34u.out (by decide))).trans E4u.out);have BUu:Hid (Below u1.heap.size u1 u5):=Lib.hid (((Bu2.out.trans (Bu3.out.mono Bu2.out.size)).trans B4u.out).trans (hB5.mono Bu2.out.size));clear hb5 hB5 hs5 ho5 Bu2 Eu2 Bu3 Eu3 E23u E4u B4u E34u))
 have BU:Hid (Below w.heap.size w u5):=Lib.hid (B1.out.trans ((C1u.out.trans (BUu.out.mono C1u.out.size)).mono B1.out.size))
 have T5:=Lib.hid (blk_b E1.out (C1u.out.trans (BUu.out.mono C1u.out.size)))
 have R5:=Lib.hid (Kd.R_below R1u.out BUu.out)
 clear R1u C1u BUu E1
 obtain ⟨c0,c1,c2,c3,c4⟩:=tre_cells T5.out
 go_upto_region 3 with (first
  | (go_at_call 30;refine (HR2.out u5 BU.out).mono ?_;rintro e x1 ⟨hB1,Ax,cx,rfl,hR1⟩;have C1x:=Lib.hid hB1;have R1x:=Lib.hid hR1;clear hB1 hR1 c0 c1 c2 c3 c4)
  | (have _t:=tkC;refine run_event rfl (.alloc 64) rfl (.pointer (some ⟨x1.heap.size,0,none⟩)) (x1.alloc (.cells sh0 64)) (by kernel_rfl) ?_;intro x2 hx2;have Bx2:Hid (Below x1.heap.size x1 x2):=Lib.hid (by rw [hx2];exact alloc_below _ _);have Ex2:Hid (x2.heap[x1.heap.size]?=some (.cells sh0 64 (0,0))):=Lib.hid (by rw [hx2];exact heap_alloc_new _ _);clear hx2 tkC _t)
  | (have _t:=tkD;refine run_event rfl (.alloc 66) rfl (.pointer (some ⟨x2.heap.size,0,none⟩)) (x2.alloc (.cells fa0 66)) (by kernel_rfl) ?_;intro x3 hx3;have Bx3:Hid (Below x2.heap.size x2 x3):=Lib.hid (by rw [hx3];exact alloc_below _ _);have Ex3:Hid (x3.heap[x2.heap.size]?=some (.cells fa0 66 (0,0))):=Lib.hid (by rw [hx3];exact heap_alloc_new _ _);have E23x:=Lib.hid (blk_b Ex2.out Bx3.out);clear hx3 tkD _t)
  | ((with_reducible refine gate_store (t:=64) (p:=5) rfl ?_);refine put_event rfl 64 _ _ rfl x1.heap.size #[.string cp,.slice Ax ni cx] rfl rfl 64 sh0 E23x.out (by kernel_rfl) rfl (by simp [Value.oneCell']) x1.heap.size (Nat.le_refl _) ?_;intro x4 hb4 hB4 hs4 ho4;have E4x:=Lib.hid hb4;have B4x:=Lib.hid hB4;have E34x:=Lib.hid ((ho4 x2.heap.size (blk_ne Ex3.out E23x.out (by decide))).trans Ex3.out);clear hb4 hB4 hs4 ho4)
  | ((with_reducible refine gate_store (t:=66) (p:=6) rfl ?_);refine put_event rfl 66 _ _ rfl x2.heap.size #[.int .i64 F.code,.int .i64 F.spot.f0,.int .i64 F.spot.f1,.int .i64 F.spot.f2,.string F.name] rfl rfl 66 fa0 E34x.out (by kernel_rfl) rfl (by simp [Value.oneCell']) x2.heap.size (Nat.le_refl _) ?_;intro x5 hb5 hB5 hs5 ho5;have F5x:Hid (x5.heap[x2.heap.size]?=some (.cells #[.int .i64 F.code,.int .i64 F.spot.f0,.int .i64 F.spot.f1,.int .i64 F.spot.f2,.string F.name] 66 (0,0))):=Lib.hid hb5;have S5x:Hid (x5.heap[x1.heap.size]?=some (.cells #[.string cp,.slice Ax ni cx] 64 (0,0))):=Lib.hid ((ho5 x1.heap.size (blk_ne E4x.out E34x.out (by decide))).trans E4x.out);have BUx:Hid (Below x1.heap.size x1 x5):=Lib.hid (((Bx2.out.trans (Bx3.out.mono Bx2.out.size)).trans B4x.out).trans (hB5.mono Bx2.out.size));clear hb5 hB5 hs5 ho5 Bx2 Ex2 Bx3 Ex3 E23x E4x B4x E34x))
 have BX:Hid (Below u5.heap.size u5 x5):=Lib.hid (C1x.out.trans (BUx.out.mono C1x.out.size))
 have BW:Hid (Below w.heap.size w x5):=Lib.hid (BU.out.trans (BX.out.mono BU.out.size))
 have SU:=Lib.hid (blk_b S5u.out BX.out)
 have FU:=Lib.hid (blk_b F5u.out BX.out)
 have RX:=Lib.hid (Kd.R_below R1x.out BUx.out)
 have RU:=Lib.hid (Kd.R_below R5.out BX.out)
 have HS2:Hid (Calls Tryz.prog 31 #[.agg #[.string cp,.slice Au ni cu],.agg #[.string cp,.slice Ax ni cx],.bool true] x5 fun e w'=>e=.returned (.bool true)∧Below x5.heap.size x5 w'):=Lib.hid (HSM.out x5 Au cu Ax cx (by have h:=(Kd.R_reads' RU.out).2.2;rw [HNI.out] at h;exact h) (by have h:=(Kd.R_reads' RX.out).2.2;rw [HNI.out] at h;exact h))
 clear HSM R1x C1x BUx
 obtain ⟨s0,s1⟩:=she_cells SU.out
 obtain ⟨r0,r1⟩:=she_cells S5x.out
 go_upto_region 4 with (first
  | (go_at_call 31;refine HS2.out.mono ?_;rintro e y1 ⟨rfl,hB⟩;have BY:=Lib.hid hB;clear hB s0 s1 r0 r1))
 have BWY:Hid (Below w.heap.size w y1):=Lib.hid (BW.out.trans (BY.out.mono BW.out.size))
 obtain ⟨f0,f1,f2,f3,f4⟩:=fau_cells (blk_b FU.out BY.out)
 obtain ⟨g0,g1,g2,g3,g4⟩:=fau_cells (blk_b F5x.out BY.out)
 go_wp2_with (first
  | (go_at_call 28;refine (HHD.out y1 BWY.out).mono ?_;rintro e z1 ⟨rfl,hB⟩;have BZ:=Lib.hid hB;clear hB f0 f1 f2 f3 f4 g0 g1 g2 g3 g4))
 go_ret
 exact ⟨rfl,BZ.out⟩
end Go.Proofs.YtmfejjlmflgnbaaGreatDoor.Sc

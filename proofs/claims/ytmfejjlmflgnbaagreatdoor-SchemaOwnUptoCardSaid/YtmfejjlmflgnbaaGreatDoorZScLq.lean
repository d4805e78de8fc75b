/- THE LAW SchemaOwn, its end; whole. -/
import Derived.Test.YtmfejjlmflgnbaaGreatDoorZScLp1
namespace Go.Proofs.YtmfejjlmflgnbaaGreatDoor.Sc
open Go.RowKit Go.Proofs.YtmfejjlmflgnbaaGreatDoor.PA Go.Proofs.YtmfejjlmflgnbaaGreatDoorW.PrintWords Go.Proofs.YtmfejjlmflgnbaaGreatDoorW.PrintLast Go.Proofs.YtmfejjlmflgnbaaGreatDoorW.PrintMore Go.Proofs.YtmfejjlmflgnbaaGreatDoor.Sp Go.Proofs.YtmfejjlmflgnbaaGreatDoor.Tr Go.Proofs.YtmfejjlmflgnbaaGreatDoor.Tok
set_option linter.unusedVariables false
set_option linter.unusedSimpArgs false
set_option maxRecDepth 100000
set_option maxHeartbeats 64000000 in
theorem ow_end (eb:Int→Addr) (t:ST) (A:Option Addr) (c:Nat) (w:World) (hs:∀ o ∈ t.f2,szL o.f3≤1048576) (hn:t.f2.length≤1048576) (hC:Kd.C k44 w A t.f2.length t.f2) (hG:EGlob eb w) (hGl:Glob w) (hT:w.cell? ⟨4,0,none⟩=some (.iface 226 (.agg #[.pointer (some ⟨15,84,none⟩)]))):(owSplit eb t A c w hs hn hC hG hGl hT).P2:=by
 intro HHD HRU F N uv uc ul ue cp its HBK ni HR1 HSM hlen HLN HNI m HM n0_ w1 u1 Au cu u2 u3 u4 u5 HZ1 x1 Ax cx x2 x3 x4 x5 S5x q1 Ao co q2 q3 Gq3 n1_ n2_ BQ BWQ SX3 TX3 RX3 RU3 RO3 HZ2 gI wr u10 u11 u12 u13 u35 u36 u37 u38 u39 u40 u41 u42 u43 u44 u45 u46 u47 u48 u49 u50 u51 u52 u53 u54 u55 u56 u57 u58 u59 u60 u61 u62 u63 u64 u65 u66 u67 u68 u69 u70 u71 u72 u73 u74 u75 u76 u77 u78 u79 u80 u81 u82 u83 u84 u85 u86 u87 u88 i hi HO SUr hin
 have BWr:Hid (Below w.heap.size w wr):=Lib.hid (BWQ.out.trans (HO.out.low.mono (Nat.le_of_lt HZ1.out.1)))
 have Tr:Hid (wr.heap[w.heap.size]?=some (.cells #[.string t.f0,.string t.f1,.slice A N c,.bool t.f3,.string t.f4] 24 (0,0))):=Lib.hid ((HO.out.low.block _ HZ1.out.1).trans TX3.out)
 have UP:Hid (∀ k,u1.heap.size≤k→k<q3.heap.size→wr.heap[k]?=q3.heap[k]?):=Lib.hid HO.out.up
 have SXr:Hid (wr.heap[x1.heap.size]?=some (.cells #[.string cp,.slice Ax ni cx] 64 (0,0))):=Lib.hid ((UP.out _ (by have:=HZ2.out;omega) (by have:=HZ2.out;omega)).trans SX3.out)
 have Gr:Hid (wr.heap[q1.heap.size]?=some (.cells #[.string uv,.string uc,.slice Ao m co,.bool false,.string ⟨#[]⟩] 24 (0,0))):=Lib.hid ((UP.out _ (by have:=HZ2.out;omega) (by have:=HZ2.out;omega)).trans Gq3.out)
 have RXr:Hid (Kd.R kItem 78 wr u5.heap.size (fun _=>True) (.slice Ax ni cx) its):=Lib.hid (Kd.R_mono (Kd.R_move (Kd.R_bound RX3.out) (fun k hk=>UP.out k (by have:=hk.2.1;have:=HZ2.out;omega) hk.2.2.1)) (fun _ _=>trivial))
 have ROr:Hid (Kd.R k44 44 wr x5.heap.size (fun _=>True) (.slice Ao m co) ul):=Lib.hid (Kd.R_mono (Kd.R_move (Kd.R_bound RO3.out) (fun k hk=>UP.out k (by have:=hk.2.1;have:=HZ2.out;omega) hk.2.2.1)) (fun _ _=>trivial))
 obtain ⟨s0,s1⟩:=she_cells SUr.out
 clear s0
 go_upto_region 21 with fail
 clear HO UP SX3 RX3 RO3 RU3 TX3 BQ BWQ hi hin SUr HZ2 HZ1 Gq3 s1
 have tkA:True:=trivial
 have tkB:True:=trivial
 have tkC:True:=trivial
 have tkD:True:=trivial
 obtain ⟨c0,c1,c2,c3,c4⟩:=tre_cells Tr.out
 go_upto_region 22 with (first
  | (go_at_call 29;refine (HR1.out wr BWr.out).mono ?_;rintro e y1 ⟨hB1,Ay,cy,rfl,hR1⟩;have C1y:=Lib.hid hB1;have R1y:=Lib.hid hR1;clear hB1 hR1 c0 c1 c2 c3 c4)
  | (have _t:=tkA;refine run_event rfl (.alloc 64) rfl (.pointer (some ⟨y1.heap.size,0,none⟩)) (y1.alloc (.cells sh0 64)) (by kernel_rfl) ?_;intro y2 hy2;have By2:Hid (Below y1.heap.size y1 y2):=Lib.hid (by rw [hy2];exact alloc_below _ _);have Ey2:Hid (y2.heap[y1.heap.size]?=some (.cells sh0 64 (0,0))):=Lib.hid (by rw [hy2];exact heap_alloc_new _ _);clear hy2 tkA _t)
  | (have _t:=tkB;refine run_event rfl (.alloc 66) rfl (.pointer (some ⟨y2.heap.size,0,none⟩)) (y2.alloc (.cells fa0 66)) (by kernel_rfl) ?_;intro y3 hy3;have By3:Hid (Below y2.heap.size y2 y3):=Lib.hid (by rw [hy3];exact alloc_below _ _);have Ey3:Hid (y3.heap[y2.heap.size]?=some (.cells fa0 66 (0,0))):=Lib.hid (by rw [hy3];exact heap_alloc_new _ _);have E23y:=Lib.hid (blk_b Ey2.out By3.out);clear hy3 tkB _t)
  | ((with_reducible refine gate_store (t:=64) (p:=14) rfl ?_);refine put_event rfl 64 _ _ rfl y1.heap.size #[.string cp,.slice Ay ni cy] rfl rfl 64 sh0 E23y.out (by kernel_rfl) rfl (by simp [Value.oneCell']) y1.heap.size (Nat.le_refl _) ?_;intro y4 hb4 hB4 hs4 ho4;have E4y:=Lib.hid hb4;have B4y:=Lib.hid hB4;have E34y:=Lib.hid ((ho4 y2.heap.size (blk_ne Ey3.out E23y.out (by decide))).trans Ey3.out);clear hb4 hB4 hs4 ho4)
  | ((with_reducible refine gate_store (t:=66) (p:=15) rfl ?_);refine put_event rfl 66 _ _ rfl y2.heap.size #[.int .i64 F.code,.int .i64 F.spot.f0,.int .i64 F.spot.f1,.int .i64 F.spot.f2,.string F.name] rfl rfl 66 fa0 E34y.out (by kernel_rfl) rfl (by simp [Value.oneCell']) y2.heap.size (Nat.le_refl _) ?_;intro y5 hb5 hB5 hs5 ho5;have F5y:Hid (y5.heap[y2.heap.size]?=some (.cells #[.int .i64 F.code,.int .i64 F.spot.f0,.int .i64 F.spot.f1,.int .i64 F.spot.f2,.string F.name] 66 (0,0))):=Lib.hid hb5;have S5y:Hid (y5.heap[y1.heap.size]?=some (.cells #[.string cp,.slice Ay ni cy] 64 (0,0))):=Lib.hid ((ho5 y1.heap.size (blk_ne E4y.out E34y.out (by decide))).trans E4y.out);have BUy:Hid (Below y1.heap.size y1 y5):=Lib.hid (((By2.out.trans (By3.out.mono By2.out.size)).trans B4y.out).trans (hB5.mono By2.out.size));clear hb5 hB5 hs5 ho5 By2 Ey2 By3 Ey3 E23y E4y B4y E34y))
 have BY:Hid (Below wr.heap.size wr y5):=Lib.hid (C1y.out.trans (BUy.out.mono C1y.out.size))
 have BWy:Hid (Below w.heap.size w y5):=Lib.hid (BWr.out.trans (BY.out.mono BWr.out.size))
 have RY:=Lib.hid (Kd.R_below R1y.out BUy.out)
 have SXy:=Lib.hid (blk_b SXr.out BY.out)
 have Gy:=Lib.hid (blk_b Gr.out BY.out)
 have RXy:=Lib.hid (Kd.R_below RXr.out BY.out)
 have ROy:=Lib.hid (Kd.R_below ROr.out BY.out)
 have HS1:Hid (Calls Tryz.prog 31 #[.agg #[.string cp,.slice Ay ni cy],.agg #[.string cp,.slice Ax ni cx],.bool true] y5 fun e w'=>e=.returned (.bool true)∧Below y5.heap.size y5 w'):=Lib.hid (HSM.out y5 Ay cy Ax cx (by have h:=(Kd.R_reads' RY.out).2.2;rw [HNI.out] at h;exact h) (by have h:=(Kd.R_reads' RXy.out).2.2;rw [HNI.out] at h;exact h))
 clear HSM HR1 R1y C1y BUy F5y RXr ROr Gr SXr BWr BY RY Tr
 obtain ⟨p0,p1⟩:=she_cells S5y.out
 obtain ⟨r0,r1⟩:=she_cells SXy.out
 go_upto_region 23 with (first
  | (go_at_call 31;refine HS1.out.mono ?_;rintro e z1 ⟨rfl,hB⟩;have BZ1:=Lib.hid hB;clear hB p0 p1 r0 r1))
 have BWz:Hid (Below w.heap.size w z1):=Lib.hid (BWy.out.trans (BZ1.out.mono BWy.out.size))
 rcases HBK.out with he | ⟨he,hsz2,b,hb1,hb2,hb3,hb4,hb5⟩
 ·dsimp only at he
  subst he
  clear HBK HRU
  go_wp2_with (first
   | (go_at_call 28;refine (HHD.out z1 BWz.out).mono ?_;rintro e z2 ⟨rfl,hB⟩;have BX:=Lib.hid hB;clear hB))
  go_ret
  exact ⟨rfl,BX.out⟩
 ·dsimp only at he hsz2 hb1 hb3 hb4
  subst he
  obtain ⟨bcp,bits⟩:=b
  dsimp only at hb3 hb4 hb5
  subst hb3
  rw [HNI.out] at hb4
  have Gz:=Lib.hid (blk_b Gy.out BZ1.out)
  have SXz:=Lib.hid (blk_b SXy.out BZ1.out)
  have RXz:=Lib.hid (Kd.R_below RXy.out BZ1.out)
  have HNB:=Lib.hid hb4
  have HRW:Hid (Calls Tryz.prog 29 #[.agg #[.string uv,.string uc,.slice Ao m co,.bool false,.string ⟨#[]⟩]] z1 fun e w'=>Below z1.heap.size z1 w'∧∃ (Ai:Option Addr) (ci:Nat),e=.returned (.tuple #[.agg #[.string bcp,.slice Ai ni ci],.agg fa0])∧Kd.R kItem 78 w' z1.heap.size (fun _=>True) (.slice Ai ni ci) bits):=Lib.hid (by
   have hC:=(Kd.R_reads' (Kd.R_below ROy.out BZ1.out)).2.2
   have h:=read_ok (eb:=eb) hb1 (HRU.out (⟨uv,uc,ul,false,⟨#[]⟩⟩:ST) Ao co z1 hsz2 BWz.out hC)
   unfold treC at h
   dsimp only at h
   rw [HM.out,HNB.out] at h
   exact h)
  have HSS:Hid (∀ W Ay cy,Kd.C kItem W Ay ni bits→Kd.C kItem W Ax ni its→Calls Tryz.prog 31 #[.agg #[.string bcp,.slice Ay ni cy],.agg #[.string bcp,.slice Ax ni cx],.bool false] W fun e w'=>e=.returned (.bool true)∧Below W.heap.size W w'):=Lib.hid (fun W Ay cy h1 h2=>by
   have h:=rsameS_calls false (⟨bcp,bits⟩:SS) (⟨bcp,its⟩:SS) Ay Ax cy cx W (by show Kd.C kItem W Ay bits.length bits;rw [HNB.out];exact h1) (by show Kd.C kItem W Ax its.length its;rw [HNI.out];exact h2) hb2 (by show bits.length≤_;rw [HNB.out];exact hlen) hb5
   dsimp only at h
   rw [HNB.out,HNI.out] at h
   exact h)
  clear HRU HBK hsz2 hb1 hb2 hb4 hb5 Gy SXy RXy ROy HM
  obtain ⟨c0,c1,c2,c3,c4⟩:=tre_cells Gz.out
  go_upto_region 26 with (first
   | (go_at_call 29;refine HRW.out.mono ?_;rintro e v1 ⟨hB1,Av,cv,rfl,hR1⟩;have C1v:=Lib.hid hB1;have R1v:=Lib.hid hR1;clear hB1 hR1 c0 c1 c2 c3 c4)
   | (have _t:=tkC;refine run_event rfl (.alloc 64) rfl (.pointer (some ⟨v1.heap.size,0,none⟩)) (v1.alloc (.cells sh0 64)) (by kernel_rfl) ?_;intro v2 hv2;have Bv2:Hid (Below v1.heap.size v1 v2):=Lib.hid (by rw [hv2];exact alloc_below _ _);have Ev2:Hid (v2.heap[v1.heap.size]?=some (.cells sh0 64 (0,0))):=Lib.hid (by rw [hv2];exact heap_alloc_new _ _);clear hv2 tkC _t)
   | (have _t:=tkD;refine run_event rfl (.alloc 66) rfl (.pointer (some ⟨v2.heap.size,0,none⟩)) (v2.alloc (.cells fa0 66)) (by kernel_rfl) ?_;intro v3 hv3;have Bv3:Hid (Below v2.heap.size v2 v3):=Lib.hid (by rw [hv3];exact alloc_below _ _);have Ev3:Hid (v3.heap[v2.heap.size]?=some (.cells fa0 66 (0,0))):=Lib.hid (by rw [hv3];exact heap_alloc_new _ _);have E23v:=Lib.hid (blk_b Ev2.out Bv3.out);clear hv3 tkD _t)
   | ((with_reducible refine gate_store (t:=64) (p:=17) rfl ?_);refine put_event rfl 64 _ _ rfl v1.heap.size #[.string bcp,.slice Av ni cv] rfl rfl 64 sh0 E23v.out (by kernel_rfl) rfl (by simp [Value.oneCell']) v1.heap.size (Nat.le_refl _) ?_;intro v4 hb4 hB4 hs4 ho4;have E4v:=Lib.hid hb4;have B4v:=Lib.hid hB4;have E34v:=Lib.hid ((ho4 v2.heap.size (blk_ne Ev3.out E23v.out (by decide))).trans Ev3.out);clear hb4 hB4 hs4 ho4)
   | ((with_reducible refine gate_store (t:=66) (p:=18) rfl ?_);refine put_event rfl 66 _ _ rfl v2.heap.size fa0 rfl rfl 66 fa0 E34v.out (by kernel_rfl) rfl (by simp [Value.oneCell']) v2.heap.size (Nat.le_refl _) ?_;intro v5 hb5 hB5 hs5 ho5;have F5v:Hid (v5.heap[v2.heap.size]?=some (.cells fa0 66 (0,0))):=Lib.hid hb5;have S5v:Hid (v5.heap[v1.heap.size]?=some (.cells #[.string bcp,.slice Av ni cv] 64 (0,0))):=Lib.hid ((ho5 v1.heap.size (blk_ne E4v.out E34v.out (by decide))).trans E4v.out);have BUv:Hid (Below v1.heap.size v1 v5):=Lib.hid (((Bv2.out.trans (Bv3.out.mono Bv2.out.size)).trans B4v.out).trans (hB5.mono Bv2.out.size));clear hb5 hB5 hs5 ho5 Bv2 Ev2 Bv3 Ev3 E23v E4v B4v E34v))
  have BV:Hid (Below z1.heap.size z1 v5):=Lib.hid (C1v.out.trans (BUv.out.mono C1v.out.size))
  have BWv:Hid (Below w.heap.size w v5):=Lib.hid (BWz.out.trans (BV.out.mono BWz.out.size))
  have RV:=Lib.hid (Kd.R_below R1v.out BUv.out)
  have RXv:=Lib.hid (Kd.R_below RXz.out BV.out)
  have HS2:=Lib.hid (HSS.out v5 Av cv (by have h:=(Kd.R_reads' RV.out).2.2;rw [HNB.out] at h;exact h) (by have h:=(Kd.R_reads' RXv.out).2.2;rw [HNI.out] at h;exact h))
  obtain ⟨p0,p1⟩:=she_cells S5v.out
  obtain ⟨r0,r1⟩:=she_cells (blk_b SXz.out BV.out)
  clear HSS R1v C1v BUv F5v HRW
  go_upto_region 27 with (first
   | (go_at_call 31;refine HS2.out.mono ?_;rintro e z2 ⟨rfl,hB⟩;have BZ2:=Lib.hid hB;clear hB p0 p1 r0 r1))
  have BW2:Hid (Below w.heap.size w z2):=Lib.hid (BWv.out.trans (BZ2.out.mono BWv.out.size))
  go_wp2_with (first
   | (go_at_call 28;refine (HHD.out z2 BW2.out).mono ?_;rintro e z3 ⟨rfl,hB⟩;have BX:=Lib.hid hB;clear hB))
  go_ret
  exact ⟨rfl,BX.out⟩
theorem own_calls (eb:Int→Addr) (t:ST) (A:Option Addr) (c:Nat) (w:World) (hs:∀ o ∈ t.f2,szL o.f3≤1048576) (hn:t.f2.length≤1048576) (hC:Kd.C k44 w A t.f2.length t.f2) (hG:EGlob eb w) (hGl:Glob w) (hT:w.cell? ⟨4,0,none⟩=some (.iface 226 (.agg #[.pointer (some ⟨15,84,none⟩)]))):Calls Tryz.prog 11 #[.agg (treC t A c)] w fun e w'=>e=.returned (.bool true)∧Below w.heap.size w w':=(owSplit eb t A c w hs hn hC hG hGl hT).go (Lib.hid (ow_round eb t A c w hs hn hC hG hGl hT)) (Lib.hid (ow_end eb t A c w hs hn hC hG hGl hT))
end Go.Proofs.YtmfejjlmflgnbaaGreatDoor.Sc

/- THE LAW SchemaOwn, its loop's round. -/
import Derived.Test.YtmfejjlmflgnbaaGreatDoorZScLo
namespace Go.Proofs.YtmfejjlmflgnbaaGreatDoor.Sc
open Go.RowKit Go.Proofs.YtmfejjlmflgnbaaGreatDoor.PA Go.Proofs.YtmfejjlmflgnbaaGreatDoorW.PrintWords Go.Proofs.YtmfejjlmflgnbaaGreatDoorW.PrintLast Go.Proofs.YtmfejjlmflgnbaaGreatDoorW.PrintMore Go.Proofs.YtmfejjlmflgnbaaGreatDoor.Sp Go.Proofs.YtmfejjlmflgnbaaGreatDoor.Tr Go.Proofs.YtmfejjlmflgnbaaGreatDoor.Tok
set_option linter.unusedVariables false
set_option linter.unusedSimpArgs false
set_option maxRecDepth 100000
theorem cell_keep {w w1:World} {g g' p off:Nat} {x u:Value} {cur:Array Value} (h:w.cell? ⟨g,p,none⟩=some x) (hb:w.heap[g']?=some (.cells cur 80 (0,0))) (hne:off % 8≠7) (hp:p % 8=7) (hr:w1.heap[g']?=some (.cells (cur.setIfInBounds off u) 80 (0,0))) (hk:∀ k,k≠g'→w1.heap[k]?=w.heap[k]?):w1.cell? ⟨g,p,none⟩=some x:=by
 by_cases hg:g=g'
 ·subst hg
  rw [cell_row hb] at h
  rw [cell_row hr,Array.getElem?_setIfInBounds,if_neg (fun e=>by subst e;exact hne hp)]
  exact h
 ·exact (World.cell?_of_block (hk g hg)).trans h
set_option maxHeartbeats 64000000 in
theorem ow_round (eb:Int→Addr) (t:ST) (A:Option Addr) (c:Nat) (w:World) (hs:∀ o ∈ t.f2,szL o.f3≤1048576) (hn:t.f2.length≤1048576) (hC:Kd.C k44 w A t.f2.length t.f2) (hG:EGlob eb w) (hGl:Glob w) (hT:w.cell? ⟨4,0,none⟩=some (.iface 226 (.agg #[.pointer (some ⟨15,84,none⟩)]))):(owSplit eb t A c w hs hn hC hG hGl hT).P1:=by
 intro F N uv uc ul ue cp its HSZ ni hlen HLN HNI m HM n0_ w1 u1 Au cu u2 u3 u4 u5 HZ1 x1 Ax cx x2 x3 x4 x5 S5x q1 Ao co q2 q3 n1_ n2_ SU3 HZ2 gI HGI2 wr u10 u11 u12 u13 u35 u36 u37 u38 u39 u40 u41 u42 u43 u44 u45 u46 u47 u48 u49 u50 u51 u52 u53 u54 u55 u56 u57 u58 u59 u60 u61 u62 u63 u64 u65 u66 u67 u68 u69 u70 u71 u72 u73 u74 u75 u76 u77 u78 u79 u80 u81 u82 u83 u84 u85 u86 u87 u88 i hi HO SUr hin
 have hl9:=hlen
 have HP:Hid (0<its.length):=Lib.hid (by rw [HNI.out];omega)
 obtain ⟨hAu,hg0,hg1⟩:=HGI2.out HP.out
 subst hAu
 have HG0:=Lib.hid (And.intro hg0 hg1)
 clear hg0 hg1
 obtain ⟨cur,hcur,hcs,hit⟩:=HO.out.itm HP.out
 have hil:i<its.length:=by rw [HNI.out];exact hin
 have hx:its[i]?=some its[i]:=List.getElem?_eq_getElem hil
 obtain ⟨A5,c5,hc5,hGd⟩:=hit i _ hx
 have hzz:=HSZ.out _ (List.getElem_mem hil)
 obtain ⟨xs,hxs⟩:∃ xs,its[i].ents=xs:=⟨_,rfl⟩
 rw [hxs] at hc5 hGd hzz
 have i5:wr.cell? ⟨gI,i*6 + 5,none⟩=some (.slice A5 xs.length c5):=(cell_row hcur (i*6 + 5)).trans hc5
 obtain ⟨n5,hn5⟩:∃ n5,xs.length=n5:=⟨_,rfl⟩
 rw [hn5] at hGd i5 hzz
 have HGD:=Lib.hid hGd
 have HN5:=Lib.hid hn5
 have HZZ:=Lib.hid hzz
 have HCU:Hid (∀ W,OI q3 w1.heap.size u1.heap.size gI its W→∃ cur,W.heap[gI]?=some (.cells cur 78 (0,0))∧i*6 + 6≤cur.size):=Lib.hid (fun W hW=>by
  obtain ⟨cur,h1,h2,_⟩:=hW.itm HP.out
  exact ⟨cur,h1,by have:=HNI.out;omega⟩)
 have HSU:Hid (∀ W,OI q3 w1.heap.size u1.heap.size gI its W→W.heap[u1.heap.size]?=some (.cells #[.string cp,.slice (some ⟨gI,0,none⟩) ni cu] 64 (0,0))):=Lib.hid (fun W hW=>(hW.up _ (Nat.le_refl _) (by have:=HZ2.out;omega)).trans SU3.out)
 have HRP:Hid (∀ W v ys,OI q3 w1.heap.size u1.heap.size gI its W→GdE q3 w1.heap.size u1.heap.size v ys→RP q3 w1.heap.size u1.heap.size W v ys.length):=Lib.hid (fun W v ys hW hv=>hW.rows v ys hv)
 clear hxs hGd hcur hcs hit hc5 hx hil hzz hn5
 obtain ⟨s0,s1⟩:=she_cells SUr.out
 clear s0
 go_upto_region 8 with fail
 clear s1 i5
 go_wp2_with fail
 go_loopw [11] (fun v W=>∃ k:Nat,v=.int .i64 (k:Int)∧k≤n5∧Hid (OI q3 w1.heap.size u1.heap.size gI its W)) (fun v _=>n5 - (intOf v).toNat)
 case atStart=>exact ⟨0,by go_num,by omega,HO⟩
 case round =>
  obtain ⟨k,rfl,hk,HOk⟩:=hrel
  have hzk:=HZZ.out
  by_cases hkn:k<n5
  ·have HR:=HRP.out wr _ _ HOk.out HGD.out
   rw [HN5.out] at HR
   rcases HR with ⟨_,hz⟩ | ⟨g,cap,curl,hv,hb0,hb1,hbl,hnc,hcm,hcz,h7⟩
   ·exact absurd hz (by omega)
   injection hv with ha _ hc
   subst ha hc
   obtain ⟨pv,hpv,ys,hGy⟩:=h7 k hkn
   obtain ⟨Ap,cp7,hvp⟩:=RForm hGy
   subst hvp
   obtain ⟨np,hnp⟩:∃ np,ys.length=np:=⟨_,rfl⟩
   rw [hnp] at hpv hGy
   have HGY:=Lib.hid hGy
   have HNP:=Lib.hid hnp
   have HPL:Hid (np≤9223372036854775807):=Lib.hid (Kd.C_max (by have h:=(Kd.R_reads' hGy).2.2;rw [hnp] at h;exact h))
   have HK7:Hid (wr.cell? ⟨g,k*8 + 7,none⟩=some (.slice Ap np cp7)):=Lib.hid ((cell_row hbl _).trans hpv)
   have HGB:=Lib.hid (And.intro hb0 hb1)
   clear hpv hGy hnp h7 hb0 hb1 hbl hcm hcz hnc
   go_wp2_with fail
   go_loopw [12] (fun v W=>∃ j:Nat,v=.int .i64 (j:Int)∧j≤np∧Hid (OI q3 w1.heap.size u1.heap.size gI its W)∧Hid (W.cell? ⟨g,k*8 + 7,none⟩=some (.slice Ap np cp7))) (fun v _=>np - (intOf v).toNat)
   case atStart=>exact ⟨0,by go_num,by omega,HOk,HK7⟩
   case round =>
    obtain ⟨j,rfl,hj,HOj,HKj⟩:=hrel
    have hzj:=HPL.out
    have k7:=HKj.out
    by_cases hjn:j<np
    ·have HR2:=HRP.out wr _ _ HOj.out HGY.out
     rw [HNP.out] at HR2
     rcases HR2 with ⟨_,hz⟩ | ⟨g2,cap2,cur2,hv2,hb02,hb12,hbl2,hnc2,hcm2,hcz2,h72⟩
     ·exact absurd hz (by omega)
     injection hv2 with ha2 _ hc2
     subst ha2 hc2
     have HB2:=Lib.hid hbl2
     have HG2:=Lib.hid (And.intro hb02 hb12)
     have HS2:Hid (j*8 + 8≤cur2.size):=Lib.hid (by omega)
     clear h72 hb02 hb12 hbl2 hnc2 hcm2 hcz2
     go_wp2_with (first
      | ((with_reducible refine gate_store (t:=9) (p:=71) rfl ?_);refine cell_event rfl 9 _ _ rfl g2 (j*8 + 6) (.string ⟨#[115,112,111,105,108,116]⟩) rfl rfl rfl (thereR HB2.out (by have:=HS2.out;omega)) (by kernel_rfl) w1.heap.size HG2.out.1 ?_;intro y8 hw8 hB8 hs8;obtain ⟨hr8,hk8,hz8⟩:=row1 HB2.out hw8;have HO8:Hid (OI q3 w1.heap.size u1.heap.size gI its y8):=Lib.hid (HOj.out.store HB2.out HG2.out.2 (by omega) hr8 hk8 hB8);have HK8:Hid (y8.cell? ⟨g,k*8 + 7,none⟩=some (.slice (some ⟨g2,0,none⟩) np cp7)):=Lib.hid (cell_keep HKj.out HB2.out (by omega) (by omega) hr8 hk8);clear hw8 hB8 hs8 hr8 hk8 hz8 k7))
     exact ⟨⟨j + 1,by go_num,by omega,HO8,HK8⟩,by simp [intOf];omega⟩
    ·obtain rfl:j=np:=by omega
     have HR2:=HRP.out wr _ _ HOj.out HGD.out
     rw [HN5.out] at HR2
     rcases HR2 with ⟨hz,_⟩ | ⟨g2,cap2,cur2,hv2,hb02,hb12,hbl2,hnc2,hcm2,hcz2,h72⟩
     ·cases hz
     injection hv2 with ha2 _ hc2
     injection ha2 with ha2
     injection ha2 with ha2
     subst ha2 hc2
     have HB2:=Lib.hid hbl2
     have HG2:=Lib.hid (And.intro hb02 hb12)
     have HS2:Hid (k*8 + 8≤cur2.size):=Lib.hid (by omega)
     clear h72 hb02 hb12 hbl2 hnc2 hcm2 hcz2
     go_wp2_with (first
      | ((with_reducible refine gate_store (t:=9) (p:=75) rfl ?_);refine cell_event rfl 9 _ _ rfl g (k*8) (.string ⟨#[115,112,111,105,108,116]⟩) rfl rfl rfl (thereR HB2.out (by have:=HS2.out;omega)) (by kernel_rfl) w1.heap.size HG2.out.1 ?_;intro y8 hw8 hB8 hs8;obtain ⟨hr8,hk8,hz8⟩:=row1 HB2.out hw8;have HO8:Hid (OI q3 w1.heap.size u1.heap.size gI its y8):=Lib.hid (HOj.out.store HB2.out HG2.out.2 (by omega) hr8 hk8 hB8);clear hw8 hB8 hs8 hr8 hk8 hz8 k7))
     exact ⟨⟨k + 1,by go_num,by omega,HO8⟩,by simp [intOf];omega⟩
  ·obtain rfl:k=n5:=by omega
   have HRl:Hid (RP q3 w1.heap.size u1.heap.size wr (.slice A5 k c5) k):=Lib.hid (by
    have h:=HRP.out wr _ _ HOk.out HGD.out
    rw [HN5.out] at h
    exact h)
   go_wp2_with fail
   go_loopw [10,13] (fun vl v W=>∃ (q m5:Nat) (A6:Option Addr) (c6:Nat),v=.int .i64 (q:Int)∧q≤20∧vl=.slice A6 m5 c6∧Hid (m5≤1073741824 + q)∧Hid (RP q3 w1.heap.size u1.heap.size W (.slice A6 m5 c6) m5)∧Hid (OI q3 w1.heap.size u1.heap.size gI its W)) (fun _ v _=>20 - (intOf v).toNat)
   case atStart=>exact ⟨0,k,A5,c5,by go_num,by omega,rfl,Lib.hid (by omega),HRl,HOk⟩
   case round =>
    obtain ⟨q,m5,A6,c6,rfl,hq,rfl,HM5,HR6,HO6⟩:=hrel
    by_cases hqn:q<20
    ·have HB6:Hid ((m5 + 1)*88≤140737488355328):=Lib.hid (by have:=HM5.out;omega)
     go_wp2_with (first
      | (at_builtin;refine rp_append ⟨#[109,111,114,101]⟩ rfl (.tmp 80) (.tmp 82) rfl rfl rfl HR6.out HO6.out HB6.out ?_;intro v7 w7 hR7 hO7;obtain ⟨A7,c7,hv7⟩:=hR7.slice_;subst hv7;have HR7:=Lib.hid hR7;have HO7:=Lib.hid hO7;clear hR7 hO7))
     exact ⟨⟨q + 1,m5 + 1,A7,c7,by go_num,by omega,rfl,Lib.hid (by have:=HM5.out;omega),HR7,HO7⟩,by simp [intOf];omega⟩
    ·obtain ⟨cur,hcur,hcs⟩:=HCU.out wr HO6.out
     have HCR:=Lib.hid hcur
     have HCS:=Lib.hid hcs
     clear hcur hcs
     obtain ⟨s0,s1⟩:=she_cells (HSU.out wr HO6.out)
     clear s0
     have hq20:q=20:=by omega
     go_wp2_with (first
      | ((with_reducible refine gate_store (t:=9) (p:=88) rfl ?_);refine cell_event rfl 9 _ _ rfl gI (i*6 + 1) (.string ⟨#[115,112,111,105,108,116]⟩) rfl rfl rfl (thereR HCR.out (by have:=HCS.out;omega)) (by kernel_rfl) w1.heap.size HG0.out.1 ?_;intro y8 hw8 hB8 hs8;obtain ⟨hr8,hk8,hz8⟩:=row1 HCR.out hw8;have HO8:Hid (OI q3 w1.heap.size u1.heap.size gI its y8):=Lib.hid (HO6.out.name HCR.out HG0.out.2 (by omega) hr8 hk8 hB8);clear hw8 hB8 hs8 hr8 hk8 hz8 s1))
     exact ⟨⟨i + 1,by go_num,by omega,HO8⟩,by simp [intOf];omega⟩
end Go.Proofs.YtmfejjlmflgnbaaGreatDoor.Sc

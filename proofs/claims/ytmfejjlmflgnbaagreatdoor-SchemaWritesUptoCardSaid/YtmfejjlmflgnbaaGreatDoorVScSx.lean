/- CONTRACT: the law's sameAttrs, at two rows of the same attributes. -/
import Derived.Test.YtmfejjlmflgnbaaGreatDoorVScWx
set_option linter.unusedVariables false
set_option linter.unusedSimpArgs false
set_option maxRecDepth 100000
namespace Go.Proofs.YtmfejjlmflgnbaaGreatDoor.Sc
open RowKit PA YtmfejjlmflgnbaaGreatDoorW.PrintWords YtmfejjlmflgnbaaGreatDoorW.PrintLast YtmfejjlmflgnbaaGreatDoorW.PrintMore Sp Tr Tok
open Go.Lib (hid)
theorem valEqIn (k:Int) (t:ByteArray) (v:Int) (h:Bool) (w:World):(Op.equalIn 10000 48 (.agg #[.int .i64 k,.string t,.int .u32 v,.bool h]) (.agg #[.int .i64 k,.string t,.int .u32 v,.bool h])).run Tryz.prog w=.ok true w:=by
 have hu:=Tryz.underlying48;rw [show (10000:Nat)=9999 + 1 from rfl,run_equalIn_struct w 9999 48 _ _ hu (by kernel_rfl)];have u1:=Tryz.underlying45;have u2:=Tryz.underlying9;have u3:=Tryz.underlying46;have u4:=Tryz.underlying4
 go_simp
theorem valNeq (k:Int) (t:ByteArray) (v:Int) (h:Bool) (W:World):(binOp .neq 48 (.agg #[.int .i64 k,.string t,.int .u32 v,.bool h]) (.agg #[.int .i64 k,.string t,.int .u32 v,.bool h])).run Tryz.prog W=.ok (.bool false) W:=by
 simp only [go_sem,binOp,Op.equal,Sem.run_bind];rw [show Op.maxDepth=10000 from rfl,valEqIn];simp [go_sem]
set_option maxHeartbeats 32000000 in
theorem sameAttrs_calls (m:Nat):∀ (l:List SA) (A B:Option Addr) (c d:Nat) (w:World),szL l<=m->szL l<=1073741824->Kd.C k50 w A l.length l->Kd.C k50 w B l.length l ->
  Calls Tryz.prog 34 #[.slice A l.length c,.slice B l.length d] w fun e w'=>e=.returned (.bool true)/\Below w.heap.size w w':=by
 induction m using Nat.strongRecOn with
 | _ m ih =>
  intro l A B c d w hm hm2 hA hB;have IH:=hid ih;have HA:=hid hA;have HB:=hid hB;have HSZ:Hid (∀ (j:Nat) (x:SA),l[j]?=some x->szL x.f4<m/\szL x.f4<=1073741824):=hid (fun j x hx=>by have:=sz_get l j x hx;have:=sz_eq x;omega);have hl:=Nat.le_trans (sz_len l) hm2;clear ih hA hB hm hm2;obtain ⟨N,hN⟩:∃ N,l.length=N:=⟨_,rfl⟩;rw [hN] at HA HB hl ⊢;have HN:=hid hN;clear hN
  go_enter Tryz.func34,Tryz.ntmps34
  go_wp2_with fail
  go_loopw [5] (fun v wr=>∃ j:Nat,v=.int .i64 (j:Int)/\j<=N/\Hid (Below w.heap.size w wr)) (fun v _=>N - (intOf v).toNat)
  case atStart=>exact ⟨0,by go_num,by omega,hid (Below.refl _ _)⟩
  case round =>
   obtain ⟨j,rfl,hj,BL⟩:=hrel
   by_cases hlt:j<N
   ·skip
    have hjX:j<l.length:=by rw [HN.out];exact hlt
    have hx:l[j]?=some l[j]:=List.getElem?_eq_getElem hjX;obtain ⟨ad,A9,c9,eA,x0,x1,x2,x3,x4,x5,x6,x7,x8,x9,x10,x11,l9,C9⟩:=at_T50 (Kd.C_below HA.out BL.out) (j:Int) (by omega) (by omega);obtain ⟨bd,A8,c8,eB,z0,z1,z2,z3,z4,z5,z6,z7,z8,z9,z10,z11,l8,C8⟩:=at_T50 (Kd.C_below HB.out BL.out) (j:Int) (by omega) (by omega);rw [att_at l j _ hx] at x0 x1 x2 x3 x4 x5 x6 x7 x8 x9 x10 x11 l9 C9 z0 z1 z2 z3 z4 z5 z6 z7 z8 z9 z10 z11 l8 C8;have hz:=HSZ.out j _ hx;generalize l[j]=a at hx x0 x1 x2 x3 x4 x5 x6 x7 x8 x9 x10 x11 l9 C9 z0 z1 z2 z3 z4 z5 z6 z7 z8 z9 z10 z11 l8 C8 hz;cases eA;cases eB;simp only [Int.toNat_natCast] at x0 x1 x2 x3 x4 x5 x6 x7 x8 x9 x10 x11 z0 z1 z2 z3 z4 z5 z6 z7 z8 z9 z10 z11;have HZ:=hid hz;have HC9:=hid C9;have HC8:=hid C8;clear hx hz hjX C9 C8
    go_upto_region 6 with fail
    have HPK:=hid (And.intro x0 (And.intro x1 (And.intro x2 (And.intro x3 (And.intro x4 (And.intro x5 (And.intro x6 (And.intro x7 (And.intro x8 (And.intro x9 (And.intro x10 (And.intro x11 (And.intro z0 (And.intro z1 (And.intro z2 (And.intro z3 (And.intro z4 (And.intro z5 (And.intro z6 (And.intro z7 (And.intro z8 (And.intro z9 (And.intro z10 (z11))))))))))))))))))))))));clear x0 x1 x2 x3 x4 x5 x6 x7 x8 x9 x10 x11 z0 z1 z2 z3 z4 z5 z6 z7 z8 z9 z10 z11
    apply once
    case h1 =>
     intro key;obtain ⟨x0,x1,x2,x3,x4,x5,x6,x7,x8,x9,x10,x11,z0,z1,z2,z3,z4,z5,z6,z7,z8,z9,z10,z11⟩:=HPK.out;have xa0:=fun (X:Obj)=>cell_al x0 X;have xb0:=fun (X Y:Obj)=>cell_al (cell_al x0 X) Y;have za0:=fun (X:Obj)=>cell_al z0 X;have zb0:=fun (X Y:Obj)=>cell_al (cell_al z0 X) Y;have xa1:=fun (X:Obj)=>cell_al x1 X;have xb1:=fun (X Y:Obj)=>cell_al (cell_al x1 X) Y;have za1:=fun (X:Obj)=>cell_al z1 X;have zb1:=fun (X Y:Obj)=>cell_al (cell_al z1 X) Y;have xa2:=fun (X:Obj)=>cell_al x2 X;have xb2:=fun (X Y:Obj)=>cell_al (cell_al x2 X) Y;have za2:=fun (X:Obj)=>cell_al z2 X;have zb2:=fun (X Y:Obj)=>cell_al (cell_al z2 X) Y;have xa3:=fun (X:Obj)=>cell_al x3 X;have xb3:=fun (X Y:Obj)=>cell_al (cell_al x3 X) Y;have za3:=fun (X:Obj)=>cell_al z3 X;have zb3:=fun (X Y:Obj)=>cell_al (cell_al z3 X) Y;have xa4:=fun (X:Obj)=>cell_al x4 X;have xb4:=fun (X Y:Obj)=>cell_al (cell_al x4 X) Y;have za4:=fun (X:Obj)=>cell_al z4 X;have zb4:=fun (X Y:Obj)=>cell_al (cell_al z4 X) Y;have xa5:=fun (X:Obj)=>cell_al x5 X;have xb5:=fun (X Y:Obj)=>cell_al (cell_al x5 X) Y;have za5:=fun (X:Obj)=>cell_al z5 X;have zb5:=fun (X Y:Obj)=>cell_al (cell_al z5 X) Y;have xa6:=fun (X:Obj)=>cell_al x6 X;have xb6:=fun (X Y:Obj)=>cell_al (cell_al x6 X) Y;have za6:=fun (X:Obj)=>cell_al z6 X;have zb6:=fun (X Y:Obj)=>cell_al (cell_al z6 X) Y;have xa7:=fun (X:Obj)=>cell_al x7 X;have xb7:=fun (X Y:Obj)=>cell_al (cell_al x7 X) Y;have za7:=fun (X:Obj)=>cell_al z7 X;have zb7:=fun (X Y:Obj)=>cell_al (cell_al z7 X) Y;have xa8:=fun (X:Obj)=>cell_al x8 X;have xb8:=fun (X Y:Obj)=>cell_al (cell_al x8 X) Y;have za8:=fun (X:Obj)=>cell_al z8 X;have zb8:=fun (X Y:Obj)=>cell_al (cell_al z8 X) Y;have xa9:=fun (X:Obj)=>cell_al x9 X;have xb9:=fun (X Y:Obj)=>cell_al (cell_al x9 X) Y;have za9:=fun (X:Obj)=>cell_al z9 X;have zb9:=fun (X Y:Obj)=>cell_al (cell_al z9 X) Y;have xa10:=fun (X:Obj)=>cell_al x10 X;have xb10:=fun (X Y:Obj)=>cell_al (cell_al x10 X) Y;have za10:=fun (X:Obj)=>cell_al z10 X;have zb10:=fun (X Y:Obj)=>cell_al (cell_al z10 X) Y;have xa11:=fun (X:Obj)=>cell_al x11 X;have xb11:=fun (X Y:Obj)=>cell_al (cell_al x11 X) Y;have za11:=fun (X:Obj)=>cell_al z11 X;have zb11:=fun (X Y:Obj)=>cell_al (cell_al z11 X) Y
     go_region
     all_goals
      clear x0 xa0 xb0 z0 za0 zb0 x1 xa1 xb1 z1 za1 zb1 x2 xa2 xb2 z2 za2 zb2 x3 xa3 xb3 z3 za3 zb3 x4 xa4 xb4 z4 za4 zb4 x5 xa5 xb5 z5 za5 zb5 x6 xa6 xb6 z6 za6 zb6 x7 xa7 xb7 z7 za7 zb7 x8 xa8 xb8 z8 za8 zb8 x9 xa9 xb9 z9 za9 zb9 x10 xa10 xb10 z10 za10 zb10 x11 xa11 xb11 z11 za11 zb11
      first
       | (obtain ⟨w4,hw4⟩:∃ w4:World,w4=((wr.alloc (.cells #[.string a.f0,.int .i64 a.f1.f0,.int .i64 a.f1.f1,.int .i64 a.f1.f2,.int .i64 a.f2.f0,.string a.f2.f1,.int .u32 a.f2.f2,.bool a.f2.f3,.bool a.f3,.slice A9 a.f4.length c9,.bool a.f5,.string a.f6] 50)).alloc (.cells #[.string a.f0,.int .i64 a.f1.f0,.int .i64 a.f1.f1,.int .i64 a.f1.f2,.int .i64 a.f2.f0,.string a.f2.f1,.int .u32 a.f2.f2,.bool a.f2.f3,.bool a.f3,.slice A8 a.f4.length c8,.bool a.f5,.string a.f6] 50)).drew:=⟨_,rfl⟩;rw [<- hw4];obtain ⟨B4,GX,GY⟩:=two_newS hw4;clear hw4;obtain ⟨q,hq⟩:∃ q,q=wr.heap.size + 1:=⟨_,rfl⟩;rw [<- hq] at GY ⊢;obtain ⟨p,hp⟩:∃ p,p=wr.heap.size:=⟨_,rfl⟩;rw [<- hp] at GX ⊢;clear hp hq)
       | (obtain ⟨w4,hw4⟩:∃ w4:World,w4=((wr.alloc (.cells #[.string a.f0,.int .i64 a.f1.f0,.int .i64 a.f1.f1,.int .i64 a.f1.f2,.int .i64 a.f2.f0,.string a.f2.f1,.int .u32 a.f2.f2,.bool a.f2.f3,.bool a.f3,.slice A8 a.f4.length c8,.bool a.f5,.string a.f6] 50)).alloc (.cells #[.string a.f0,.int .i64 a.f1.f0,.int .i64 a.f1.f1,.int .i64 a.f1.f2,.int .i64 a.f2.f0,.string a.f2.f1,.int .u32 a.f2.f2,.bool a.f2.f3,.bool a.f3,.slice A9 a.f4.length c9,.bool a.f5,.string a.f6] 50)).drew:=⟨_,rfl⟩;rw [<- hw4];obtain ⟨B4,GY,GX⟩:=two_newS hw4;clear hw4;obtain ⟨p,hp⟩:∃ p,p=wr.heap.size + 1:=⟨_,rfl⟩;rw [<- hp] at GX ⊢;obtain ⟨q,hq⟩:∃ q,q=wr.heap.size:=⟨_,rfl⟩;rw [<- hq] at GY ⊢;clear hp hq)
      revert GY;revert GX;revert B4;revert q;revert p;revert w4;exact key.out
    case h2 =>
     intro w4 p q B4 GX GY;have B5:Hid (Below w.heap.size w w4):=hid (BL.out.trans (B4.out.mono BL.out.size));obtain ⟨y0,y1,y2,y3,y4,y5,y6,y7,y8,y9,y10,y11⟩:=att_cells GX.out;obtain ⟨t0,t1,t2,t3,t4,t5,t6,t7,t8,t9,t10,t11⟩:=att_cells GY.out;have dV:=fun W=>valNeq a.f2.f0 a.f2.f1 a.f2.f2 a.f2.f3 W;have dP:=fun W=>spot_neq2 a.f1.f0 a.f1.f1 a.f1.f2 a.f1.f0 a.f1.f1 a.f1.f2 W false (by simp)
     go_wp2_with (first
      | (go_at_call 34;refine (IH.out _ HZ.out.1 a.f4 A9 A8 c9 c8 w4 (Nat.le_refl _) HZ.out.2 (Kd.C_below HC9.out B4.out) (Kd.C_below HC8.out B4.out)).mono ?_;rintro e w6 ⟨rfl,hB6⟩;have B6:Hid (Below w.heap.size w w6):=hid (B5.out.trans (hB6.mono B5.out.size));clear hB6 dV dP y0 y1 y2 y3 y4 y5 y6 y7 y8 y9 y10 y11 t0 t1 t2 t3 t4 t5 t6 t7 t8 t9 t10 t11))
     exact ⟨⟨j + 1,by go_num,by omega,B6⟩,by simp [intOf];omega⟩
   ·obtain rfl:j=N:=by omega
    go_wp2_with fail
    go_ret
    exact ⟨rfl,BL.out⟩
end Go.Proofs.YtmfejjlmflgnbaaGreatDoor.Sc

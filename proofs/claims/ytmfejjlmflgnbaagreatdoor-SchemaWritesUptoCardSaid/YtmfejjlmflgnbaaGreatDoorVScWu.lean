/- CONTRACT: the document's spelled: are a tree's names and strings such as tokens have? -/
import Derived.Test.YtmfejjlmflgnbaaGreatDoorVScWs
import Derived.Test.YtmfejjlmflgnbaaGreatDoorVRef
import Derived.Test.YtmfejjlmflgnbaaGreatDoorVPure3
set_option linter.unusedVariables false
set_option linter.unusedSimpArgs false
set_option maxRecDepth 100000
namespace Go.Proofs.YtmfejjlmflgnbaaGreatDoor.Sc
open RowKit PA YtmfejjlmflgnbaaGreatDoorW.PrintWords YtmfejjlmflgnbaaGreatDoorW.PrintLast YtmfejjlmflgnbaaGreatDoorW.PrintMore Sp Tr Tok
open Go.Lib (hid)
theorem drawn_belowS {w w':World} (h:Drawn0 w w'):Below w.heap.size w w':=by
 obtain ⟨n,hn⟩:=h;rw [hn];exact ⟨rfl,rfl,rfl,Nat.le_refl _,fun _ _=>rfl⟩
theorem sname_calls (t:ByteArray) (w:World):Calls Tryz.prog 39 #[.string t] w fun e w'=>e=.returned (.bool (nameB (bs t)))/\Below w.heap.size w w' :=
 (tappetref02_Name.calls (t.size + 1) t _ w ((rname_spec t).trans rfl)).mono fun e w' ⟨he,hd⟩=>⟨he,drawn_belowS hd⟩
theorem sstring_calls (t:ByteArray) (ht:t.size<=1000000000) (w:World):Calls Tryz.prog 38 #[.string t] w fun e w'=>e=.returned (.bool (stringB (bs t)))/\Below w.heap.size w w' :=
 (tappetref02_String.calls (t.size + 1) t _ w ((rstring_spec t (by omega)).trans rfl)).mono fun e w' ⟨he,hd⟩=>⟨he,drawn_belowS hd⟩
mutual
def txA:SA->Nat
 | ⟨_,_,v,_,ps,_,_⟩=>v.f1.size + txL ps
def txL:List SA->Nat
 | []=>0
 | a :: r=>txA a + txL r
end
theorem tx_eq (a:SA):txA a=a.f2.f1.size + txL a.f4:=by cases a;simp only [txA]
theorem tx_get:∀ (l:List SA) (j:Nat) (a:SA),l[j]?=some a->txA a<=txL l
 | [],j,a,h=>by simp at h
 | b :: r,0,a,h=>by
  simp only [List.getElem?_cons_zero,Option.some.injEq] at h;subst h;simp only [txL];omega
 | b :: r,j + 1,a,h=>by
  have:=tx_get r j a (by simpa using h);simp only [txL];omega
theorem spA_eq (a:SA):spA a=!((decide (a.f2.f0=1)&&!nameB (bs a.f2.f1))||(decide (a.f2.f0=3)&&!stringB (bs a.f2.f1))||!spL a.f4):=by cases a;simp only [spA]
theorem spL_at {ats:List SA} {i:Nat} {a:SA} (h:ats[i]?=some a):spL (ats.drop i)=(spA a&&spL (ats.drop (i + 1))):=by
 obtain ⟨hj,rfl⟩:=List.getElem?_eq_some_iff.1 h;rw [List.drop_eq_getElem_cons hj];simp only [spL]
theorem four_cells {w:World} {g:Nat} {a0 a1 a2 a3:Value} {t:TypeId} (h:w.heap[g]?=some (.cells #[a0,a1,a2,a3] t (0,0))) :
  w.cell? ⟨g,0,none⟩=some a0/\w.cell? ⟨g,1,none⟩=some a1/\w.cell? ⟨g,2,none⟩=some a2/\w.cell? ⟨g,3,none⟩=some a3:=⟨(cell_row h 0).trans rfl,(cell_row h 1).trans rfl,(cell_row h 2).trans rfl,(cell_row h 3).trans rfl⟩
def RSC (m:Nat):Prop :=
 ∀ (ats:List SA) (A:Option Addr) (c:Nat) (w:World),szL ats<=m->szL ats<=1073741824->txL ats<=1000000000->Kd.C k50 w A ats.length ats ->
  Calls Tryz.prog 81 #[.slice A ats.length c] w fun e w'=>e=.returned (.bool (spL ats))/\Below w.heap.size w w'
set_option maxHeartbeats 64000000 in
theorem rspelled_step (m:Nat) (ih:∀ m',m'<m->RSC m'):RSC m:=by
 intro ats A c w hm hm2 ht hS;have IH:=hid ih;have HS:=hid hS;have HSZ:=hid (And.intro hm (And.intro hm2 ht));have hn9:ats.length<=1073741824:=Nat.le_trans (sz_len ats) hm2;clear ih hS hm hm2 ht;obtain ⟨r,hr⟩:∃ r,spL ats=r:=⟨_,rfl⟩;rw [hr];have HRR:=hid hr;clear hr;obtain ⟨n,hn⟩:∃ n,ats.length=n:=⟨_,rfl⟩;rw [hn] at HS hn9 ⊢;have HN:=hid hn;clear hn
 go_enter Tryz.func81,Tryz.ntmps81
 go_wp2_with fail
 go_loopw [3] (fun v wq=>∃ i:Nat,v=.int .i64 (i:Int)/\i<=n/\Hid (spL (ats.drop i)=r)/\Hid (Below w.heap.size w wq)) (fun v _=>n - (intOf v).toNat)
 case atStart=>exact ⟨0,by go_num,by omega,hid (by rw [List.drop_zero];exact HRR.out),hid (Below.refl _ _)⟩
 case round =>
  obtain ⟨i,rfl,hi,HR,BL⟩:=hrel;have hb1:=hn9
  by_cases hin:i<n
  ·have hit:i<ats.length:=by rw [HN.out];exact hin
   have hx:ats[i]?=some ats[i]:=List.getElem?_eq_getElem hit;obtain ⟨ad,A9,c9,eA,x0,x1,x2,x3,x4,x5,x6,x7,x8,x9,x10,x11,l9,C9⟩:=at_T50 (Kd.C_below HS.out BL.out) (i:Int) (by omega) (by omega);rw [att_at ats i _ hx] at x0 x1 x2 x3 x4 x5 x6 x7 x8 x9 x10 x11 l9 C9;have hsz:=sz_get ats i _ hx;have htx:=tx_get ats i _ hx;generalize ats[i]=a at hx x0 x1 x2 x3 x4 x5 x6 x7 x8 x9 x10 x11 l9 C9 hsz htx;subst eA;simp only [Int.toNat_natCast] at x0 x1 x2 x3 x4 x5 x6 x7 x8 x9 x10 x11;have HSA:Hid (szL a.f4<m/\szL a.f4<=1073741824/\txL a.f4<=1000000000/\a.f2.f1.size<=1000000000):=hid (by have:=sz_eq a;have:=tx_eq a;have:=HSZ.out;omega);have HRA:Hid ((!((decide (a.f2.f0=1)&&!nameB (bs a.f2.f1))||(decide (a.f2.f0=3)&&!stringB (bs a.f2.f1))||!spL a.f4)&&spL (ats.drop (i + 1)))=r):=hid (by rw [<- HR.out,spL_at hx,spA_eq]);obtain ⟨n9,hn9'⟩:∃ n9,a.f4.length=n9:=⟨_,rfl⟩;rw [hn9'] at x9 C9;have HC9:=hid C9;have HN9:=hid hn9';obtain ⟨rp,hrp⟩:∃ rp,spL a.f4=rp:=⟨_,rfl⟩;obtain ⟨k,hk⟩:∃ k,a.f2.f0=k:=⟨_,rfl⟩;obtain ⟨tx,htx'⟩:∃ tx,a.f2.f1=tx:=⟨_,rfl⟩;obtain ⟨nb,hnb⟩:∃ nb,nameB (bs tx)=nb:=⟨_,rfl⟩;obtain ⟨sb,hsb⟩:∃ sb,stringB (bs tx)=sb:=⟨_,rfl⟩;rw [hk] at x4 HRA;rw [htx'] at x5 HRA HSA;rw [hnb,hsb,hrp] at HRA;have HRP:=hid hrp;have HNB:=hid hnb;have HSB:=hid hsb;clear hx hsz htx l9 C9 hit hn9' hrp hk htx' hnb hsb x0 x1 x2 x3 x8 x10 x11;obtain ⟨wi,hwi⟩:∃ wi,wi=wr:=⟨_,rfl⟩;subst hwi;have tk1:True:=trivial
   go_upto_region 5 with (first
    | (have _t:=tk1;refine run_event rfl (.alloc 48) rfl (.pointer (some ⟨wi.heap.size,0,none⟩)) (wi.alloc (.cells #[.int .i64 0,.string ⟨#[]⟩,.int .u32 0,.bool false] 48)) (by kernel_rfl) ?_;intro w3 hw3;have Bw3:Hid (Below wi.heap.size wi w3):=hid (by rw [hw3];exact alloc_below _ _);have Ew3:Hid (w3.heap[wi.heap.size]?=some (.cells #[.int .i64 0,.string ⟨#[]⟩,.int .u32 0,.bool false] 48 (0,0))):=hid (by rw [hw3];exact heap_alloc_new _ _);clear hw3 tk1 _t)
    | ((with_reducible refine gate_store (t:=48) (p:=4) rfl ?_);refine put_event rfl 48 _ _ rfl wi.heap.size #[.int .i64 k,.string tx,.int .u32 a.f2.f2,.bool a.f2.f3] rfl rfl 48 #[.int .i64 0,.string ⟨#[]⟩,.int .u32 0,.bool false] Ew3.out (by kernel_rfl) rfl (by simp [Value.oneCell']) wi.heap.size (Nat.le_refl _) ?_;intro w4 hbw4 hBw4 hsw4 how4;have Gw4:Hid (w4.heap[wi.heap.size]?=some (.cells #[.int .i64 k,.string tx,.int .u32 a.f2.f2,.bool a.f2.f3] 48 (0,0))):=hid hbw4;have Dw4:Hid (Below wi.heap.size wi w4):=hid (Bw3.out.trans hBw4);clear hbw4 hBw4 hsw4 how4;clear x4 x5 x6 x7 Bw3 Ew3))
   have BW4:Hid (Below w.heap.size w w4):=hid (BL.out.trans (Dw4.out.mono BL.out.size));have y9:=(Dw4.out.cell (lC wi _ x9)).trans x9;obtain ⟨v0,v1,v2,v3⟩:=four_cells Gw4.out;clear x9 v2 v3
   have HIC:Hid (∀ W,Below w4.heap.size w4 W->Calls Tryz.prog 81 #[.slice A9 n9 c9] W fun ev w'=>ev=.returned (.bool rp)/\(Below w.heap.size w W/\Below w.heap.size W w')):=hid (fun W hW=>by
    have BWW:=BW4.out.trans (hW.mono BW4.out.size);have h:=IH.out (szL a.f4) HSA.out.1 a.f4 A9 c9 W (Nat.le_refl _) HSA.out.2.1 HSA.out.2.2.1 (by rw [HN9.out];exact Kd.C_below HC9.out (Dw4.out.trans (hW.mono Dw4.out.size)));rw [HN9.out,HRP.out] at h
    exact h.mono (fun ev w' hp=>⟨hp.1,BWW,hp.2.mono BWW.size⟩))
   have HNC:Hid (Calls Tryz.prog 39 #[.string tx] w4 fun e w'=>e=.returned (.bool nb)/\Below w4.heap.size w4 w'):=hid (by rw [<- HNB.out];exact sname_calls tx w4);have HSC:Hid (Calls Tryz.prog 38 #[.string tx] w4 fun e w'=>e=.returned (.bool sb)/\Below w4.heap.size w4 w'):=hid (by rw [<- HSB.out];exact sstring_calls tx HSA.out.2.2.2 w4)
   by_cases h1:k=1
   ·subst h1
    cases nb with
    | true =>
     cases rp with
     | true =>
      have HX:Hid (spL (ats.drop (i + 1))=r):=hid (by rw [<- HRA.out];simp [])
      go_wp2_with (first | (go_at_call 39;refine HNC.out.mono ?_;rintro ev y1 ⟨rfl,hB⟩;have BY:=hid hB;have y9:=(hB.cell (lC w4 _ y9)).trans y9;have v0:=(hB.cell (lC w4 _ v0)).trans v0;clear hB v1) | (go_at_call 81;refine (HIC.out _ BY.out).mono ?_;rintro ev z1 ⟨rfl,hB⟩;have BZ:Hid (Below w.heap.size w z1):=hid (hB.1.trans hB.2);clear hB y9))
      exact ⟨⟨i + 1,by go_num,by omega,HX,BZ⟩,by simp [intOf];omega⟩
     | false =>
      have HF:Hid (r=false):=hid (by rw [<- HRA.out];simp)
      go_wp2_with (first | (go_at_call 39;refine HNC.out.mono ?_;rintro ev y1 ⟨rfl,hB⟩;have BY:=hid hB;have y9:=(hB.cell (lC w4 _ y9)).trans y9;have v0:=(hB.cell (lC w4 _ v0)).trans v0;clear hB v1) | (go_at_call 81;refine (HIC.out _ BY.out).mono ?_;rintro ev z1 ⟨rfl,hB⟩;have BZ:Hid (Below w.heap.size w z1):=hid (hB.1.trans hB.2);clear hB y9))
      go_ret
      exact ⟨by rw [HF.out];rfl,BZ.out⟩
    | false =>
     have HF:Hid (r=false):=hid (by rw [<- HRA.out];simp []);clear HIC
     go_wp2_with (first | (go_at_call 39;refine HNC.out.mono ?_;rintro ev y1 ⟨rfl,hB⟩;have BY:=hid hB;have y9:=(hB.cell (lC w4 _ y9)).trans y9;have v0:=(hB.cell (lC w4 _ v0)).trans v0;clear hB v1))
     go_ret
     exact ⟨by rw [HF.out];rfl,BW4.out.trans (BY.out.mono BW4.out.size)⟩
   ·have h1':(k == 1)=false:=by simp [h1]
    by_cases h3:k=3
    ·subst h3
     clear h1;cases sb with
     | true =>
      cases rp with
      | true =>
       have HX:Hid (spL (ats.drop (i + 1))=r):=hid (by rw [<- HRA.out];simp [])
       go_wp2_with (first | (go_at_call 38;refine HSC.out.mono ?_;rintro ev y1 ⟨rfl,hB⟩;have BY:=hid hB;have y9:=(hB.cell (lC w4 _ y9)).trans y9;clear hB v1) | (go_at_call 81;refine (HIC.out _ BY.out).mono ?_;rintro ev z1 ⟨rfl,hB⟩;have BZ:Hid (Below w.heap.size w z1):=hid (hB.1.trans hB.2);clear hB y9))
       exact ⟨⟨i + 1,by go_num,by omega,HX,BZ⟩,by simp [intOf];omega⟩
      | false =>
       have HF:Hid (r=false):=hid (by rw [<- HRA.out];simp)
       go_wp2_with (first | (go_at_call 38;refine HSC.out.mono ?_;rintro ev y1 ⟨rfl,hB⟩;have BY:=hid hB;have y9:=(hB.cell (lC w4 _ y9)).trans y9;clear hB v1) | (go_at_call 81;refine (HIC.out _ BY.out).mono ?_;rintro ev z1 ⟨rfl,hB⟩;have BZ:Hid (Below w.heap.size w z1):=hid (hB.1.trans hB.2);clear hB y9))
       go_ret
       exact ⟨by rw [HF.out];rfl,BZ.out⟩
     | false =>
      have HF:Hid (r=false):=hid (by rw [<- HRA.out];simp []);clear HIC
      go_wp2_with (first | (go_at_call 38;refine HSC.out.mono ?_;rintro ev y1 ⟨rfl,hB⟩;have BY:=hid hB;have y9:=(hB.cell (lC w4 _ y9)).trans y9;clear hB v1))
      go_ret
      exact ⟨by rw [HF.out];rfl,BW4.out.trans (BY.out.mono BW4.out.size)⟩
    ·have h3':(k == 3)=false:=by simp [h3]
     have H1:=hid h1;have H3:=hid h3;clear h1 h3 v1;cases rp with
     | true =>
      have HX:Hid (spL (ats.drop (i + 1))=r):=hid (by rw [<- HRA.out];simp [H1.out,H3.out])
      go_wp2_with (first | (go_at_call 81;refine (HIC.out _ (Below.refl _ _)).mono ?_;rintro ev z1 ⟨rfl,hB⟩;have BZ:Hid (Below w.heap.size w z1):=hid (hB.1.trans hB.2);clear hB y9))
      exact ⟨⟨i + 1,by go_num,by omega,HX,BZ⟩,by simp [intOf];omega⟩
     | false =>
      have HF:Hid (r=false):=hid (by rw [<- HRA.out];simp)
      go_wp2_with (first | (go_at_call 81;refine (HIC.out _ (Below.refl _ _)).mono ?_;rintro ev z1 ⟨rfl,hB⟩;have BZ:Hid (Below w.heap.size w z1):=hid (hB.1.trans hB.2);clear hB y9))
      go_ret
      exact ⟨by rw [HF.out];rfl,BZ.out⟩
  ·obtain rfl:n=i:=by omega
   have HT:Hid (r=true):=hid (by rw [<- HR.out,List.drop_eq_nil_of_le (by rw [HN.out];exact Nat.le_refl _)];rfl)
   go_wp2_with fail
   go_ret
   exact ⟨by rw [HT.out];rfl,BL.out⟩
theorem rspelled:∀ m,RSC m:=by
 intro m
 induction m using Nat.strongRecOn with
 | _ m ih=>exact rspelled_step m ih
end Go.Proofs.YtmfejjlmflgnbaaGreatDoor.Sc

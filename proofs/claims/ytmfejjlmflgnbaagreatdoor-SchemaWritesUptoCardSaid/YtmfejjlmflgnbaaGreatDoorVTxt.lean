/- CONTRACTS: the parts of sync.Once's slow road, and a bytes-to-strings Replacer's building, used once by one goroutine. -/
import Derived.Test.YtmfejjlmflgnbaaGreatDoorVBase
import Derived.Defers
import Derived.Laws.LoneSync
import Derived.RegionCalls
import Derived.Test.YtmfejjlmflgnbaaGreatDoorVShelf
import Derived.Lib.ItoaMem
import Derived.Lib.SmallJoins
import Derived.Laws.BytesArg
import Derived.Laws.BitsAllLaws
import Derived.Laws.IdiomStrings
import Derived.Great.Walk
import Derived.Great.BuildSlice
import Derived.Great.Ranges
import Derived.Laws.NewBlocks
import Derived.Deep.Cut
import Derived.Deep.RegionLaw
import Derived.Laws.CopyOwn
set_option linter.unusedVariables false
set_option linter.unusedSimpArgs false
set_option maxRecDepth 100000
set_option maxHeartbeats 64000000
namespace Go.Proofs.YtmfejjlmflgnbaaGreatDoor.Tok
open RowKit PA YtmfejjlmflgnbaaGreatDoorW.PrintWords YtmfejjlmflgnbaaGreatDoorW.PrintLast Sp
open Go.Lib (hid)
theorem o_disable (w:World):(callFunc 194 #[]).run Tryz.prog w=.ok (.value (.tuple #[])) w:=run_call_mark0 Tryz.func194 (by kernel_rfl) (by kernel_rfl) (by kernel_rfl) .disable (by kernel_rfl) w
theorem o_enable (w:World):(callFunc 196 #[]).run Tryz.prog w=.ok (.value (.tuple #[])) w:=run_call_mark0 Tryz.func196 (by kernel_rfl) (by kernel_rfl) (by kernel_rfl) .enable (by kernel_rfl) w
theorem o_acquire (a:Addr) (w:World):(callFunc 197 #[.pointer (some a)]).run Tryz.prog w=.ok (.value (.tuple #[])) w:=run_call_marked Tryz.func197 (by kernel_rfl) (by kernel_rfl) (by kernel_rfl) .acquire (by kernel_rfl) a w
theorem o_releaseMerge (a:Addr) (w:World):(callFunc 199 #[.pointer (some a)]).run Tryz.prog w=.ok (.value (.tuple #[])) w:=run_call_marked Tryz.func199 (by kernel_rfl) (by kernel_rfl) (by kernel_rfl) .releaseMerge (by kernel_rfl) a w
theorem o_store (a:Addr) (x:Value) (u:FrameMode) (w:World) (hc:w.cell? a=some x) (hz:w.frozen? a=false) :
  CallsD Tryz.prog 180 #[.pointer (some a),.bool true] u w fun e u' w'=>u'=u/\(e=.returned (.tuple #[])/\w'=w.drew.setCell a (.int .u32 1)):=by
 have hc':w.drew.cell? a=some x:=by go_simp
 have hz':w.drew.frozen? a=false:=by go_simp
 have hst:=run_call_store (P:=Tryz.prog) Tryz.func190 (by kernel_rfl) (by kernel_rfl) (by kernel_rfl) (by kernel_rfl) (k:=.u32) (y:=1) hc' hz'
 go_enter_d Tryz.func180,Tryz.ntmps180
 go_wp2
 go_region_calls
 all_goals (go_end0;exact ⟨rfl,rfl⟩)
theorem o_unlock (a:Addr) (u:FrameMode) (w:World) (hc:w.cell? a=some (.int .i32 1)) (hz:w.frozen? a=false) :
  CallsD Tryz.prog 179 #[.pointer (some a)] u w fun e u' w'=>u'=u/\(e=.returned (.tuple #[])/\w'=w.setCell a (.int .i32 0)):=by
 have hd:=o_disable;have he:=o_enable;have hr:=o_releaseMerge;have hadd:=run_call_add (P:=Tryz.prog) Tryz.func200 (by kernel_rfl) (by kernel_rfl) (by kernel_rfl) .i32 (by kernel_rfl) (y:=-1) (s:=0) hc hz (by simp [go_sem];rfl);have hcv:=run_convert_to_unsafe (P:=Tryz.prog) (src:=328) (dst:=186) Tryz.underlying328 Tryz.underlying186 (by kernel_rfl) hc
 go_enter_d Tryz.func179,Tryz.ntmps179
 go_wp2
 go_end0
 go_wp2
 go_end0
 exact ⟨rfl,rfl⟩
theorem o_lock (a:Addr) (w:World) (hc:w.cell? a=some (.int .i32 0)) (hz:w.frozen? a=false) :
  Calls Tryz.prog 178 #[.pointer (some a)] w fun e w'=>e=.returned (.tuple #[])/\w'=w.setCell a (.int .i32 1):=by
 have hd:=o_disable;have he:=o_enable;have ha:=o_acquire;have hcas:=run_call_cas_hit (P:=Tryz.prog) Tryz.func195 (by kernel_rfl) (by kernel_rfl) (by kernel_rfl) .i32 (by kernel_rfl) (y:=1) hc hz;have hc':(w.setCell a (.int .i32 1)).cell? a=some (.int .i32 1):=World.cell?_setCell_same w a _ hc;have hcv:=run_convert_to_unsafe (P:=Tryz.prog) (src:=328) (dst:=186) Tryz.underlying328 Tryz.underlying186 (by kernel_rfl) hc'
 go_enter Tryz.func178,Tryz.ntmps178
 go_wp2
 first | go_end0 | (simp only [Exit.inBlock,Exit.then];refine bodyPost_ret (results_none rfl _ _ _) rfl ?_) | refine bodyPost_ret (results_none rfl _ _ _) rfl ?_
 go_wp2
 go_end0
 exact ⟨rfl,rfl⟩
def lowDigit (d:Nat):UInt8:=if d<10 then UInt8.ofNat (48 + d) else UInt8.ofNat (87 + d)
def lowF:Nat->Nat->Bs->Bs
 | 0,_,acc=>acc
 | f + 1,v,acc=>if v<16 then lowDigit v :: acc else lowF f (v / 16) (lowDigit (v % 16) :: acc)
def digs:ByteArray:=⟨#[48,49,50,51,52,53,54,55,56,57,97,98,99,100,101,102,103,104,105,106,107,108,109,110,111,112,113,114,115,116,117,118,119,120,121,122]⟩
theorem digs_at (i:Nat) (h:i<16):digs.data.toList.getD i 0=lowDigit i:=by
 have:∀ i:Fin 16,digs.data.toList.getD i.1 0=lowDigit i.1:=by decide
 exact this ⟨i,h⟩
theorem idx_digs (k:IntKind) (z:Int) (i:Nat) (hz:z=(i:Int)) (hi:i<16) (w:World) :
  (Instr.index 9 (.string digs) (.int k z)).run Tryz.prog w=.ok (.int .u8 ((lowDigit i).toNat:Int)) w:=by
 subst hz;have hsz:digs.size=36:=rfl;rw [run_index_string w 9 digs k _ Tryz.underlying9,dif_pos ⟨by omega,by rw [hsz];omega⟩];have e:((i:Int)).toNat=i:=by omega
 simp only [e];rw [Lib.getD_at,digs_at i hi]
theorem trailing_calls (w:World) (hG:w.cell? ⟨14,15,none⟩=some (.int .u8 4)):Calls Tryz.prog 187 #[.int .u64 16] w fun e w'=>e=.returned (.int .i64 4)/\w=w':=by
 have e0:IntKind.u64.wrap (-16)=18446744073709551600:=by decide +kernel
 have e1:bits .and .u64 16 18446744073709551600=16:=by decide +kernel
 have e2:IntKind.u64.wrap (16*285870213051353865) / 288230376151711744=15:=by decide +kernel
 have e3:IntKind.u64.wrap 4573923408821661840 / 288230376151711744=15:=by decide +kernel
 have e4:IntKind.u64.wrap 4573923408821661840=4573923408821661840:=by decide +kernel
 go_enter Tryz.func187,Tryz.ntmps187
 go_wp2
 go_ret
 exact ⟨rfl,rfl⟩
theorem trail_calls (w:World) (hG:w.cell? ⟨14,15,none⟩=some (.int .u8 4)):Calls Tryz.prog 176 #[.int .u64 16] w fun e w'=>e=.returned (.int .i64 4)/\w=w':=by
 go_enter Tryz.func176,Tryz.ntmps176
 go_wp2_with (first | (go_at_call 187;refine (trailing_calls _ hG).mono ?_;rintro e w' ⟨rfl,rfl⟩))
 go_ret
 exact ⟨rfl,rfl⟩
theorem pow2_calls (w:World):Calls Tryz.prog 175 #[.int .i64 16] w fun e w'=>e=.returned (.bool true)/\w=w':=by
 have e1:bits .and .i64 16 15=0:=by decide +kernel
 go_enter Tryz.func175,Tryz.ntmps175
 go_wp2
 go_ret
 exact ⟨rfl,rfl⟩
def cellsU8 (l:Bs):List Value:=l.map fun c=>Value.int .u8 (c.toNat:Int)
structure FInv (u:Nat) (w:World) (j u':Nat) (acc:Bs) (wr:World):Prop where
 hj:j<=15
 hu:u'<16 ^ (16 - j)
 hlen:acc.length=j
 there:wr.there w.heap.size 0 65
 row:wr.rangeAt w.heap.size (65 - j) (cellsU8 acc)
 bel:Below w.heap.size w wr
 says:lowF (40 - j) u' acc=lowF 40 u []
theorem FInv.start (u:Nat) (w wr:World) (hu:u<18446744073709551616) (hth:wr.there w.heap.size 0 65) (hB:Below w.heap.size w wr):FInv u w 0 u [] wr :=
 ⟨by omega,by simpa using hu,rfl,hth,fun j v hv=>by simp [cellsU8] at hv,hB,rfl⟩
theorem and_low (u:Nat) (h:u<18446744073709551616):bits .and .u64 (u:Int) 15=(u:Int) % 16:=by
 have:=u64_and_nat u 15 h (by omega);rw [show ((15:Nat):Int)=15 from rfl] at this;rw [this,show (15:Nat)=2 ^ 4 - 1 from rfl,Nat.and_two_pow_sub_one_eq_mod];omega
theorem slice_arr (g j:Nat) (hj:j<=15) (w:World):(Instr.sliceAt 284 (.pointer (some ⟨g,0,none⟩)) (some (.int .i64 ((65 - j:Nat) - 1:Int))) none none).run Tryz.prog w=.ok (.slice (some ⟨g,65 - j - 1,none⟩) (j + 1) (j + 1)) w:=by
 have ha:Tryz.prog.arrayLen 284=65:=by kernel_rfl
 have hs:(sizeOf (Tryz.prog.elem 284)).run Tryz.prog w=.ok 1 w:=by kernel_rfl
 rw [run_sliceAt_array_l w 284 ⟨g,0,none⟩ (by kernel_rfl) .i64 _ (by omega) (by rw [ha];omega),hs,ha];have e:(((65 - j:Nat):Int) - 1).toNat=65 - j - 1:=by omega
 have e2:65 - (65 - j - 1)=j + 1:=by omega
 simp only [Result.andThen,slicedAt,e,e2];rw [if_neg (by omega),Addr.add_mid];simp
theorem there_new (w:World) (C:Array Value) (T:TypeId):(w.alloc (.cells C T)).there w.heap.size 0 C.size:=fun j hj=>by
 rw [Nat.zero_add,World.cell?_alloc_new];exact ⟨by simp [hj],World.frozen?_alloc_new _ _ _ _⟩
theorem there_one {wr:World} {b i:Nat} (h:wr.there b 0 65) (hi:i<65):wr.there b i 1:=fun j hj=>by
 have:=h (i + j) (by omega);rw [Nat.zero_add] at this;exact this
theorem FInv.step {u:Nat} {w:World} {j u':Nat} {acc:Bs} {wr w1:World} (h:FInv u w j u' acc wr) (hge:16<=u')
  (hw:w1=wr.setCells w.heap.size (65 - j - 1) [.int .u8 ((lowDigit (u' % 16)).toNat:Int)]) (hB:Below w.heap.size wr w1):FInv u w (j + 1) (u' / 16) (lowDigit (u' % 16) :: acc) w1:=by
 have hj:=h.hj
 have hj14:j<=14:=by
  rcases Nat.lt_or_ge 14 j with h1 | h1
  ·have e:j=15:=by omega
   have:=h.hu;rw [e] at this;simp at this;omega
  ·exact h1
 have h1:=h.hlen;subst hw
 refine ⟨by omega,?_,by simp [h1],World.there_setCells h.there _ _ _,?_,h.bel.trans hB,?_⟩
 ·have:=h.hu
  have e:16 - j=(16 - (j + 1)) + 1:=by omega
  rw [e,Nat.pow_succ] at this;omega
 ·intro i v hv
  cases i with
  | zero =>
   simp only [cellsU8,List.map_cons,List.getElem?_cons_zero,Option.some.injEq] at hv;subst hv;have:=World.rangeAt_setCells_same wr w.heap.size (65 - j - 1) [.int .u8 ((lowDigit (u' % 16)).toNat:Int)] (there_one h.there (by omega)) 0 _ rfl;have e:65 - (j + 1)=65 - j - 1:=by omega
   rw [e];exact this
  | succ i =>
   have:=World.rangeAt_setCells_apart h.row w.heap.size (65 - j - 1) [.int .u8 ((lowDigit (u' % 16)).toNat:Int)] (.inr (.inr (by simp;omega))) i v (by simpa [cellsU8] using hv);have e:65 - (j + 1) + (i + 1)=65 - j + i:=by omega
   rw [e];exact this
 ·rw [<- h.says]
  have e:40 - j=(40 - (j + 1)) + 1:=by omega
  rw [e,lowF,if_neg (by omega)]
theorem FInv.last {u:Nat} {w:World} {j u':Nat} {acc:Bs} {wr w1:World} (h:FInv u w j u' acc wr) (hlt:u'<16)
  (hw:w1=wr.setCells w.heap.size (65 - j - 1) [.int .u8 ((lowDigit u').toNat:Int)]) (hB:Below w.heap.size wr w1) :
  (convert 95 9 (.slice (some ⟨w.heap.size,65 - j - 1,none⟩) (j + 1) (j + 1))).run Tryz.prog w1=.ok (.string ⟨(lowF 40 u []).toArray⟩) w1/\Below w.heap.size w w1:=by
 have hj:=h.hj;have h1:=h.hlen
 refine ⟨?_,h.bel.trans hB⟩
 have hs:lowF 40 u []=lowDigit u' :: acc:=by
  rw [<- h.says];have e:40 - j=(40 - (j + 1)) + 1:=by omega
  rw [e,lowF,if_pos hlt]
 have:=run_convert_bytes_arg (P:=Tryz.prog) (w:=w1) 95 5 Tryz.underlying95 Tryz.underlying5 w.heap.size (65 - j - 1) (j + 1) (j + 1) ((lowDigit u' :: acc).map fun c=>(c.toNat:Int)) (by simp [h1]) ?_ 9 Tryz.underlying9
 ·rw [this,hs]
  have:=str_ints (lowDigit u' :: acc);unfold ints at this;rw [this]
 ·intro i hi
  subst hw;cases i with
  | zero =>
   have:=World.rangeAt_setCells_same wr w.heap.size (65 - j - 1) [.int .u8 ((lowDigit u').toNat:Int)] (there_one h.there (by omega)) 0 _ rfl
   simpa using this
  | succ i =>
   have hi':i<acc.length:=by omega
   have:=World.rangeAt_setCells_apart h.row w.heap.size (65 - j - 1) [.int .u8 ((lowDigit u').toNat:Int)] (.inr (.inr (by simp;omega))) i (.int .u8 ((acc[i]).toNat:Int)) (by simp [cellsU8,hi']);have e:65 - j - 1 + (i + 1)=65 - j + i:=by omega
   rw [e,this];simp [List.getD,hi']
set_option maxRecDepth 100000 in
theorem bits_calls (u:Nat) (w:World) (hu:u<18446744073709551616) (hG:Glob w) :
  Calls Tryz.prog 165 #[.slice none 0 0,.int .u64 u,.int .i64 16,.bool false,.bool false] w fun e w'=>e=.returned (.tuple #[.slice none 0 0,.string ⟨(lowF 40 u []).toArray⟩])/\Below w.heap.size w w':=by
 go_enter Tryz.func165,Tryz.ntmps165
 go_wp2_with (first
  | (go_at_call 175;refine (pow2_calls _).mono ?_;rintro e w' ⟨rfl,rfl⟩)
  | (go_at_call 176;refine (trail_calls _ (cell_below hG.db ((Below.refl _ w).alloc (Nat.le_refl _) _))).mono ?_;rintro e w' ⟨rfl,rfl⟩))
 go_loopw [1,13] (fun a b wr=>∃ (j u':Nat) (acc:Bs),a=.int .u64 u'/\b=.int .i64 (65 - j:Nat)/\FInv u w j u' acc wr) (fun a _ _=>(intOf a).toNat)
 case atStart =>
  refine ⟨0,u,[],by go_num,rfl,FInv.start u w _ hu ?_ ((Below.refl _ w).alloc (Nat.le_refl _) _)⟩
  exact there_new w _ _
 case round =>
  obtain ⟨j,u',acc,rfl,rfl,I⟩:=hrel;have hj:=I.hj
  by_cases hge:16<=u'
  ·have HI:=hid I;clear I
   have d1:decide ((16:Int)<=(u':Int))=true:=decide_eq_true (by omega)
   have a1:bits .and .u64 (u':Int) 15=(u':Int) % 16:=by
    have h1:=and_low u' (by have:=HI.out.hu;have:16 ^ (16 - j)<=16 ^ 16:=Nat.pow_le_pow_right (by omega) (by omega);omega);exact h1
   go_name_bytes DG hDG
   have ix:∀ wx:World,(Instr.index 9 (.string DG) (.int .u64 ((u':Int) % 16))).run Tryz.prog wx=.ok (.int .u8 ((lowDigit (u' % 16)).toNat:Int)) wx:=fun wx=>by
    rw [<- hDG];exact idx_digs .u64 _ (u' % 16) (by omega) (by omega) wx
   go_wp2_with (first
    | ((with_reducible refine gate_store (t:=5) (p:=54) rfl ?_);refine cell_event rfl 5 _ _ rfl w.heap.size (65 - j - 1) (.int .u8 ((lowDigit (u' % 16)).toNat:Int)) rfl rfl rfl (there_one HI.out.there (by omega)) (by kernel_rfl) w.heap.size (Nat.le_refl _) ?_;intro w1 hw1 hB1 hs1))
   subst hw1;have hst:=FInv.step HI.out hge rfl hB1
   refine ⟨⟨j + 1,u' / 16,_,by rw [Value.int.injEq];exact ⟨rfl,by omega⟩,by rw [Value.int.injEq];exact ⟨rfl,by omega⟩,hst⟩,?_⟩
   simp only [intOf];omega
  ·have hlt:u'<16:=by omega
   have HI:=hid I;clear I;have d1:decide ((16:Int)<=(u':Int))=false:=decide_eq_false (by omega)
   go_name_bytes DG hDG
   have ix:∀ wx:World,(Instr.index 9 (.string DG) (.int .u64 (u':Int))).run Tryz.prog wx=.ok (.int .u8 ((lowDigit u').toNat:Int)) wx:=fun wx=>by
    rw [<- hDG];exact idx_digs .u64 _ u' rfl (by omega) wx
   go_wp2_with (first
    | ((with_reducible refine gate_store (t:=5) (p:=63) rfl ?_);refine cell_event rfl 5 _ _ rfl w.heap.size (65 - j - 1) (.int .u8 ((lowDigit u').toNat:Int)) rfl rfl rfl (there_one HI.out.there (by omega)) (by kernel_rfl) w.heap.size (Nat.le_refl _) ?_;intro w1 hw1 hB1 hs1;have hcv:=FInv.last HI.out hlt hw1 hB1;have hc1:=hcv.1;have hsl:=slice_arr w.heap.size j hj;have HB2:=hid hcv.2;clear hw1 hcv))
   refine bodyPost_ret (results_list (rs:=[.tmp 10,.tmp 11]) rfl (by simp) (.tmp (.tmp .nil))) rfl ?_
   exact ⟨rfl,HB2.out⟩
theorem upper_low (d:Nat) (h:d<16):Lib.upperB (lowDigit d)=Sp.hexDigit d:=by
 have:∀ i:Fin 16,Lib.upperB (lowDigit i.1)=Sp.hexDigit i.1:=by decide
 exact this ⟨d,h⟩
theorem upper_lowF:∀ (f u:Nat) (acc:Bs),Lib.toUpperA (lowF f u acc)=hexF f u (Lib.toUpperA acc)
 | 0,_,_=>rfl
 | f + 1,u,acc=>by
  unfold lowF hexF
  split
  ·rename_i h
   show Lib.upperB _ :: _=_;rw [upper_low u h]
   rfl
  ·rw [upper_lowF f]
   show hexF f (u / 16) (Lib.upperB _ :: _)=_;rw [upper_low _ (Nat.mod_lt _ (by omega))]
   rfl
theorem below_putRow {α:Type} [Inhabited α] (enc:α->Value) {B blk:Nat} {a w:World} (h:Below B a w) (hb:B<=blk) (off:Nat) (d:Array α):Below B a (Go.Sort.putRow enc w blk off d) :=
 h.trans ⟨rfl,rfl,rfl,by simp [Go.Sort.putRow,Go.Sort.mapBlock],fun k hk=>by
  simp only [Go.Sort.putRow,Go.Sort.mapBlock,Array.getElem?_modify]
  rw [if_neg (by omega)]⟩
theorem zero_holds (w:World) (T:TypeId) (nd:Nat) (hs:nd<=24):Go.Sort.Holds (fun (b:UInt8)=>Value.int .u8 (b.toNat:Int)) (w.alloc (.cells Lib.zeros24 T)) w.heap.size 0 (Array.replicate nd (0:UInt8)):=fun j hj=>by
 have hj':j<nd:=by simpa using hj
 refine ⟨?_,World.frozen?_alloc_new _ _ _ _⟩
 rw [World.cell?_alloc_new,Lib.zeros24_at _ (by omega),getElem!_pos _ j hj];simp
theorem nd_pow (u:Nat):u<10 ^ Lib.nDigits u:=by
 induction u using Nat.strongRecOn with
 | _ u ih =>
  by_cases h:u<10
  ·rw [Lib.nDigits_small h];omega
  ·rw [Lib.nDigits_big h,Nat.pow_succ]
   have:=ih (u / 10) (by omega);omega
theorem nd_up:∀ (k u:Nat),u<10 ^ (k + 1)->Lib.nDigits u<=k + 1
 | 0,u,h=>by rw [Lib.nDigits_small (by simpa using h)];omega
 | k + 1,u,h=>by
  by_cases h1:u<10
  ·rw [Lib.nDigits_small h1];omega
  ·rw [Lib.nDigits_big h1]
   have:=nd_up k (u / 10) (by rw [Nat.pow_succ] at h;omega);omega
theorem nd_le (u:Nat) (h:u<4294967296):Lib.nDigits u<=10/\u<10 ^ Lib.nDigits u:=⟨nd_up 9 u (by omega),nd_pow u⟩
theorem slice_24 (g nd:Nat) (hj:nd<=24) (w:World):(Instr.sliceAt 270 (.pointer (some ⟨g,0,none⟩)) none (some (.int .i64 (nd:Int))) none).run Tryz.prog w=.ok (.slice (some ⟨g,0,none⟩) nd 24) w:=by
 have ha:Tryz.prog.arrayLen 270=24:=by kernel_rfl
 have hs:(sizeOf (Tryz.prog.elem 270)).run Tryz.prog w=.ok 1 w:=by kernel_rfl
 rw [run_sliceAt_array_h w 270 ⟨g,0,none⟩ (by kernel_rfl) .i64 _ (by omega) (by rw [ha];omega),hs,ha];simp [Result.andThen,slicedAt,Addr.add_mid]
structure Dec (w:World) (u:Nat) (w2:World):Prop where
 conv:∀ cap,(convert 95 9 (.slice (some ⟨w.heap.size,0,none⟩) (Lib.nDigits u) cap)).run Tryz.prog w2=.ok (.string ⟨(Lib.decDigits u).toArray⟩) w2
 bel:Below w.heap.size w w2
theorem dec_row {w:World} {T:TypeId} {u v' n:Nat} {dk:Array UInt8} (hnd:Lib.nDigits u<=24) (h:Lib.FmtInv (Lib.nDigits u) u 0 v' dk) :
  Dec w u ((Go.Sort.putRow (fun (b:UInt8)=>Value.int .u8 (b.toNat:Int)) (w.alloc (.cells Lib.zeros24 T)) w.heap.size 0 dk).drewN n) where
 conv cap:=by
  have hs:=h.size;have hH:=Go.Sort.holds_putRow _ _ _ _ _ dk (zero_holds w T (Lib.nDigits u) hnd) (by simp [hs]);have:=run_convert_bytes_arg (P:=Tryz.prog) (w:=(Go.Sort.putRow (fun (b:UInt8)=>Value.int .u8 (b.toNat:Int)) (w.alloc (.cells Lib.zeros24 T)) w.heap.size 0 dk).drewN n) 95 5 Tryz.underlying95 Tryz.underlying5 w.heap.size 0 (Lib.nDigits u) cap (ints (Lib.decDigits u)) (by rw [ints_len,Lib.decDigits_length]) ?_ 9 Tryz.underlying9
  ·rw [this,str_ints]
  ·intro i hi
   have h1:=(hH i (by omega)).1;have hi':i<(Lib.decDigits u).length:=by rw [Lib.decDigits_length];exact hi
   have h2:=Lib.row_is_numeral h i hi';have h3:((Go.Sort.putRow (fun (b:UInt8)=>Value.int .u8 (b.toNat:Int)) (w.alloc (.cells Lib.zeros24 T)) w.heap.size 0 dk).drewN n).cell? ⟨w.heap.size,0 + i,none⟩=(Go.Sort.putRow (fun (b:UInt8)=>Value.int .u8 (b.toNat:Int)) (w.alloc (.cells Lib.zeros24 T)) w.heap.size 0 dk).cell? ⟨w.heap.size,0 + i,none⟩:=rfl;rw [h3,h1,<- h2];simp [ints,List.getD,hi']
 bel:=(below_putRow _ ((Below.refl _ w).alloc (Nat.le_refl _) _) (Nat.le_refl _) 0 dk).trans (Go.Joins.below_draws _ _ n)
theorem base10_calls (u:Nat) (w:World) (hu:u<4294967296) :
  Calls Tryz.prog 164 #[.slice (some ⟨w.heap.size,0,none⟩) (Lib.nDigits u) 24,.int .u64 u] (w.alloc (.cells Lib.zeros24 270)) fun e w'=>e=.returned (.tuple #[])/\Dec w u w':=by
 have hnd:=nd_le u hu;have hb:=Tryz.internal_strconv_formatBase10 w.heap.size 0 24 u (Array.replicate (Lib.nDigits u) (0:UInt8)) _ (zero_holds w 270 (Lib.nDigits u) (by omega)) (by simpa using hnd.2) (by omega) (by simp only [Array.size_replicate];omega);have e:(Array.replicate (Lib.nDigits u) (0:UInt8)).size=Lib.nDigits u:=Array.size_replicate;rw [e] at hb
 refine hb.mono ?_
 rintro e w' ⟨rfl,n,v',dk,hw,hI⟩
 refine ⟨rfl,?_⟩
 rw [hw];exact dec_row (by omega) hI
set_option maxRecDepth 100000 in
theorem dec_calls (u:Nat) (w:World) (hu:u<4294967296) (hG:Glob w) :
  Calls Tryz.prog 152 #[.int .u64 u,.int .i64 10] w fun e w'=>e=.returned (.string ⟨(Lib.decDigits u).toArray⟩)/\Below w.heap.size w w':=by
 by_cases hlt:u<100
 ·have d1:decide ((u:Int)<100)=true:=decide_eq_true (by omega)
  go_enter Tryz.func152,Tryz.ntmps152
  go_wp2_with (first
   | (go_at_call 162;refine (Tryz.internal_strconv_small u hlt _).mono ?_;rintro e w' ⟨rfl,hw⟩;obtain rfl:=hw.symm))
  go_ret
  exact ⟨rfl,Below.refl _ _⟩
 ·have d1:decide ((u:Int)<100)=false:=decide_eq_false (by omega)
  have hnd:=(nd_le u hu).1;have hpow:=hid (nd_le u hu).2;have hG2:=hid hG;clear hG;generalize hN:Lib.nDigits u=nd at hnd;have HN:=hid hN;clear hN;have hb:=base10_calls u w hu;rw [HN.out] at hb;have hsl:=slice_24 w.heap.size nd (by omega)
  go_enter Tryz.func152,Tryz.ntmps152
  go_wp2_with (first
   | (go_at_call 163;refine (Tryz.internal_strconv_numDigits u (by omega) (by omega) _ (Lib.tabIs_alloc hG2.out.pow _)).mono ?_;rintro e w' ⟨rfl,hw⟩;obtain rfl:=hw.symm;simp only [HN.out])
   | (go_at_call 164;refine hb.mono ?_;rintro e w' ⟨rfl,hD⟩;have hcv:=hD.conv 24;rw [HN.out] at hcv;have HD:=hid hD;clear hD))
  go_ret
  exact ⟨rfl,HD.out.bel⟩
theorem hex16_calls (u:Nat) (w:World) (hu:u<4294967296) (hG:Glob w) :
  Calls Tryz.prog 152 #[.int .u64 u,.int .i64 16] w fun e w'=>e=.returned (.string ⟨(lowF 40 u []).toArray⟩)/\Below w.heap.size w w':=by
 have hG2:=hid hG;clear hG
 go_enter Tryz.func152,Tryz.ntmps152
 go_wp2_with (first
  | (go_at_call 165;refine (bits_calls u _ (by omega) hG2.out).mono ?_;rintro e w' ⟨rfl,hB⟩;have HB:=hid hB;clear hB))
 go_ret
 exact ⟨rfl,HB.out⟩
theorem fmt10_calls (u:Nat) (w:World) (hu:u<4294967296) (hG:Glob w) :
  Calls Tryz.prog 128 #[.int .u64 u,.int .i64 10] w fun e w'=>e=.returned (.string ⟨(Lib.decDigits u).toArray⟩)/\Below w.heap.size w w':=by
 have hG2:=hid hG;clear hG
 go_enter Tryz.func128,Tryz.ntmps128
 go_wp2_with (first
  | (go_at_call 152;refine (dec_calls u _ hu hG2.out).mono ?_;rintro e w' ⟨rfl,hB⟩;have HB:=hid hB;clear hB))
 go_ret
 exact ⟨rfl,HB.out⟩
theorem fmt16_calls (u:Nat) (w:World) (hu:u<4294967296) (hG:Glob w) :
  Calls Tryz.prog 128 #[.int .u64 u,.int .i64 16] w fun e w'=>e=.returned (.string ⟨(lowF 40 u []).toArray⟩)/\Below w.heap.size w w':=by
 have hG2:=hid hG;clear hG
 go_enter Tryz.func128,Tryz.ntmps128
 go_wp2_with (first
  | (go_at_call 152;refine (hex16_calls u _ hu hG2.out).mono ?_;rintro e w' ⟨rfl,hB⟩;have HB:=hid hB;clear hB))
 go_ret
 exact ⟨rfl,HB.out⟩
theorem lowDigit_ascii (d:Nat) (h:d<16):(lowDigit d).toNat<128:=by
 have:∀ i:Fin 16,(lowDigit i.1).toNat<128:=by decide
 exact this ⟨d,h⟩
theorem lowF_facts:∀ (f u:Nat) (acc:Bs),(∀ c ∈ acc,c.toNat<128)->(∀ c ∈ lowF f u acc,c.toNat<128)/\(lowF f u acc).length<=acc.length + f
 | 0,_,acc,h=>⟨h,Nat.le_refl _⟩
 | f + 1,u,acc,h=>by
  unfold lowF
  split
  ·rename_i h1
   refine ⟨fun c hc=>?_,by simp⟩
   rcases List.mem_cons.1 hc with rfl | hc
   ·exact lowDigit_ascii u h1
   ·exact h c hc
  ·obtain ⟨h1,h2⟩:=lowF_facts f (u / 16) (lowDigit (u % 16) :: acc) (fun c hc=>by
    rcases List.mem_cons.1 hc with rfl | hc
    ·exact lowDigit_ascii _ (Nat.mod_lt _ (by omega))
    ·exact h c hc)
   exact ⟨h1,by simp at h2;omega⟩
theorem upper16_calls (u:Nat) (w:World) :
  Calls Tryz.prog 127 #[.string ⟨(lowF 40 u []).toArray⟩] w fun e w'=>e=.returned (.string ⟨(hexF 40 u []).toArray⟩)/\Below w.heap.size w w':=by
 obtain ⟨h1,h2⟩:=lowF_facts 40 u [] (by simp);have hsz:(⟨(lowF 40 u []).toArray⟩:ByteArray).size=(lowF 40 u []).length:=by simp [ByteArray.size]
 have h:=Tryz.strings_ToUpper_ascii ⟨(lowF 40 u []).toArray⟩ w (by rw [hsz];simp at h2;omega) (fun j b hb=>h1 b (List.mem_of_getElem? (by simpa using hb)))
 have e:Lib.toUpperA (⟨(lowF 40 u []).toArray⟩:ByteArray).data.toList=hexF 40 u []:=by
  show Lib.toUpperA (lowF 40 u [])=_;rw [upper_lowF]
  rfl
 rw [e] at h;exact h
def sB:ByteArray:=⟨#[92]⟩
def sBB:ByteArray:=⟨#[92,92]⟩
def sQ:ByteArray:=⟨#[34]⟩
def sBQ:ByteArray:=⟨#[92,34]⟩
structure OldNew (g:Nat) (w:World):Prop where
 c0:w.cell? ⟨g,0,none⟩=some (.string sB)
 c1:w.cell? ⟨g,1,none⟩=some (.string sBB)
 c2:w.cell? ⟨g,2,none⟩=some (.string sQ)
 c3:w.cell? ⟨g,3,none⟩=some (.string sBQ)
structure BS (R:Nat) (w:World) (v34 v92 vt:Value):Prop where
 c:∀ k,k<256->w.cell? ⟨R,k,none⟩=some (if k=34 then v34 else if k=92 then v92 else .slice none 0 0)
 t:w.cell? ⟨R,256,none⟩=some vt
 f:∀ k,k<257->w.frozen? ⟨R,k,none⟩=false
def bsCells (vt:Value):Array Value:=(Array.replicate 256 (Value.slice none 0 0)).push vt
theorem bsCells_at (vt:Value) (k:Nat) (h:k<256):(bsCells vt)[k]?=some (.slice none 0 0):=by
 unfold bsCells;rw [Array.getElem?_push,if_neg (by simp;omega)];simp [h]
theorem bsCells_last (vt:Value):(bsCells vt)[256]?=some vt:=by
 unfold bsCells;rw [Array.getElem?_push,if_pos (by simp)]
theorem OldNew.of_block {g:Nat} {w w':World} (h:OldNew g w) (hb:w'.heap[g]?=w.heap[g]?):OldNew g w' :=
 ⟨(World.cell?_of_block (a:=⟨g,0,none⟩) hb).trans h.c0,(World.cell?_of_block (a:=⟨g,1,none⟩) hb).trans h.c1,(World.cell?_of_block (a:=⟨g,2,none⟩) hb).trans h.c2,(World.cell?_of_block (a:=⟨g,3,none⟩) hb).trans h.c3⟩
theorem BS.of_block {R:Nat} {w w':World} {v34 v92 vt:Value} (h:BS R w v34 v92 vt) (hb:w'.heap[R]?=w.heap[R]?):BS R w' v34 v92 vt :=
 ⟨fun k hk=>(World.cell?_of_block (a:=⟨R,k,none⟩) hb).trans (h.c k hk),(World.cell?_of_block (a:=⟨R,256,none⟩) hb).trans h.t,fun k hk=>(World.frozen?_of_block (a:=⟨R,k,none⟩) hb).trans (h.f k hk)⟩
theorem BS.new {R:Nat} {w:World} {T:TypeId} {vt:Value} (h:w.heap[R]?=some (.cells (bsCells vt) T (0,0))):BS R w (.slice none 0 0) (.slice none 0 0) vt where
 c k hk:=by
  simp only [World.cell?,h];rw [bsCells_at vt k hk];simp
 t:=by
  simp only [World.cell?,h];exact bsCells_last vt
 f k hk:=by
  simp [World.frozen?,h]
theorem BS.there {R:Nat} {w:World} {v34 v92 vt:Value} (h:BS R w v34 v92 vt) (k:Nat) (hk:k<257):w.there R k 1:=fun j hj=>by
 obtain rfl:j=0:=by omega
 refine ⟨?_,h.f k hk⟩
 by_cases h1:k=256
 ·subst h1
  have:=h.t;simp only [Nat.add_zero];rw [this];rfl
 ·have:=h.c k (by omega)
  simp only [Nat.add_zero];rw [this];rfl
theorem set_in {w:World} {R k:Nat} {v:Value} (h:w.there R k 1):(w.setCells R k [v]).cell? ⟨R,k,none⟩=some v:=by
 have:=World.cell?_setCells_in R [v] k w (fun j hj=>(h j (by simpa using hj)).1) 0 (by simp)
 simpa using this
theorem set_out {w:World} {R k j:Nat} {v:Value} (h:j≠k):(w.setCells R k [v]).cell? ⟨R,j,none⟩=w.cell? ⟨R,j,none⟩ :=
 World.cell?_setCells_out R [v] k w ⟨R,j,none⟩ (fun _ _=>by simp;omega)
theorem set_frozen (w:World) (R k j:Nat) (v:Value):(w.setCells R k [v]).frozen? ⟨R,j,none⟩=w.frozen? ⟨R,j,none⟩:=World.frozen?_setCells R [v] k w _
theorem set_other (w:World) (R k j:Nat) (v:Value) (h:j≠R):(w.setCells R k [v]).heap[j]?=w.heap[j]?:=by
 show (w.setCell ⟨R,k,none⟩ v).heap[j]?=_;exact Below.heap_setCell w ⟨R,k,none⟩ v j h
theorem BS.setT {R:Nat} {w:World} {v34 v92 vt:Value} (h:BS R w v34 v92 vt) (v:Value):BS R (w.setCells R 256 [v]) v34 v92 v where
 c k hk:=(set_out (by omega)).trans (h.c k hk)
 t:=set_in (h.there 256 (by omega))
 f k hk:=(set_frozen _ _ _ _ _).trans (h.f k hk)
theorem BS.set34 {R:Nat} {w:World} {v34 v92 vt:Value} (h:BS R w v34 v92 vt) (v:Value):BS R (w.setCells R 34 [v]) v v92 vt where
 c k hk:=by
  by_cases h1:k=34
  ·subst h1
   rw [set_in (h.there 34 (by omega))];rfl
  ·rw [set_out h1,h.c k hk,if_neg h1,if_neg h1]
 t:=(set_out (by omega)).trans h.t
 f k hk:=(set_frozen _ _ _ _ _).trans (h.f k hk)
theorem BS.set92 {R:Nat} {w:World} {v34 v92 vt:Value} (h:BS R w v34 v92 vt) (v:Value):BS R (w.setCells R 92 [v]) v34 v vt where
 c k hk:=by
  by_cases h1:k=92
  ·subst h1
   rw [set_in (h.there 92 (by omega))];rfl
  ·rw [set_out h1,h.c k hk]
   simp [h1]
 t:=(set_out (by omega)).trans h.t
 f k hk:=(set_frozen _ _ _ _ _).trans (h.f k hk)
structure BI (g R:Nat) (w0 w:World) (v34 v92 vt:Value) (xs:List Value):Prop where
 bs:BS R w v34 v92 vt
 own:w.ownsRow w0.heap.size 9 1 vt xs.length xs
 ne:vt.ownBlock≠some R
 new:OldNew g w
 bel:Below w0.heap.size w0 w
 lt:R<w.heap.size
 hR:w0.heap.size<=R
 hg:g<w0.heap.size
theorem BI.below {g R:Nat} {w0 w w':World} {v34 v92 vt:Value} {xs:List Value} (h:BI g R w0 w v34 v92 vt xs) (hB:Below w.heap.size w w'):BI g R w0 w' v34 v92 vt xs :=
 { h with
  bs:=h.bs.of_block (hB.block R h.lt)
  own:=pw_own_below h.own hB
  new:=h.new.of_block (hB.block g (by have:=h.hg;have:=h.bel.size;omega))
  bel:=h.bel.trans (hB.mono h.bel.size)
  lt:=Nat.lt_of_lt_of_le h.lt hB.size }
theorem BI.app {g R:Nat} {w0 w w':World} {v34 v92 vt v1 y:Value} {xs:List Value} (h:BI g R w0 w v34 v92 vt xs) (ho:w'.ownsRow w0.heap.size 9 1 v1 (xs++[y]).length (xs++[y]))
  (hB:Below w0.heap.size w0 w') (hg:w.grownBy w' vt.ownBlock) (hat:v1.ownBlock=vt.ownBlock∨∃ b,v1.ownBlock=some b/\w.heap.size<=b):BI g R w0 (w'.setCells R 256 [v1]) v34 v92 v1 (xs++[y]):=by
 have hne:v1.ownBlock≠some R:=by
  rcases hat with e | ⟨b,e,hb⟩
  ·rw [e];exact h.ne
  ·rw [e];intro e2;have:=h.lt;simp at e2;omega
 have hR2:=h.hR;have hg2:=h.hg;have hlt:=h.lt
 refine ⟨(h.bs.of_block (hg.block R h.lt (fun e=>h.ne e.symm))).setT v1,?_,hne,?_,?_,?_,h.hR,h.hg⟩
 ·refine own_move ho (fun k hk=>?_)
  exact set_other _ _ _ _ _ (fun e=>hne (by rw [hk,e]))
 ·refine (h.new.of_block (hg.block g (by have:=h.bel.size;omega) (fun e=>?_))).of_block (set_other _ _ _ _ _ (by omega))
  have:=(h.own.lt g e.symm).1;omega
 ·exact hB.trans ((Below.refl _ _).setCell (p:=⟨R,256,none⟩) hR2 v1)
 ·have:=hg.size
  simp [World.setCells,World.setCell];omega
theorem BI.set34 {g R:Nat} {w0 w:World} {v34 v92 vt:Value} {xs:List Value} (h:BI g R w0 w v34 v92 vt xs) (v:Value):BI g R w0 (w.setCells R 34 [v]) v v92 vt xs:=by
 have hR2:=h.hR;have hg2:=h.hg
 refine ⟨h.bs.set34 v,own_move h.own (fun k hk=>set_other _ _ _ _ _ (fun e=>h.ne (by rw [hk,e]))),h.ne,h.new.of_block (set_other _ _ _ _ _ (by omega)),h.bel.trans ((Below.refl _ _).setCell (p:=⟨R,34,none⟩) hR2 v),?_,h.hR,h.hg⟩
 have:=h.lt
 simpa [World.setCells,World.setCell] using this
theorem BI.set92 {g R:Nat} {w0 w:World} {v34 v92 vt:Value} {xs:List Value} (h:BI g R w0 w v34 v92 vt xs) (v:Value):BI g R w0 (w.setCells R 92 [v]) v34 v vt xs:=by
 have hR2:=h.hR;have hg2:=h.hg
 refine ⟨h.bs.set92 v,own_move h.own (fun k hk=>set_other _ _ _ _ _ (fun e=>h.ne (by rw [hk,e]))),h.ne,h.new.of_block (set_other _ _ _ _ _ (by omega)),h.bel.trans ((Below.refl _ _).setCell (p:=⟨R,92,none⟩) hR2 v),?_,h.hR,h.hg⟩
 have:=h.lt
 simpa [World.setCells,World.setCell] using this
structure QB (B q R:Nat) (l:Bs) (w:World) (vt:Value):Prop where
 ge:B<=q
 row:w.rangeAt q 0 (cellsU8 l)
 lt:q<w.heap.size
 neR:q≠R
 neO:vt.ownBlock≠some q
theorem range_block {w w':World} {q:Nat} {l:List Value} (h:w.rangeAt q 0 l) (hb:w'.heap[q]?=w.heap[q]?):w'.rangeAt q 0 l:=fun j v hv=>(World.cell?_of_block (a:=⟨q,0 + j,none⟩) hb).trans (h j v hv)
theorem QB.new {g R:Nat} {w0 w w':World} {v34 v92 vt:Value} {xs:List Value} {l:Bs} (h:BI g R w0 w v34 v92 vt xs) (hB:Below w.heap.size w w') (hs:w'.heap.size=w.heap.size + 1) (hr:w'.rangeAt w.heap.size 0 (cellsU8 l)):QB w0.heap.size w.heap.size R l w' vt :=
 ⟨h.bel.size,hr,by omega,by have:=h.lt;omega,fun e=>by have:=(h.own.lt _ e).2;omega⟩
theorem QB.set_eq {B q R k:Nat} {l:Bs} {w w1:World} {vt v:Value} (h:QB B q R l w vt) (hw:w1=w.setCells R k [v]):QB B q R l w1 vt:=by
 subst hw;exact ⟨h.ge,range_block h.row (set_other _ _ _ _ _ h.neR),by have:=h.lt;simpa [World.setCells,World.setCell] using this,h.neR,h.neO⟩
theorem QB.below {B q R:Nat} {l:Bs} {w w1:World} {vt:Value} (h:QB B q R l w vt) (hB:Below w.heap.size w w1):QB B q R l w1 vt :=
 ⟨h.ge,range_block h.row (hB.block q h.lt),Nat.lt_of_lt_of_le h.lt hB.size,h.neR,h.neO⟩
theorem QB.alloc_eq {B q R:Nat} {l:Bs} {w w1:World} {vt:Value} {ob:Obj} (h:QB B q R l w vt) (hw:w1=w.alloc ob):QB B q R l w1 vt :=
 h.below (by rw [hw];exact (Below.refl _ _).alloc (Nat.le_refl _) _)
theorem QB.app_eq {B q R:Nat} {l:Bs} {w w' w1:World} {vt v1:Value} (h:QB B q R l w vt) (hg:w.grownBy w' vt.ownBlock) (hat:v1.ownBlock=vt.ownBlock∨∃ b,v1.ownBlock=some b/\w.heap.size<=b) (hw:w1=w'.setCells R 256 [v1]):QB B q R l w1 v1:=by
 refine QB.set_eq ⟨h.ge,range_block h.row (hg.block q h.lt (fun e=>h.neO e.symm)),Nat.lt_of_lt_of_le h.lt hg.size,h.neR,?_⟩ hw
 rcases hat with e | ⟨b,e,hb⟩
 ·rw [e];exact h.neO
 ·rw [e];intro e2;have:=h.lt;simp at e2;omega
structure Repl (B R:Nat) (w:World) (q p t cq cp ct:Nat):Prop where
 gR:B<=R
 gq:B<=q
 gp:B<=p
 gt:B<=t
 bs:BS R w (.slice (some ⟨q,0,none⟩) 2 cq) (.slice (some ⟨p,0,none⟩) 2 cp) (.slice (some ⟨t,0,none⟩) 2 ct)
 rq:w.rangeAt q 0 (cellsU8 [92,34])
 rp:w.rangeAt p 0 (cellsU8 [92,92])
 t0:w.cell? ⟨t,0,none⟩=some (.string sQ)
 t1:w.cell? ⟨t,1,none⟩=some (.string sB)
 lR:R<w.heap.size
 lq:q<w.heap.size
 lp:p<w.heap.size
 lt:t<w.heap.size
theorem Repl.below {B R q p t cq cp ct:Nat} {w w':World} (h:Repl B R w q p t cq cp ct) (hB:Below w.heap.size w w'):Repl B R w' q p t cq cp ct :=
 ⟨h.gR,h.gq,h.gp,h.gt,h.bs.of_block (hB.block R h.lR),range_block h.rq (hB.block q h.lq),range_block h.rp (hB.block p h.lp),(World.cell?_of_block (a:=⟨t,0,none⟩) (hB.block t h.lt)).trans h.t0,(World.cell?_of_block (a:=⟨t,1,none⟩) (hB.block t h.lt)).trans h.t1,
  Nat.lt_of_lt_of_le h.lR hB.size,Nat.lt_of_lt_of_le h.lq hB.size,Nat.lt_of_lt_of_le h.lp hB.size,Nat.lt_of_lt_of_le h.lt hB.size⟩
theorem Repl.but {B b R q p t cq cp ct:Nat} {w w':World} (h:Repl B R w q p t cq cp ct) (hb:b<B) (hB:w.grownBy w' (some b)):Repl B R w' q p t cq cp ct :=
 have key:∀ k,B<=k->k<w.heap.size->w'.heap[k]?=w.heap[k]?:=fun k h1 h2=>hB.block k h2 (fun e=>by injection e with e;omega)
 ⟨h.gR,h.gq,h.gp,h.gt,h.bs.of_block (key R h.gR h.lR),range_block h.rq (key q h.gq h.lq),range_block h.rp (key p h.gp h.lp),(World.cell?_of_block (a:=⟨t,0,none⟩) (key t h.gt h.lt)).trans h.t0,(World.cell?_of_block (a:=⟨t,1,none⟩) (key t h.gt h.lt)).trans h.t1,
  Nat.lt_of_lt_of_le h.lR hB.size,Nat.lt_of_lt_of_le h.lq hB.size,Nat.lt_of_lt_of_le h.lp hB.size,Nat.lt_of_lt_of_le h.lt hB.size⟩
def BuildPost (w:World) (e:Ending) (w':World):Prop:=∃ R q p t cq cp ct,e=.returned (.iface 300 (.pointer (some ⟨R,0,none⟩)))/\w.heap.size<=R/\Below w.heap.size w w'/\Repl w.heap.size R w' q p t cq cp ct
theorem built {g R q p cq cp:Nat} {w w':World} {vt:Value} (h:BI g R w w' (.slice (some ⟨q,0,none⟩) 2 cq) (.slice (some ⟨p,0,none⟩) 2 cp) vt [.string sQ,.string sB])
  (h1:QB w.heap.size q R sBQ.data.toList w' vt) (h2:QB w.heap.size p R sBB.data.toList w' vt):BuildPost w (.returned (.iface 300 (.pointer (some ⟨R,0,none⟩)))) w':=by
 have ho:=h.own;rcases ho.2 with ⟨_,e⟩ | ⟨t,ct,cur,rfl,hb,hh,hn,hm,hs,htk⟩
 ·cases e
 ·have hlt:t<w'.heap.size:=(Array.getElem?_eq_some_iff.1 hh).1
  have c0:cur.toList[0]?=some (.string sQ):=by
   have:=congrArg (fun l=>l[0]?) htk
   simpa using this
  have c1:cur.toList[1]?=some (.string sB):=by
   have:=congrArg (fun l=>l[1]?) htk
   simpa using this
  refine ⟨R,q,p,t,cq,cp,ct,rfl,h.hR,h.bel,⟨h.hR,h1.ge,h2.ge,hb,h.bs,h1.row,h2.row,?_,?_,h.lt,h1.lt,h2.lt,hlt⟩⟩
  ·simp only [World.cell?,hh]
   simpa using c0
  ·simp only [World.cell?,hh]
   simpa using c1
theorem BI.alloc_eq {g R:Nat} {w0 w w':World} {v34 v92 vt:Value} {xs:List Value} {ob:Obj} (h:BI g R w0 w v34 v92 vt xs) (hw:w'=w.alloc ob):BI g R w0 w' v34 v92 vt xs :=
 h.below (by rw [hw];exact (Below.refl _ _).alloc (Nat.le_refl _) _)
theorem BI.app_eq {g R:Nat} {w0 w w' w1:World} {v34 v92 vt v1 y:Value} {xs:List Value} (h:BI g R w0 w v34 v92 vt xs) (ho:w'.ownsRow w0.heap.size 9 1 v1 (xs++[y]).length (xs++[y]))
  (hB:Below w0.heap.size w0 w') (hg:w.grownBy w' vt.ownBlock) (hat:v1.ownBlock=vt.ownBlock∨∃ b,v1.ownBlock=some b/\w.heap.size<=b) (hw:w1=w'.setCells R 256 [v1]):BI g R w0 w1 v34 v92 v1 (xs++[y]):=by
 rw [hw];exact h.app ho hB hg hat
theorem BI.set34_eq {g R:Nat} {w0 w w1:World} {v34 v92 vt v:Value} {xs:List Value} (h:BI g R w0 w v34 v92 vt xs) (hw:w1=w.setCells R 34 [v]):BI g R w0 w1 v v92 vt xs:=by
 rw [hw];exact h.set34 v
theorem BI.set92_eq {g R:Nat} {w0 w w1:World} {v34 v92 vt v:Value} {xs:List Value} (h:BI g R w0 w v34 v92 vt xs) (hw:w1=w.setCells R 92 [v]):BI g R w0 w1 v34 v vt xs:=by
 rw [hw];exact h.set92 v
theorem BI.there5 {g R:Nat} {w0 w w':World} {v34 v92 vt:Value} {xs:List Value} (h:BI g R w0 w v34 v92 vt xs) (hg:w.grownBy w' vt.ownBlock):w'.there R 256 1 :=
 (h.bs.of_block (hg.block R h.lt (fun e=>h.ne e.symm))).there 256 (by omega)
theorem one_byte {w w':World} {c:Int} (hw:w'=w.alloc (.cells #[.int .u8 c] 5)):(convert 95 9 (.slice (some ⟨w.heap.size,0,none⟩) 1 1)).run Tryz.prog w'=.ok (.string (strOfNums [c])) w':=by
 refine run_convert_bytes_arg (P:=Tryz.prog) (w:=w') 95 5 Tryz.underlying95 Tryz.underlying5 w.heap.size 0 1 1 [c] rfl ?_ 9 Tryz.underlying9
 intro i hi;obtain rfl:i=0:=by omega
 rw [hw,World.cell?_alloc_new]
 rfl
theorem bytes_fact (w:World) (s:ByteArray) (n:Nat) (hn:s.size=n):∃ cap w',(convert 9 95 (.string s)).run Tryz.prog w=.ok (.slice (some ⟨w.heap.size,0,none⟩) n cap) w'/\Below w.heap.size w w'/\w'.heap.size=w.heap.size + 1/\w'.rangeAt w.heap.size 0 (cellsU8 s.data.toList)/\True:=by
 subst hn
 refine ⟨_,_,run_bytes_of_string w 9 95 5 s Tryz.underlying9 Tryz.underlying95 Tryz.underlying5,?_,by simp,?_,trivial⟩
 ·exact (Below.refl _ w).drew.alloc (Nat.le_refl _) _
 ·intro j v hv
  rw [Nat.zero_add];have:=World.cell?_alloc_mark w.drew (bytesRow s (grownCap w s.size 0 5)) 5 ((bytesRow s (grownCap w s.size 0 5)).size,(bytesRow s (grownCap w s.size 0 5)).size + 1) j
  refine Eq.trans this ?_
  have hj:j<s.data.size:=by
   rcases Nat.lt_or_ge j s.data.size with h | h
   ·exact h
   ·rw [List.getElem?_eq_none (by simpa [cellsU8] using h)] at hv;cases hv
  rw [bytesRow_at s _ j hj];simp only [cellsU8,List.getElem?_map] at hv;rw [List.getElem?_eq_getElem (by simpa using hj)] at hv
  simpa using hv
theorem BI.first {g:Nat} {w w1 w2 w3:World} (hg:g<w.heap.size) (ho:OldNew g w) (h1:w1=w.alloc (.cells #[.string ⟨#[]⟩,.string ⟨#[]⟩] 9))
  (h2:w2=w1.alloc (.cells (bsCells (.slice none 0 0)) 299)) (h3:w3.heap[w.heap.size + 1]?=some (.cells (bsCells (.slice (some ⟨w.heap.size,0,none⟩) 0 2)) 299 (0,0)))
  (hB:Below w.heap.size w2 w3) (hsz:w3.heap.size=w2.heap.size) (hoth:∀ k,k≠w.heap.size + 1->w3.heap[k]?=w2.heap[k]?) :
  BI g (w.heap.size + 1) w w3 (.slice none 0 0) (.slice none 0 0) (.slice (some ⟨w.heap.size,0,none⟩) 0 2) []:=by
 have hB2:Below w.heap.size w w2:=by rw [h2,h1];exact ((Below.refl _ w).alloc (Nat.le_refl _) _).alloc (by simp) _
 have hs2:w2.heap.size=w.heap.size + 2:=by rw [h2,h1];simp
 refine ⟨BS.new h3,?_,by simp [Value.ownBlock],(ho.of_block (hB2.block g hg)).of_block (hoth g (by omega)),hB2.trans hB,by omega,by omega,hg⟩
 refine ⟨rfl,.inr ⟨w.heap.size,2,#[.string ⟨#[]⟩,.string ⟨#[]⟩],rfl,Nat.le_refl _,?_,Nat.zero_le _,by simp [maxLen],rfl,rfl⟩⟩
 rw [hoth _ (by omega),h2];rw [Below.heap_alloc _ _ _ (by rw [h1];simp),h1];exact heap_alloc_new w _
theorem build_calls (b g cp:Nat) (w:World) (hc:4<=cp) (hb:w.cell? ⟨b,4,none⟩=some (.slice (some ⟨g,0,none⟩) 4 cp)) (ho:OldNew g w) (hg:g<w.heap.size) :
  Calls Tryz.prog 168 #[.pointer (some ⟨b,0,none⟩)] w (BuildPost w):=by
 have ho0:=ho.c0;have ho1:=ho.c1;have ho2:=ho.c2;have ho3:=ho.c3;have z0:sB.size=1:=rfl;have z1:sBB.size=2:=rfl;have z2:sQ.size=1:=rfl;have z3:sBQ.size=2:=rfl;have hnil:∀ wx:World,(Go.binOp .eql 95 (Value.slice none 0 0) (Value.slice none 0 0)).run Tryz.prog wx=.ok (.bool true) wx:=fun _=>by kernel_rfl
 have x0:sQ[0]'(by decide)=34:=rfl;have x1:sB[0]'(by decide)=92:=rfl
 go_enter Tryz.func168,Tryz.ntmps168
 go_wp2
 refine wp_loop_rounds 3 ?_
 rw [rounds_succ]
 go_wp2
 rw [rounds_succ]
 go_wp2
 rw [rounds_succ]
 go_wp2_with (first
  | (refine run_event rfl (.makeSlice 51 _ _) rfl (.slice (some ⟨w.heap.size,0,none⟩) 0 2) (w.alloc (.cells #[.string ⟨#[]⟩,.string ⟨#[]⟩] 9)) (by kernel_rfl) ?_;intro w1 hw1;have F1:=hid hw1;have hsz1:w1.heap.size=w.heap.size + 1:=(by rw [hw1];simp);clear hw1)
  | (refine wpList_buildTo rfl 299 _ rfl (some 95) rfl (bsCells (.slice (some ⟨w.heap.size,0,none⟩) 0 2)) (by kernel_rfl) ?_)
  | (refine run_event rfl (.alloc 299) rfl (.pointer (some ⟨w.heap.size + 1,0,none⟩)) (w1.alloc (.cells (bsCells (.slice none 0 0)) 299)) (by rw [<- hsz1];kernel_rfl) ?_;intro w2 hw2;have F2:=hid hw2;clear hw2)
  | ((with_reducible refine gate_store (t:=299) (p:=11) rfl ?_);go_loud (refine put_event rfl 299 _ _ rfl (w.heap.size + 1) (bsCells (.slice (some ⟨w.heap.size,0,none⟩) 0 2)) (by kernel_rfl) (by kernel_rfl) 299 (bsCells (.slice none 0 0)) (by rw [F2.out,<- hsz1];exact heap_alloc_new _ _) (by kernel_rfl) (by kernel_rfl) (by kernel_rfl) w.heap.size (by omega) ?_;intro w3 hblk3 hB3 hsz3 hoth3;have I3:=hid (BI.first hg ho F1.out F2.out hblk3 hB3 hsz3 hoth3);clear hblk3 hB3 hsz3 hoth3 ho0 ho1 ho2 ho3)))
 refine wp_loop_rounds 3 ?_
 rw [rounds_succ];have ta:=I3.out.bs.t;have ca:w3.cell? ⟨w.heap.size + 1,34,none⟩=some (.slice none 0 0):=I3.out.bs.c 34 (by omega);have pa:=I3.out.new.c2;have qa:=I3.out.new.c3;have hva:=own_slice I3.out.own
 go_wp2_with (first
  | (refine run_event rfl (.buildSlice 95 1 _) rfl (.slice (some ⟨w3.heap.size,0,none⟩) 1 1) (w3.alloc (.cells #[.int .u8 34] 5)) (by kernel_rfl) ?_;(intro w4a hw4a;have I4a:=hid (I3.out.alloc_eq hw4a);have hcva:=one_byte hw4a; clear hw4a))
  | (at_builtin;(refine print_append (w0:=w) w.heap.size rfl (.tmp 119) (.tmp 123) 51 9 (.string ⟨#[]⟩) 16 rfl Tryz.underlying51 (by kernel_rfl) rfl (by decide) (.slice (some ⟨w.heap.size,0,none⟩) 0 2) [] (.string sQ) rfl rfl rfl I4a.out.own I4a.out.bel I4a.out.bel.size (by decide) ?_;intro v1a w5a ho5a hB5a hg5a hat5a;obtain ⟨Aa,cpa,rfl⟩:=own_slice ho5a;have H5a:=hid (And.intro ho5a (And.intro hB5a (And.intro hg5a hat5a)));clear ho5a hB5a hg5a hat5a))
  | ((with_reducible refine gate_store (t:=51) (p:=125) rfl ?_);(refine cell_event rfl 51 _ _ rfl (w.heap.size + 1) 256 (.slice Aa _ cpa) rfl rfl rfl (I4a.out.there5 H5a.out.2.2.1) (by kernel_rfl) w.heap.size (by omega) ?_;intro w6a hw6a hB6a hs6a;have I6a:=hid (BI.app_eq I4a.out H5a.out.1 H5a.out.2.1 H5a.out.2.2.1 H5a.out.2.2.2 hw6a);clear hs6a;have qa:=I6a.out.new.c3;obtain ⟨capa,w7a,hcba,hB7a,hs7a,hr7a,hcapa⟩:=bytes_fact w6a sBQ 2 rfl;have HS7a:=hid hs7a;clear hs7a;have HB7a:=hid hB7a;have I7a:=hid (I6a.out.below hB7a);clear hw6a))
  | ((with_reducible refine gate_store (t:=95) (p:=130) rfl ?_);(refine cell_event rfl 95 _ _ rfl (w.heap.size + 1) 34 (.slice (some ⟨w6a.heap.size,0,none⟩) 2 capa) rfl rfl rfl (I7a.out.bs.there 34 (by omega)) (by kernel_rfl) w.heap.size (by omega) ?_;intro w8a hw8a hB8a hs8a;have I8a:=hid (I7a.out.set34_eq hw8a);have Q8a:=hid ((QB.new I6a.out HB7a.out HS7a.out hr7a).set_eq hw8a);clear hw8a hs8a)))
 rw [rounds_succ];have tb:=I8a.out.bs.t;have cb:w8a.cell? ⟨w.heap.size + 1,92,none⟩=some (.slice none 0 0):=I8a.out.bs.c 92 (by omega);have pb:=I8a.out.new.c0;have qb:=I8a.out.new.c1;have hvb:=own_slice I8a.out.own
 go_wp2_with (first
  | (refine run_event rfl (.buildSlice 95 1 _) rfl (.slice (some ⟨w8a.heap.size,0,none⟩) 1 1) (w8a.alloc (.cells #[.int .u8 92] 5)) (by kernel_rfl) ?_;(intro w4b hw4b;have I4b:=hid (I8a.out.alloc_eq hw4b);have hcvb:=one_byte hw4b;have Q4b:=hid (Q8a.out.alloc_eq hw4b);clear hw4b))
  | (at_builtin;(refine print_append (w0:=w) w.heap.size rfl (.tmp 119) (.tmp 123) 51 9 (.string ⟨#[]⟩) 16 rfl Tryz.underlying51 (by kernel_rfl) rfl (by decide) (.slice Aa _ cpa) [.string sQ] (.string sB) rfl rfl rfl I4b.out.own I4b.out.bel I4b.out.bel.size (by decide) ?_;intro v1b w5b ho5b hB5b hg5b hat5b;obtain ⟨Ab,cpb,rfl⟩:=own_slice ho5b;have H5b:=hid (And.intro ho5b (And.intro hB5b (And.intro hg5b hat5b)));clear ho5b hB5b hg5b hat5b))
  | ((with_reducible refine gate_store (t:=51) (p:=125) rfl ?_);(refine cell_event rfl 51 _ _ rfl (w.heap.size + 1) 256 (.slice Ab _ cpb) rfl rfl rfl (I4b.out.there5 H5b.out.2.2.1) (by kernel_rfl) w.heap.size (by omega) ?_;intro w6b hw6b hB6b hs6b;have I6b:=hid (BI.app_eq I4b.out H5b.out.1 H5b.out.2.1 H5b.out.2.2.1 H5b.out.2.2.2 hw6b);have Q6b:=hid (QB.app_eq Q4b.out H5b.out.2.2.1 H5b.out.2.2.2 hw6b);clear hs6b;have qb:=I6b.out.new.c1;obtain ⟨capb,w7b,hcbb,hB7b,hs7b,hr7b,hcapb⟩:=bytes_fact w6b sBB 2 rfl;have HS7b:=hid hs7b;clear hs7b;have HB7b:=hid hB7b;have I7b:=hid (I6b.out.below hB7b);clear hw6b))
  | ((with_reducible refine gate_store (t:=95) (p:=130) rfl ?_);(refine cell_event rfl 95 _ _ rfl (w.heap.size + 1) 92 (.slice (some ⟨w6b.heap.size,0,none⟩) 2 capb) rfl rfl rfl (I7b.out.bs.there 92 (by omega)) (by kernel_rfl) w.heap.size (by omega) ?_;intro w8b hw8b hB8b hs8b;have I8b:=hid (I7b.out.set92_eq hw8b);have Q8b:=hid ((Q6b.out.below hB7b).set_eq hw8b);have P8b:=hid ((QB.new I6b.out HB7b.out HS7b.out hr7b).set_eq hw8b);clear hw8b hs8b)))
 rw [rounds_succ]
 go_wp2
 go_ret
 exact built I8b.out Q8b.out P8b.out
theorem setCell_row {w:World} {b k:Nat} {cs:Array Value} {t:TypeId} (h:w.heap[b]?=some (.cells cs t (0,0))) (v:Value):(w.setCell ⟨b,k,none⟩ v).heap[b]?=some (.cells (cs.setIfInBounds k v) t (0,0)):=by
 simp only [World.setCell,Array.getElem?_modify,h];simp
theorem setCell_grown (w:World) (b k:Nat) (v:Value):w.grownBy (w.setCell ⟨b,k,none⟩ v) (some b) :=
 ⟨rfl,rfl,rfl,by simp [World.setCell],fun j hj hne=>Below.heap_setCell w ⟨b,k,none⟩ v j (fun e=>hne (by rw [e]))⟩
theorem cell_row {w:World} {b:Nat} {cs:Array Value} {t:TypeId} (h:w.heap[b]?=some (.cells cs t (0,0))) (k:Nat):w.cell? ⟨b,k,none⟩=cs[k]?:=by
 simp [World.cell?,h]
theorem frozen_row {w:World} {b:Nat} {cs:Array Value} {t:TypeId} (h:w.heap[b]?=some (.cells cs t (0,0))) (k:Nat):w.frozen? ⟨b,k,none⟩=false:=by
 simp [World.frozen?,h]
theorem below_grown {w w':World} {r:Option Nat} (h:Below w.heap.size w w'):w.grownBy w' r:=⟨h.os,h.tape,h.output,h.size,fun k hk _=>h.block k hk⟩
def repT:TypeId:=262
def repV (R:Nat):Value:=.iface 300 (.pointer (some ⟨R,0,none⟩))
structure Once1 (b:Nat) (w w':World) (d l s:Value):Prop where
 grown:w.grownBy w' (some b)
 out:∃ R q p t cq cp ct,w'.heap[b]?=some (.cells #[d,l,s,repV R,.slice none 0 0] repT (0,0))/\Repl w.heap.size R w' q p t cq cp ct
theorem buildOnce_calls (b g cp:Nat) (d l s:Value) (w:World) (hc:4<=cp) (hb:w.heap[b]?=some (.cells #[d,l,s,.nilIface,.slice (some ⟨g,0,none⟩) 4 cp] repT (0,0))) (ho:OldNew g w) (hg:g<w.heap.size) :
  Calls Tryz.prog 154 #[.pointer (some ⟨b,0,none⟩)] w fun e w'=>e=.returned (.tuple #[])/\Once1 b w w' d l s:=by
 have hbl:b<w.heap.size:=(Array.getElem?_eq_some_iff.1 hb).1;have hbc:=build_calls b g cp w hc ((cell_row hb 4).trans rfl) ho hg;have HB:=hid hb;clear hb
 go_enter Tryz.func154,Tryz.ntmps154
 go_wp2_with (first
  | (go_at_call 168;refine hbc.mono ?_;rintro e w' ⟨R,q,p,t,cq,cp2,ct,rfl,hR,hB,hRep⟩;have H1:=hid (And.intro hR (And.intro hB hRep));have hb1:Hid (w'.heap[b]?=_):=hid ((hB.block b hbl).trans HB.out);clear hR hB hRep;have hx:w'.cell? ⟨b,3,none⟩=some .nilIface:=(cell_row hb1.out 3).trans rfl;have hy:w'.cell? ⟨b,4,none⟩=some (.slice (some ⟨g,0,none⟩) 4 cp):=(cell_row hb1.out 4).trans rfl;have fx:w'.frozen? ⟨b,3,none⟩=false:=frozen_row hb1.out 3;have fy:w'.frozen? ⟨b,4,none⟩=false:=frozen_row hb1.out 4))
 go_end0
 obtain ⟨hR,hB,hRep⟩:=H1.out;have hb2:=setCell_row (k:=4) (setCell_row (k:=3) hb1.out (repV R)) (.slice none 0 0);have hg2:=((below_grown (r:=some b) hB).trans (setCell_grown w' b 3 (repV R))).trans (setCell_grown (w'.setCell ⟨b,3,none⟩ (repV R)) b 4 (.slice none 0 0));exact ⟨rfl,hg2,R,q,p,t,cq,cp2,ct,hb2,(hRep.but hbl (setCell_grown _ _ _ _)).but hbl (setCell_grown _ _ _ _)⟩
theorem slow_calls (b g cp:Nat) (s:Value) (w:World) (hc:4<=cp) (hb:w.heap[b]?=some (.cells #[.int .u32 0,.int .i32 0,s,.nilIface,.slice (some ⟨g,0,none⟩) 4 cp] repT (0,0))) (ho:OldNew g w) (hg:g<w.heap.size) (hgb:g≠b) :
  Calls Tryz.prog 167 #[.pointer (some ⟨b,0,none⟩),.func (.func 154) #[.pointer (some ⟨b,0,none⟩)] #[]] w fun e w'=>e=.returned (.tuple #[])/\Once1 b w w' (.int .u32 1) (.int .i32 0) s:=by
 have hbl:b<w.heap.size:=(Array.getElem?_eq_some_iff.1 hb).1;have hb1:=setCell_row (k:=1) hb (.int .i32 1);have hg1:=setCell_grown w b 1 (.int .i32 1);have hl:=run_call_load (P:=Tryz.prog) Tryz.func177 (by kernel_rfl) (by kernel_rfl) (by kernel_rfl) .u32 (by kernel_rfl) (w:=w.setCell ⟨b,1,none⟩ (.int .i32 1)) (a:=⟨b,0,none⟩) (x:=0) ((cell_row hb1 0).trans rfl);have hnot:∀ (x:Bool) (w:World),(Op.unary .not (.bool x)).run Tryz.prog w=.ok (.bool (!x)) w:=fun _ _=>rfl;have hlk:=o_lock ⟨b,1,none⟩ w ((cell_row hb 1).trans rfl) (frozen_row hb 1);have hbo:=buildOnce_calls b g cp (.int .u32 0) (.int .i32 1) s (w.setCell ⟨b,1,none⟩ (.int .i32 1)) hc hb1 (ho.of_block (hg1.block g hg (fun e=>hgb (by injection e)))) (by simpa [World.setCell] using hg);have HB:=hid hb;clear hb hb1
 go_enter_defers Tryz.func167,Tryz.ntmps167
 go_wp2_with (first
  | (go_at_call 178;refine hlk.mono ?_;rintro e w' ⟨rfl,rfl⟩)
  | (go_at_call 166;go_in)
  | (go_at_call 154;refine hbo.mono ?_;rintro e w' ⟨rfl,H⟩;have HO:=hid H;clear H))
 obtain ⟨hgr,R,q,p,t,cq,cp2,ct,hbw,hRep⟩:=HO.out;have hb2:=setCell_row (k:=0) (w:=w'.drew) hbw (.int .u32 1);have hb3:=setCell_row (k:=1) hb2 (.int .i32 0)
 refine leaves_cons (f:=180) (args:=#[.pointer (some ⟨b,0,none⟩),.bool true]) (by simp) (by simp [go_sem]) ?_
 refine (o_store ⟨b,0,none⟩ (.int .u32 0) .returning _ ((cell_row hbw 0).trans rfl) (frozen_row hbw 0)).mono ?_
 rintro e u' w'' ⟨rfl,rfl,rfl⟩
 refine leaves_cons (f:=179) (args:=#[.pointer (some ⟨b,1,none⟩)]) (by simp [settle]) (by simp [go_sem]) ?_
 refine (o_unlock ⟨b,1,none⟩ _ _ ((cell_row hb2 1).trans rfl) (frozen_row hb2 1)).mono ?_
 rintro e u' w'' ⟨rfl,rfl,rfl⟩;have hgd:w'.grownBy w'.drew (some b):=below_grown ((Below.refl _ _).drew);have hgf:=(((hg1.trans hgr).trans hgd).trans (setCell_grown w'.drew b 0 (.int .u32 1))).trans (setCell_grown (w'.drew.setCell ⟨b,0,none⟩ (.int .u32 1)) b 1 (.int .i32 0));have hsz:(w.setCell ⟨b,1,none⟩ (.int .i32 1)).heap.size=w.heap.size:=by simp [World.setCell]
 rw [hsz] at hRep
 have hfin:Once1 b w ((w'.drew.setCell ⟨b,0,none⟩ (.int .u32 1)).setCell ⟨b,1,none⟩ (.int .i32 0)) (.int .u32 1) (.int .i32 0) s :=
  ⟨hgf,R,q,p,t,cq,cp2,ct,hb3,((hRep.but hbl hgd).but hbl (setCell_grown _ _ _ _)).but hbl (setCell_grown _ _ _ _)⟩
 simp [Leaves,settle,results,Tryz.results167];exact hfin
theorem do_calls (b g cp:Nat) (s:Value) (w:World) (hc:4<=cp) (hb:w.heap[b]?=some (.cells #[.int .u32 0,.int .i32 0,s,.nilIface,.slice (some ⟨g,0,none⟩) 4 cp] repT (0,0))) (ho:OldNew g w) (hg:g<w.heap.size) (hgb:g≠b) :
  Calls Tryz.prog 153 #[.pointer (some ⟨b,0,none⟩),.func (.func 154) #[.pointer (some ⟨b,0,none⟩)] #[]] w fun e w'=>e=.returned (.tuple #[])/\Once1 b w w' (.int .u32 1) (.int .i32 0) s:=by
 have hl:=run_call_load (P:=Tryz.prog) Tryz.func177 (by kernel_rfl) (by kernel_rfl) (by kernel_rfl) .u32 (by kernel_rfl) (w:=w) (a:=⟨b,0,none⟩) (x:=0) ((cell_row hb 0).trans rfl);have hnot:∀ (x:Bool) (w:World),(Op.unary .not (.bool x)).run Tryz.prog w=.ok (.bool (!x)) w:=fun _ _=>rfl;have hs:=slow_calls b g cp s w hc hb ho hg hgb;clear hb
 go_enter Tryz.func153,Tryz.ntmps153
 go_wp2_with (first
  | (go_at_call 166;go_in)
  | (go_at_call 167;refine hs.mono ?_;rintro e w' ⟨rfl,H⟩;have HO:=hid H;clear H))
 go_end0
 exact ⟨rfl,HO.out⟩
theorem old_reads {a:Nat} {w:World} (ho:OldNew a w):ReadsOf Value.string ⟨#[]⟩ w (some ⟨a,0,none⟩) 4 [sB,sBB,sQ,sBQ]:=by
 refine ⟨rfl,by omega,fun _=>⟨_,rfl,fun j hj=>?_⟩⟩
 rw [Addr.add_mid,Nat.zero_add]
 match j,hj with
 | 0,_=>exact ho.c0
 | 1,_=>exact ho.c1
 | 2,_=>exact ho.c2
 | 3,_=>exact ho.c3
theorem new_old {w:World} {B:Nat} {v:Value} (h:w.ownsRow B 9 1 v ([]++[sB,sBB,sQ,sBQ]).length (encs Value.string ([]++[sB,sBB,sQ,sBQ]))) :
  ∃ g cp,v=.slice (some ⟨g,0,none⟩) 4 cp/\B<=g/\g<w.heap.size/\4<=cp/\OldNew g w:=by
 rcases h.2 with ⟨_,e⟩ | ⟨t,ct,cur,rfl,hb,hh,hn,hm,hs,htk⟩
 ·cases e
 ·have hc:∀ j,j<4->w.cell? ⟨t,j,none⟩=(encs Value.string ([]++[sB,sBB,sQ,sBQ]))[j]?:=fun j hj=>by
   rw [cell_row hh,<- htk];simp [List.getElem?_take,hj]
  exact ⟨t,ct,rfl,hb,(Array.getElem?_eq_some_iff.1 hh).1,hn,hc 0 (by omega),hc 1 (by omega),hc 2 (by omega),hc 3 (by omega)⟩
theorem newrep_calls (a c:Nat) (w:World) (ho:OldNew a w) (ha:a<w.heap.size) :
  Calls Tryz.prog 130 #[.slice (some ⟨a,0,none⟩) 4 c] w fun e w'=>∃ b g cp,e=.returned (.pointer (some ⟨b,0,none⟩))/\Below w.heap.size w w'/\w.heap.size<=b/\w.heap.size<=g/\g≠b/\g<w'.heap.size/\4<=cp/\OldNew g w' /\
   w'.heap[b]?=some (.cells #[.int .u32 0,.int .i32 0,.int .u32 0,.nilIface,.slice (some ⟨g,0,none⟩) 4 cp] repT (0,0)):=by
 go_enter Tryz.func130,Tryz.ntmps130
 go_wp2_with (first
  | (at_builtin;refine print_append_row_of (w0:=w) Value.string ⟨#[]⟩ w.heap.size rfl (.const (.slice none 0 0)) (.tmp 8) 51 9 (.string ⟨#[]⟩) 16 rfl Tryz.underlying51 (by kernel_rfl) rfl (by decide) (fun _=>rfl) (.slice none 0 0) [] [sB,sBB,sQ,sBQ] (some ⟨a,0,none⟩) 4 c rfl rfl (own_nil _ _ _ _) (old_reads ho) (Below.refl _ _) (Nat.le_refl _) (by decide) ?_;intro v1 w1 ho1 hB1 hg1 hat1;obtain ⟨g,cp,rfl,hgw,hgl,hcp,hON⟩:=new_old ho1;have HB:=hid hB1;have HN:=hid hON;clear ho1 hB1 hg1 hat1 hON))
 go_ret
 have hB2:=(Below.refl w1.heap.size w1).alloc (Nat.le_refl _) (.cells #[.int .u32 0,.int .i32 0,.int .u32 0,.nilIface,.slice (some ⟨g,0,none⟩) 4 cp] repT);exact ⟨w1.heap.size,g,cp,rfl,HB.out.trans (hB2.mono HB.out.size),HB.out.size,hgw,by omega,Nat.lt_of_lt_of_le hgl hB2.size,hcp,HN.out.of_block (hB2.block g hgl),heap_alloc_new _ _⟩
def cnt (l:Bs):Nat:=l.count 34 + l.count 92
theorem cnt_cons (c:UInt8) (l:Bs):cnt (c :: l)=(if c=34∨c=92 then 1 else 0) + cnt l:=by
 unfold cnt;rw [List.count_cons,List.count_cons]
 by_cases h1:c=34
 ·subst h1;simp;omega
 ·by_cases h2:c=92
  ·subst h2;simp;omega
  ·simp [h1,h2]
theorem cnt_append (a b:Bs):cnt (a++b)=cnt a + cnt b:=by
 unfold cnt;rw [List.count_append,List.count_append];omega
theorem escT_append (a b:Bs):escT (a++b)=escT a++escT b:=by
 induction a with
 | nil=>rfl
 | cons c r ih =>
  show (if c=34∨c=92 then _ else _)=(if c=34∨c=92 then _ else _)++_
  split <;> simp [ih]
theorem escT_len (l:Bs):(escT l).length=l.length + cnt l:=by
 induction l with
 | nil=>rfl
 | cons c r ih =>
  rw [cnt_cons];show (if c=34∨c=92 then 92 :: c :: escT r else c :: escT r).length=_
  split <;> simp [ih] <;> omega
theorem escT_none (l:Bs) (h:cnt l=0):escT l=l:=by
 induction l with
 | nil=>rfl
 | cons c r ih =>
  rw [cnt_cons] at h;show (if c=34∨c=92 then _ else c :: escT r)=_
  split at h
  ·omega
  ·rename_i h1
   rw [if_neg h1,ih (by omega)]
theorem cnt_take (s:ByteArray) (n:Nat) (h:n<s.size):cnt (s.data.toList.take (n + 1))=cnt (s.data.toList.take n) + (if s[n]=34∨s[n]=92 then 1 else 0):=by
 have hl:n<s.data.toList.length:=by rw [Array.length_toList];exact h
 rw [List.take_succ_eq_append_getElem hl,cnt_append]
 congr 1
 rw [cnt_cons]
 rfl
theorem cnt_le (l:Bs):cnt l<=l.length*2:=by
 have h1:l.count 34<=l.length:=List.count_le_length;have h2:l.count 92<=l.length:=List.count_le_length;unfold cnt;omega
theorem Repl.special {B R q p t cq cp ct:Nat} {w:World} (h:Repl B R w q p t cq cp ct) (c:UInt8) (hc:c=34∨c=92):∃ ad cc,w.cell? ⟨R,c.toNat,none⟩=some (.slice (some ad) 2 cc):=by
 rcases hc with rfl | rfl
 ·exact ⟨_,_,h.bs.c 34 (by omega)⟩
 ·exact ⟨_,_,h.bs.c 92 (by omega)⟩
theorem Repl.normal {B R q p t cq cp ct:Nat} {w:World} (h:Repl B R w q p t cq cp ct) (c:UInt8) (hc:¬ (c=34∨c=92)):w.cell? ⟨R,c.toNat,none⟩=some (.slice none 0 0):=by
 have:=h.bs.c c.toNat c.toNat_lt;have h1:¬ c.toNat=34:=fun e=>hc (.inl (UInt8.toNat_inj.1 (by simpa using e)));have h2:¬ c.toNat=92:=fun e=>hc (.inr (UInt8.toNat_inj.1 (by simpa using e)));rw [if_neg h1,if_neg h2] at this;exact this
theorem nil_ne (wx:World):(Go.binOp .neq 95 (Value.slice none 0 0) (Value.slice none 0 0)).run Tryz.prog wx=.ok (.bool false) wx:=by kernel_rfl
theorem some_ne (a:Addr) (l c:Nat) (wx:World):(Go.binOp .neq 95 (Value.slice (some a) l c) (Value.slice none 0 0)).run Tryz.prog wx=.ok (.bool true) wx:=by kernel_rfl
theorem Repl.both {B R q p t cq cp ct:Nat} {w:World} (h:Repl B R w q p t cq cp ct) (c:UInt8) (hc:c=34∨c=92):∃ g' cc,w.cell? ⟨R,c.toNat,none⟩=some (.slice (some ⟨g',0,none⟩) 2 cc)/\w.rangeAt g' 0 (cellsU8 [92,c])/\g'<w.heap.size:=by
 rcases hc with rfl | rfl
 ·exact ⟨_,_,h.bs.c 34 (by omega),h.rq,h.lq⟩
 ·exact ⟨_,_,h.bs.c 92 (by omega),h.rp,h.lp⟩
structure RInv (s:ByteArray) (wc:World) (N n:Nat) (wr:World):Prop where
 hn:n<=s.size
 row:wr.heap[wc.heap.size]?=some (.cells (cellsU8 (escT (s.data.toList.take n))++List.replicate (N - (escT (s.data.toList.take n)).length) (Value.int .u8 0)).toArray 5 (0,0))
 bel:Below wc.heap.size wc wr
theorem made_zeros (N:Nat):madeCells #[Value.int .u8 0] N=(List.replicate N (Value.int .u8 0)).toArray:=by
 apply Array.ext
 ·simp [size_madeCells]
 ·intro i h1 h2
  have:i % 1=0:=Nat.mod_one i;simp [madeCells,this]
theorem RInv.start (s:ByteArray) (wc:World) (N:Nat):RInv s wc N 0 (wc.alloc (.cells (madeCells #[Value.int .u8 0] N) 5)) :=
 ⟨Nat.zero_le _,by rw [made_zeros];exact heap_alloc_new wc _,(Below.refl _ _).alloc (Nat.le_refl _) _⟩
theorem esc_take (s:ByteArray) (n:Nat) (h:n<s.size):escT (s.data.toList.take (n + 1))=escT (s.data.toList.take n)++(if s[n]=34∨s[n]=92 then [92,s[n]] else [s[n]]):=by
 have hl:n<s.data.toList.length:=by rw [Array.length_toList];exact h
 rw [List.take_succ_eq_append_getElem hl,escT_append]
 congr 1
theorem esc_take_le (s:ByteArray) (n:Nat):(escT (s.data.toList.take n)).length<=(escT s.data.toList).length:=by
 have:escT s.data.toList=escT (s.data.toList.take n)++escT (s.data.toList.drop n):=by rw [<- escT_append,List.take_append_drop]
 rw [this,List.length_append];omega
theorem zeros_splice (l x:Bs) (N:Nat) (h:l.length + x.length<=N):splice (cellsU8 l++List.replicate (N - l.length) (Value.int .u8 0)) l.length (cellsU8 x)=cellsU8 (l++x)++List.replicate (N - (l++x).length) (Value.int .u8 0):=by
 have e1:(cellsU8 l).length=l.length:=by simp [cellsU8]
 have e2:(cellsU8 x).length=x.length:=by simp [cellsU8]
 unfold splice;have e3:(cellsU8 l++List.replicate (N - l.length) (Value.int .u8 0)).take l.length=cellsU8 l:=by rw [<- e1];simp
 rw [e3,e2,List.drop_append,e1];have e4:(cellsU8 l).drop (l.length + x.length)=[]:=List.drop_eq_nil_of_le (by omega);rw [e4];simp only [cellsU8,List.map_append,List.nil_append,List.append_assoc,List.drop_replicate,List.length_append]
 congr 3
 omega
theorem splice_one (L:List Value) (j:Nat) (v:Value) (h:j<L.length):(L.toArray.setIfInBounds j v)=(splice L j [v]).toArray:=by
 unfold splice;rw [List.setIfInBounds_toArray,List.set_eq_take_append_cons_drop,if_pos h]
 rfl
theorem bsrep_calls (B R q p t cq cp ct:Nat) (s:ByteArray) (w:World) (hR:Repl B R w q p t cq cp ct) (hs:s.size<=65536) :
  Calls Tryz.prog 256 #[.pointer (some ⟨R,0,none⟩),.string s] w fun e w'=>e=.returned (.string ⟨(escT s.data.toList).toArray⟩)/\Below w.heap.size w w':=by
 have hct:=hR.bs.t;have HR:=hid hR;clear hR;have n0:=nil_ne;have n1:=some_ne
 go_enter Tryz.func256,Tryz.ntmps256
 go_upto_if 26 with fail
 go_cut [5,6] from 16 (fun n ch wx=>n=.int .i64 ((s.size + cnt s.data.toList:Nat):Int)/\ch=.bool (decide (cnt s.data.toList≠0))/\Below w.heap.size w wx)
 case first =>
  by_cases hlong:16<=s.size
  ·have d1:decide ((16:Int)<=(s.size:Int))=true:=decide_eq_true (by omega)
   have x0:sQ[0]'(by decide)=34:=rfl;have x1:sB[0]'(by decide)=92:=rfl;have k0:sQ.size=1:=rfl;have k1:sB.size=1:=rfl;have ht0:=HR.out.t0;have ht1:=HR.out.t1;have hc34:w.cell? ⟨R,34,none⟩=some (.slice (some ⟨q,0,none⟩) 2 cq):=HR.out.bs.c 34 (by omega);have hc92:w.cell? ⟨R,92,none⟩=some (.slice (some ⟨p,0,none⟩) 2 cp):=HR.out.bs.c 92 (by omega);have hcn:cnt s.data.toList=Lib.countByte s.data.toList 34 + Lib.countByte s.data.toList 92:=rfl;have q34:=fun wx=>Tryz.strings_Count_one s 34 wx;have q92:=fun wx=>Tryz.strings_Count_one s 92 wx;have hs34:Lib.countByte s.data.toList 34<=s.size:=Nat.le_trans List.count_le_length (by rw [Array.length_toList];exact Nat.le_refl _);have hs92:Lib.countByte s.data.toList 92<=s.size:=Nat.le_trans List.count_le_length (by rw [Array.length_toList];exact Nat.le_refl _);generalize Lib.countByte s.data.toList 34=n34 at hcn q34 hs34;generalize Lib.countByte s.data.toList 92=n92 at hcn q92 hs92;have HC:=hid hcn;clear hcn
   by_cases hn34:n34=0
   ·by_cases hn92:n92=0
    ·have HN:=hid (And.intro hn34 hn92)
     have z34:(((n34:Nat):Int) != 0)=false:=by simp [hn34]
     have z92:(((n92:Nat):Int) != 0)=false:=by simp [hn92]
     clear hn34 hn92
     go_wp2_with fail
     refine wp_loop_rounds 3 ?_
     rw [rounds_succ]
     go_wp2_with (first | (go_at_call 258;refine (q34 _).mono ?_;rintro e w' ⟨rfl,hw⟩;obtain rfl:=hw.symm))
     rw [rounds_succ]
     go_wp2_with (first | (go_at_call 258;refine (q92 _).mono ?_;rintro e w' ⟨rfl,hw⟩;obtain rfl:=hw.symm))
     rw [rounds_succ]
     go_wp2_with fail
     go_meet
     case rel =>
      have hC:=HC.out;have hN:=HN.out
      refine ⟨by rw [Value.int.injEq];exact ⟨rfl,by omega⟩,?_,⟨rfl,rfl,rfl,Nat.le_refl _,fun _ _=>rfl⟩⟩
      rw [Value.bool.injEq,eq_comm]
      first | exact decide_eq_true (by omega) | exact decide_eq_false (by omega)
    ·have HN:=hid (And.intro hn34 hn92)
     have z34:(((n34:Nat):Int) != 0)=false:=by simp [hn34]
     have z92:(((n92:Nat):Int) != 0)=true:=by simp;omega
     clear hn34 hn92
     go_wp2_with fail
     refine wp_loop_rounds 3 ?_
     rw [rounds_succ]
     go_wp2_with (first | (go_at_call 258;refine (q34 _).mono ?_;rintro e w' ⟨rfl,hw⟩;obtain rfl:=hw.symm))
     rw [rounds_succ]
     go_wp2_with (first | (go_at_call 258;refine (q92 _).mono ?_;rintro e w' ⟨rfl,hw⟩;obtain rfl:=hw.symm))
     go_quiet (fail)
     go_wp2_with fail
     rw [rounds_succ]
     go_wp2_with fail
     go_meet
     case rel =>
      have hC:=HC.out;have hN:=HN.out
      refine ⟨by rw [Value.int.injEq];exact ⟨rfl,by omega⟩,?_,⟨rfl,rfl,rfl,Nat.le_refl _,fun _ _=>rfl⟩⟩
      rw [Value.bool.injEq,eq_comm]
      first | exact decide_eq_true (by omega) | exact decide_eq_false (by omega)
   ·by_cases hn92:n92=0
    ·have HN:=hid (And.intro hn34 hn92)
     have z34:(((n34:Nat):Int) != 0)=true:=by simp;omega
     have z92:(((n92:Nat):Int) != 0)=false:=by simp [hn92]
     clear hn34 hn92
     go_wp2_with fail
     refine wp_loop_rounds 3 ?_
     rw [rounds_succ]
     go_wp2_with (first | (go_at_call 258;refine (q34 _).mono ?_;rintro e w' ⟨rfl,hw⟩;obtain rfl:=hw.symm))
     go_quiet (fail)
     go_wp2_with fail
     rw [rounds_succ]
     go_wp2_with (first | (go_at_call 258;refine (q92 _).mono ?_;rintro e w' ⟨rfl,hw⟩;obtain rfl:=hw.symm))
     rw [rounds_succ]
     go_wp2_with fail
     go_meet
     case rel =>
      have hC:=HC.out;have hN:=HN.out
      refine ⟨by rw [Value.int.injEq];exact ⟨rfl,by omega⟩,?_,⟨rfl,rfl,rfl,Nat.le_refl _,fun _ _=>rfl⟩⟩
      rw [Value.bool.injEq,eq_comm]
      first | exact decide_eq_true (by omega) | exact decide_eq_false (by omega)
    ·have HN:=hid (And.intro hn34 hn92)
     have z34:(((n34:Nat):Int) != 0)=true:=by simp;omega
     have z92:(((n92:Nat):Int) != 0)=true:=by simp;omega
     clear hn34 hn92
     go_wp2_with fail
     refine wp_loop_rounds 3 ?_
     rw [rounds_succ]
     go_wp2_with (first | (go_at_call 258;refine (q34 _).mono ?_;rintro e w' ⟨rfl,hw⟩;obtain rfl:=hw.symm))
     go_quiet (fail)
     go_wp2_with fail
     rw [rounds_succ]
     go_wp2_with (first | (go_at_call 258;refine (q92 _).mono ?_;rintro e w' ⟨rfl,hw⟩;obtain rfl:=hw.symm))
     go_quiet (fail)
     go_wp2_with fail
     rw [rounds_succ]
     go_wp2_with fail
     go_meet
     case rel =>
      have hC:=HC.out;have hN:=HN.out
      refine ⟨by rw [Value.int.injEq];exact ⟨rfl,by omega⟩,?_,⟨rfl,rfl,rfl,Nat.le_refl _,fun _ _=>rfl⟩⟩
      rw [Value.bool.injEq,eq_comm]
      first | exact decide_eq_true (by omega) | exact decide_eq_false (by omega)
  ·have d1:decide ((16:Int)<=(s.size:Int))=false:=decide_eq_false (by omega)
   go_wp2_with fail
   go_loopw [5,6,10] (fun a b c wx=>∃ n:Nat,n<=s.size/\a=.int .i64 ((s.size + cnt (s.data.toList.take n):Nat):Int)/\b=.bool (decide (cnt (s.data.toList.take n)≠0))/\c=.int .i64 (n:Nat)/\wx=w) (fun _ _ c _=>s.size - (intOf c).toNat)
   case atStart=>exact ⟨0,Nat.zero_le _,rfl,rfl,rfl,rfl⟩
   case round =>
    obtain ⟨n,hn,rfl,rfl,rfl,rfl⟩:=hrel
    by_cases hlt:n<s.size
    ·have hct2:=hid (cnt_take s n hlt)
     have d2:decide ((n:Int)<(s.size:Int))=true:=decide_eq_true (by omega);have hle:cnt (s.data.toList.take n)<=65536*2:=Nat.le_trans (cnt_le _) (by simp;omega);generalize hcn:cnt (s.data.toList.take n)=cn at hct2 hle;have hb8:(0:Int)<=(s[n].toNat:Int)/\(s[n].toNat:Int)<256:=⟨by omega,by have:=s[n].toNat_lt;omega⟩;have hb9:¬ (256:Int)<=(s[n].toNat:Int):=by omega
     by_cases hsp:s[n]=34∨s[n]=92
     ·obtain ⟨ad,cc,hcell⟩:=HR.out.special s[n] hsp
      have HS:=hid hsp;have HCN:=hid hcn;clear hsp hcn
      go_wp2_with fail
      go_roundw
      case rel =>
       refine ⟨n + 1,by omega,?_,?_,by first | exact ⟨by go_num,rfl⟩ | exact ⟨by go_num,trivial⟩⟩
       ·have:=hct2.out
        rw [if_pos HS.out] at this;rw [this,Value.int.injEq];exact ⟨rfl,by omega⟩
       ·have:=hct2.out
        rw [if_pos HS.out] at this;rw [this];simp
      case measure=>simp only [intOf];omega
     ·have hcell:=HR.out.normal s[n] hsp
      have HS:=hid hsp;have HCN:=hid hcn;clear hsp hcn
      go_wp2_with fail
      go_roundw
      case rel =>
       refine ⟨n + 1,by omega,?_,?_,by first | exact ⟨by go_num,rfl⟩ | exact ⟨by go_num,trivial⟩⟩
       ·have:=hct2.out
        rw [if_neg HS.out] at this;rw [this,Value.int.injEq];exact ⟨rfl,by omega⟩
       ·have:=hct2.out
        rw [if_neg HS.out] at this;rw [this];simp
      case measure=>simp only [intOf];omega
    ·have d2:decide ((n:Int)<(s.size:Int))=false:=decide_eq_false (by omega)
     obtain rfl:n=s.size:=by omega
     have e:s.data.toList.take s.size=s.data.toList:=List.take_of_length_le (by rw [Array.length_toList];exact Nat.le_refl _);rw [e];have hle:=cnt_le s.data.toList;generalize hcn:cnt s.data.toList=cn at hle;have HCN:=hid hcn;clear hcn e
     go_wp2_with fail
     go_meet
     case rel =>
      rw [HCN.out];exact ⟨rfl,rfl,Below.refl _ _⟩
 case rest =>
  obtain ⟨rfl,rfl,hB⟩:=hcut;have HB:=hid hB;have HR2:=hid (HR.out.below hB);have hel:=escT_len s.data.toList;have hsl:s.data.toList.length=s.size:=by rw [Array.length_toList];rfl
  rw [hsl] at hel
  by_cases hz:cnt s.data.toList=0
  ·have hq:(decide (cnt s.data.toList≠0))=false:=by simp [hz]
   have he:=escT_none _ hz;have HE:=hid he;rw [hq];clear he hel hz hB;generalize cnt s.data.toList=cn
   go_wp2_with fail
   go_ret
   rw [HE.out];exact ⟨rfl,HB.out⟩
  ·have hq:(decide (cnt s.data.toList≠0))=true:=by simp [hz]
   rw [hq,<- hel];have hle:=cnt_le s.data.toList;rw [hsl] at hle;have hN:(escT s.data.toList).length<=65536*3:=by omega
   have HEL:=hid hel;clear hel hz hB hq hle;generalize hN2:(escT s.data.toList).length=N at hN;have HN:=hid hN2;clear hN2;have hmk:=print_make (P:=Tryz.prog) 95 5 .u8 1 Tryz.underlying95 (by kernel_rfl) (by decide) N (by omega)
   go_wp2_with fail
   go_loopw [13,14] (fun a b wr=>∃ n:Nat,a=.int .i64 ((escT (s.data.toList.take n)).length:Nat)/\b=.int .i64 (n:Nat)/\RInv s wc N n wr) (fun _ b _=>s.size - (intOf b).toNat)
   case atStart=>exact ⟨0,rfl,rfl,RInv.start s wc N⟩
   case round =>
    obtain ⟨n,rfl,rfl,I⟩:=hrel;have hn:=I.hn;have hjN:(escT (s.data.toList.take n)).length<=N:=by have:=esc_take_le s n;have:=HN.out;omega
    by_cases hlt:n<s.size
    ·have HT:=hid (esc_take s n hlt)
     have HTL:=hid (show (escT (s.data.toList.take (n + 1))).length<=N by have:=esc_take_le s (n + 1);have:=HN.out;omega);have d2:decide ((n:Int)<(s.size:Int))=true:=decide_eq_true (by omega);have hb8:(0:Int)<=(s[n].toNat:Int)/\(s[n].toNat:Int)<256:=⟨by omega,by have:=s[n].toNat_lt;omega⟩;have hb9:¬ (256:Int)<=(s[n].toNat:Int):=by omega
     generalize hj:(escT (s.data.toList.take n)).length=j at hjN;have HJ:=hid hj;have HI:=hid I;clear hj I
     by_cases hsp:s[n]=34∨s[n]=92
     ·have hj2:j + 2<=N:=by have h1:=HT.out;rw [if_pos hsp] at h1;have h2:=HTL.out;rw [h1,List.length_append,HJ.out] at h2;simpa using h2
      obtain ⟨g',cc,hcell,hrg,hgl⟩:=(HR2.out.below HI.out.bel).both s[n] hsp;have HG:=hid hrg;have HS:=hid hsp
      have hslc:∀ wx,(Instr.slice 95 (.slice (some ⟨wc.heap.size,0,none⟩) N N) (some (.int .i64 (j:Int))) none none).run Tryz.prog wx=.ok (.slice (some ⟨wc.heap.size,j,none⟩) (N - j) (N - j)) wx:=fun wx=>by
       have hse:(sizeOf (Tryz.prog.elem 95)).run Tryz.prog wx=.ok 1 wx:=by kernel_rfl
       rw [run_slice_l (w:=wx) 95 (some ⟨wc.heap.size,0,none⟩) N N (by kernel_rfl) .i64 _ (by omega) (by omega),hse];simp only [Result.andThen,sliced,Int.toNat_natCast];rw [if_neg (by omega)];simp [Addr.add_mid]
      have hcl:(cellsU8 [92,s[n]]).length=2:=rfl;clear hsp hrg
      go_wp2_with fail
      go_region_law (refine step_copy_splice rfl (.tmp 105) (.tmp 111) 95 95 rfl 5 Tryz.underlying95 (by kernel_rfl) (some ⟨wc.heap.size,j,none⟩) (some ⟨g',0,none⟩) (N - j) (N - j) 2 cc rfl rfl wc.heap.size j _ 5 HI.out.row (cellsU8 [92,s[n]]) (by rw [show Nat.min 2 (N - j)=2 from Nat.min_eq_left (by omega)];rfl) (fun _=>⟨rfl,_,rfl,fun k v hk=>by rw [Addr.add_mid];exact HG.out k v hk⟩) (by simp [cellsU8,HJ.out];omega) (by simp [cellsU8,Value.oneCell']) wc.heap.size wc HI.out.bel.drew (Nat.le_refl _) ?_;intro w4 hg4 hb4)
      have HF:Hid (RInv s wc N (n + 1) w4):=hid ⟨by omega,by
       have h1:=HT.out;rw [if_pos HS.out] at h1;have h2:=zeros_splice (escT (s.data.toList.take n)) [92,s[n]] N (by rw [HJ.out];simpa using hj2);rw [h1,<- h2];have h3:=hg4.out;rw [<- HJ.out] at h3
       exact h3,hb4⟩
      have HL:Hid ((escT (s.data.toList.take (n + 1))).length=j + 2):=hid (by
       rw [HT.out,if_pos HS.out,List.length_append,HJ.out];rfl)
      clear hg4 hb4
      go_wp2_with fail
      go_roundw
      case rel=>exact ⟨n + 1,by rw [HL.out,Value.int.injEq];exact ⟨rfl,by omega⟩,by go_num,HF.out⟩
      case measure=>simp only [intOf];omega
     ·have hj2:j + 1<=N:=by have h1:=HT.out;rw [if_neg hsp] at h1;have h2:=HTL.out;rw [h1,List.length_append,HJ.out] at h2;simpa using h2
      have hcell:=(HR2.out.below HI.out.bel).normal s[n] hsp;have HS:=hid hsp
      have hth:wr.there wc.heap.size j 1:=fun k hk=>by
       obtain rfl:k=0:=by omega
       rw [Nat.add_zero,cell_row HI.out.row j,frozen_row HI.out.row j]
       refine ⟨?_,rfl⟩
       have:j<(cellsU8 (escT (s.data.toList.take n))++List.replicate (N - (escT (s.data.toList.take n)).length) (Value.int .u8 0)).toArray.size:=by simp [cellsU8,HJ.out];omega
       rw [Array.getElem?_eq_getElem this];rfl
      have HTH:=hid hth;have hjb:(0:Int)<=(j:Int)/\(j:Int)<(N:Int):=⟨by omega,by omega⟩;clear hsp hth
      go_wp2_with (first
       | ((with_reducible refine gate_store (t:=5) (p:=117) rfl ?_);refine cell_event rfl 5 _ _ rfl wc.heap.size j (.int .u8 (s[n].toNat:Int)) rfl rfl rfl HTH.out (by kernel_rfl) wc.heap.size (Nat.le_refl _) ?_;intro w4 hw4 hb4 hs4;have HW:=hid hw4;have HB4:=hid hb4;clear hw4 hb4 hs4))
      have HF:Hid (RInv s wc N (n + 1) w4):=hid ⟨by omega,by
       have h1:=HT.out;rw [if_neg HS.out] at h1;have h2:=zeros_splice (escT (s.data.toList.take n)) [s[n]] N (by rw [HJ.out];simpa using hj2);have h3:=setCell_row (k:=j) HI.out.row (.int .u8 (s[n].toNat:Int));rw [h1,<- h2,HW.out]
       refine Eq.trans h3 ?_
       rw [splice_one _ _ _ (by simp [cellsU8,HJ.out];omega),HJ.out]
       rfl,HI.out.bel.trans HB4.out⟩
      have HL:Hid ((escT (s.data.toList.take (n + 1))).length=j + 1):=hid (by
       rw [HT.out,if_neg HS.out,List.length_append,HJ.out];rfl)
      go_roundw
      case rel=>exact ⟨n + 1,by rw [HL.out,Value.int.injEq];exact ⟨rfl,by omega⟩,by go_num,HF.out⟩
      case measure=>simp only [intOf];omega
    ·have d2:decide ((n:Int)<(s.size:Int))=false:=decide_eq_false (by omega)
     obtain rfl:n=s.size:=by omega
     have e:s.data.toList.take s.size=s.data.toList:=List.take_of_length_le (by rw [Array.length_toList];exact Nat.le_refl _);have hrow:=I.row;rw [e,HN.out,Nat.sub_self] at hrow
     have hcv:=run_convert_bytes_arg (P:=Tryz.prog) (w:=wr) 95 5 Tryz.underlying95 Tryz.underlying5 wc.heap.size 0 N N (ints (escT s.data.toList)) (by rw [ints_len,HN.out]) (fun i hi=>by
      rw [cell_row hrow];have hi':i<(escT s.data.toList).length:=by rw [HN.out];exact hi
      simp [cellsU8,ints,List.getD,hi']) 9 Tryz.underlying9
     rw [str_ints] at hcv;have HI:=hid I;clear I e hrow;generalize (escT (s.data.toList.take s.size)).length=j
     go_wp2_with fail
     go_ret
     exact ⟨rfl,HB.out.trans (HI.out.bel.mono HB.out.size)⟩
theorem rep_calls (b g cp B:Nat) (s:ByteArray) (w:World) (hB:B<=b) (hBs:B<=w.heap.size) (hs:s.size<=65536) (hc:4<=cp) (hb:w.heap[b]?=some (.cells #[.int .u32 0,.int .i32 0,.int .u32 0,.nilIface,.slice (some ⟨g,0,none⟩) 4 cp] repT (0,0))) (ho:OldNew g w) (hg:g<w.heap.size) (hgb:g≠b) :
  Calls Tryz.prog 131 #[.pointer (some ⟨b,0,none⟩),.string s] w fun e w'=>e=.returned (.string ⟨(escT s.data.toList).toArray⟩)/\Below B w w':=by
 have hdo:=do_calls b g cp (.int .u32 0) w hc hb ho hg hgb;clear hb;have hm : ∀ (h : Value) (wx : World), (Go.method 488 300 h "Replace").run Tryz.prog wx = .ok (256, h) wx := fun _ _ => by kernel_rfl
 go_enter Tryz.func131,Tryz.ntmps131
 go_wp2_with (first
  | (go_at_call 153;refine hdo.mono ?_;rintro e w' ⟨rfl,H⟩;obtain ⟨hgr,R,q,p,t,cq,cp2,ct,hrow,hRep⟩:=H;have HR:=hid hRep;have HG:=hid hgr;have hcell:w'.cell? ⟨b,3,none⟩=some (.iface 300 (.pointer (some ⟨R,0,none⟩))):=(cell_row hrow 3).trans rfl;clear hrow hRep hgr)
  | (go_at_call 256;refine (bsrep_calls _ R q p t cq cp2 ct s _ HR.out hs).mono ?_;rintro e w2 ⟨rfl,hB2⟩;have HB2:=hid hB2;clear hB2))
 go_ret
 have h1:Below B w w':=⟨HG.out.os,HG.out.tape,HG.out.output,HG.out.size,fun k hk=>HG.out.block k (by omega) (fun e=>by injection e with e;omega)⟩;exact ⟨rfl,h1.trans (HB2.out.mono (by have:=HG.out.size;omega))⟩
end Go.Proofs.YtmfejjlmflgnbaaGreatDoor.Tok

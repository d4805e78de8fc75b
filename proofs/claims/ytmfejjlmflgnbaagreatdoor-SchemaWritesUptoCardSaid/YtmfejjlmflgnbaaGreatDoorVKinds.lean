/- KINDS of layer 5: the cells of a row of the table, of an entry (nested in itself), of an item. -/
import Derived.Test.YtmfejjlmflgnbaaGreatDoorVBase
import Derived.Lib.Strings
import Derived.Deep.RegionLaw
import Derived.Deep.RegionHeld3
import Derived.Deep.Cut
import Derived.Laws.CopyOwn
import Derived.Laws.IdiomStrings
import Derived.Laws.NewBlocks
import Derived.Laws.LoneSync
import Derived.RegionCalls
import Derived.Defers
import Derived.Great.Walk
import Derived.Great.BuildSlice
import Derived.Great.Ranges
import Derived.Laws.StructEq
import Derived.ChangeKeysEq
set_option linter.unusedVariables false
set_option linter.unusedSimpArgs false
set_option maxRecDepth 100000
namespace Go.Proofs.YtmfejjlmflgnbaaGreatDoor.Sc
open RowKit PA YtmfejjlmflgnbaaGreatDoorW.PrintWords YtmfejjlmflgnbaaGreatDoorW.PrintLast YtmfejjlmflgnbaaGreatDoorW.PrintMore Tr
theorem gS {α:Type} {i:Nat} {b:α} {xs:Array α}:xs[i]?=some b↔∃ h:i<xs.size,xs[i]=b:=Array.getElem?_eq_some_iff
theorem lC (w:World) (a:Addr) {u:Value}:w.cell? a=some u->a.block<w.heap.size:=World.block_lt_of_cell? w a
structure SR where
 obj:ByteArray
 un:ByteArray
 uw:ByteArray
 name:ByteArray
 want:Int
 words:List ByteArray
 lo:Int
 hi:Int
 auto:Bool
 times:Int
 dflt:ByteArray
def zRow:SR:=⟨(⟨#[]⟩:ByteArray),(⟨#[]⟩:ByteArray),(⟨#[]⟩:ByteArray),(⟨#[]⟩:ByteArray),(0:Int),([]:List ByteArray),(0:Int),(0:Int),false,(0:Int),(⟨#[]⟩:ByteArray)⟩
def kRow:Kd SR:=Kd.iso (Kd.pair Kd.string (Kd.pair Kd.string (Kd.pair Kd.string (Kd.pair Kd.string (Kd.pair (Kd.int .i64) (Kd.pair (Kd.slice 9 Kd.string) (Kd.pair (Kd.int .u32) (Kd.pair (Kd.int .u32) (Kd.pair Kd.bool (Kd.pair (Kd.int .i64) Kd.string)))))))))) (fun x:SR=>(x.obj,x.un,x.uw,x.name,x.want,x.words,x.lo,x.hi,x.auto,x.times,x.dflt))
theorem kRow_open {w:World} {x:SR} {cs:List Value} (h:kRow.K w x cs):∃ A5 c5,cs=[.string x.obj,.string x.un,.string x.uw,.string x.name,.int .i64 x.want,.slice A5 x.words.length c5,.int .u32 x.lo,.int .u32 x.hi,.bool x.auto,.int .i64 x.times,.string x.dflt]/\x.words.length<=c5/\Kd.C Kd.string w A5 x.words.length x.words:=by
 obtain ⟨_,_,rfl,rfl,⟨_,_,rfl,rfl,⟨_,_,rfl,rfl,⟨_,_,rfl,rfl,⟨_,_,rfl,rfl,⟨_,_,rfl,⟨A5,c5,rfl,l5,g5⟩,⟨_,_,rfl,rfl,⟨_,_,rfl,rfl,⟨_,_,rfl,rfl,⟨_,_,rfl,rfl,rfl⟩⟩⟩⟩⟩⟩⟩⟩⟩⟩:=h;exact ⟨A5,c5,rfl,l5,g5⟩
theorem kRow_openM {w:World} {base:Nat} {ok:Nat->Prop} {x:SR} {cs:List Value} (h:kRow.M w base ok x cs):∃ v5,cs=[.string x.obj,.string x.un,.string x.uw,.string x.name,.int .i64 x.want,v5,.int .u32 x.lo,.int .u32 x.hi,.bool x.auto,.int .i64 x.times,.string x.dflt]/\Kd.R Kd.string 9 w base ok v5 x.words:=by
 obtain ⟨_,_,rfl,rfl,⟨_,_,rfl,rfl,⟨_,_,rfl,rfl,⟨_,_,rfl,rfl,⟨_,_,rfl,rfl,⟨_,_,rfl,⟨v5,rfl,g5⟩,⟨_,_,rfl,rfl,⟨_,_,rfl,rfl,⟨_,_,rfl,rfl,⟨_,_,rfl,rfl,rfl⟩⟩⟩⟩⟩⟩⟩⟩⟩⟩:=h;exact ⟨v5,rfl,g5⟩
theorem kRow_mk (w:World) (x:SR) {A5:Option Addr} {c5:Nat} (l5:x.words.length<=c5) (g5:Kd.C Kd.string w A5 x.words.length x.words):kRow.K w x [.string x.obj,.string x.un,.string x.uw,.string x.name,.int .i64 x.want,.slice A5 x.words.length c5,.int .u32 x.lo,.int .u32 x.hi,.bool x.auto,.int .i64 x.times,.string x.dflt]:=⟨[.string x.obj],[.string x.un,.string x.uw,.string x.name,.int .i64 x.want,.slice A5 x.words.length c5,.int .u32 x.lo,.int .u32 x.hi,.bool x.auto,.int .i64 x.times,.string x.dflt],rfl,rfl,⟨[.string x.un],[.string x.uw,.string x.name,.int .i64 x.want,.slice A5 x.words.length c5,.int .u32 x.lo,.int .u32 x.hi,.bool x.auto,.int .i64 x.times,.string x.dflt],rfl,rfl,⟨[.string x.uw],[.string x.name,.int .i64 x.want,.slice A5 x.words.length c5,.int .u32 x.lo,.int .u32 x.hi,.bool x.auto,.int .i64 x.times,.string x.dflt],rfl,rfl,⟨[.string x.name],[.int .i64 x.want,.slice A5 x.words.length c5,.int .u32 x.lo,.int .u32 x.hi,.bool x.auto,.int .i64 x.times,.string x.dflt],rfl,rfl,⟨[.int .i64 x.want],[.slice A5 x.words.length c5,.int .u32 x.lo,.int .u32 x.hi,.bool x.auto,.int .i64 x.times,.string x.dflt],rfl,rfl,⟨[.slice A5 x.words.length c5],[.int .u32 x.lo,.int .u32 x.hi,.bool x.auto,.int .i64 x.times,.string x.dflt],rfl,⟨A5,c5,rfl,l5,g5⟩,⟨[.int .u32 x.lo],[.int .u32 x.hi,.bool x.auto,.int .i64 x.times,.string x.dflt],rfl,rfl,⟨[.int .u32 x.hi],[.bool x.auto,.int .i64 x.times,.string x.dflt],rfl,rfl,⟨[.bool x.auto],[.int .i64 x.times,.string x.dflt],rfl,rfl,⟨[.int .i64 x.times],[.string x.dflt],rfl,rfl,rfl⟩⟩⟩⟩⟩⟩⟩⟩⟩⟩
theorem kRow_mkM (w:World) (base:Nat) (ok:Nat->Prop) (x:SR) {v5:Value} (g5:Kd.R Kd.string 9 w base ok v5 x.words):kRow.M w base ok x [.string x.obj,.string x.un,.string x.uw,.string x.name,.int .i64 x.want,v5,.int .u32 x.lo,.int .u32 x.hi,.bool x.auto,.int .i64 x.times,.string x.dflt]:=⟨[.string x.obj],[.string x.un,.string x.uw,.string x.name,.int .i64 x.want,v5,.int .u32 x.lo,.int .u32 x.hi,.bool x.auto,.int .i64 x.times,.string x.dflt],rfl,rfl,⟨[.string x.un],[.string x.uw,.string x.name,.int .i64 x.want,v5,.int .u32 x.lo,.int .u32 x.hi,.bool x.auto,.int .i64 x.times,.string x.dflt],rfl,rfl,⟨[.string x.uw],[.string x.name,.int .i64 x.want,v5,.int .u32 x.lo,.int .u32 x.hi,.bool x.auto,.int .i64 x.times,.string x.dflt],rfl,rfl,⟨[.string x.name],[.int .i64 x.want,v5,.int .u32 x.lo,.int .u32 x.hi,.bool x.auto,.int .i64 x.times,.string x.dflt],rfl,rfl,⟨[.int .i64 x.want],[v5,.int .u32 x.lo,.int .u32 x.hi,.bool x.auto,.int .i64 x.times,.string x.dflt],rfl,rfl,⟨[v5],[.int .u32 x.lo,.int .u32 x.hi,.bool x.auto,.int .i64 x.times,.string x.dflt],rfl,⟨v5,rfl,g5⟩,⟨[.int .u32 x.lo],[.int .u32 x.hi,.bool x.auto,.int .i64 x.times,.string x.dflt],rfl,rfl,⟨[.int .u32 x.hi],[.bool x.auto,.int .i64 x.times,.string x.dflt],rfl,rfl,⟨[.bool x.auto],[.int .i64 x.times,.string x.dflt],rfl,rfl,⟨[.int .i64 x.times],[.string x.dflt],rfl,rfl,rfl⟩⟩⟩⟩⟩⟩⟩⟩⟩⟩
def rd_Row (xs:List SR) (i:Int):SR:=xs.getD i.toNat zRow
theorem at_Row {w:World} {A:Option Addr} {n:Nat} {xs:List SR} (h:Kd.C kRow w A n xs) (i:Int) (h0:0<=i) (h1:i<n):∃ ad A5 c5,A=some ad/\w.cell? (ad.add (i.toNat*11))=some (.string (rd_Row xs i).obj)/\w.cell? ⟨(ad.add (i.toNat*11)).block,(ad.add (i.toNat*11)).off + 1,none⟩=some (.string (rd_Row xs i).un)/\w.cell? ⟨(ad.add (i.toNat*11)).block,(ad.add (i.toNat*11)).off + 2,none⟩=some (.string (rd_Row xs i).uw)/\w.cell? ⟨(ad.add (i.toNat*11)).block,(ad.add (i.toNat*11)).off + 3,none⟩=some (.string (rd_Row xs i).name)/\w.cell? ⟨(ad.add (i.toNat*11)).block,(ad.add (i.toNat*11)).off + 4,none⟩=some (.int .i64 (rd_Row xs i).want)/\w.cell? ⟨(ad.add (i.toNat*11)).block,(ad.add (i.toNat*11)).off + 5,none⟩=some (.slice A5 (rd_Row xs i).words.length c5)/\w.cell? ⟨(ad.add (i.toNat*11)).block,(ad.add (i.toNat*11)).off + 6,none⟩=some (.int .u32 (rd_Row xs i).lo)/\w.cell? ⟨(ad.add (i.toNat*11)).block,(ad.add (i.toNat*11)).off + 7,none⟩=some (.int .u32 (rd_Row xs i).hi)/\w.cell? ⟨(ad.add (i.toNat*11)).block,(ad.add (i.toNat*11)).off + 8,none⟩=some (.bool (rd_Row xs i).auto)/\w.cell? ⟨(ad.add (i.toNat*11)).block,(ad.add (i.toNat*11)).off + 9,none⟩=some (.int .i64 (rd_Row xs i).times)/\w.cell? ⟨(ad.add (i.toNat*11)).block,(ad.add (i.toNat*11)).off + 10,none⟩=some (.string (rd_Row xs i).dflt)/\(rd_Row xs i).words.length<=c5/\Kd.C Kd.string w A5 (rd_Row xs i).words.length (rd_Row xs i).words:=by
 obtain ⟨ad,c,e,_,hK,hc0⟩:=Kd.C_get h zRow i h0 h1;have hc:∀ j u,c[j]?=some u->w.cell? (ad.add (i.toNat*11 + j))=some u:=hc0;obtain ⟨A5,c5,rfl,l5,g5⟩:=kRow_open hK;exact ⟨ad,A5,c5,e,hc 0 _ rfl,by rw [<- add_field _ _ 1 (by omega)];exact hc 1 _ rfl,by rw [<- add_field _ _ 2 (by omega)];exact hc 2 _ rfl,by rw [<- add_field _ _ 3 (by omega)];exact hc 3 _ rfl,by rw [<- add_field _ _ 4 (by omega)];exact hc 4 _ rfl,by rw [<- add_field _ _ 5 (by omega)];exact hc 5 _ rfl,by rw [<- add_field _ _ 6 (by omega)];exact hc 6 _ rfl,by rw [<- add_field _ _ 7 (by omega)];exact hc 7 _ rfl,by rw [<- add_field _ _ 8 (by omega)];exact hc 8 _ rfl,by rw [<- add_field _ _ 9 (by omega)];exact hc 9 _ rfl,by rw [<- add_field _ _ 10 (by omega)];exact hc 10 _ rfl,l5,g5⟩
structure SE where
 name:ByteArray
 spot:SP
 num:Int
 auto:Bool
 word:ByteArray
 params:List SE
def zEnt:SE:=⟨(⟨#[]⟩:ByteArray),z41,(0:Int),false,(⟨#[]⟩:ByteArray),([]:List SE)⟩
def FEnt (d:Kd SE):Kd SE:=Kd.iso (Kd.pair Kd.string (Kd.pair k41 (Kd.pair (Kd.int .u32) (Kd.pair Kd.bool (Kd.pair Kd.string (Kd.slice 80 d)))))) (fun x:SE=>(x.name,x.spot,x.num,x.auto,x.word,x.params))
theorem monoEnt:Kd.Mono FEnt:=Kd.mono_iso _ (Kd.mono_pair (Kd.mono_const _) (Kd.mono_pair (Kd.mono_const _) (Kd.mono_pair (Kd.mono_const _) (Kd.mono_pair (Kd.mono_const _) (Kd.mono_pair (Kd.mono_const _) (Kd.mono_slice 80 Kd.mono_id))))))
theorem subEnt:Kd.Sub FEnt [80]:=Kd.sub_iso _ (Kd.sub_pair (Kd.sub_const _ (by decide)) (Kd.sub_pair (Kd.sub_const _ (by decide)) (Kd.sub_pair (Kd.sub_const _ (by decide)) (Kd.sub_pair (Kd.sub_const _ (by decide)) (Kd.sub_pair (Kd.sub_const _ (by decide)) (Kd.sub_slice 80 (by decide) Kd.sub_id))))))
theorem szEnt:∀ n,(Kd.upto FEnt 8 [80] n).sz=8:=Kd.upto_sz (fun _=>rfl)
def kEnt:Kd SE:=Kd.fix FEnt 8 [80] szEnt (Kd.upto_E subEnt)
theorem kEnt_open {w:World} {x:SE} {cs:List Value} (h:kEnt.K w x cs):∃ A7 c7,cs=[.string x.name,.int .i64 x.spot.f0,.int .i64 x.spot.f1,.int .i64 x.spot.f2,.int .u32 x.num,.bool x.auto,.string x.word,.slice A7 x.params.length c7]/\x.params.length<=c7/\Kd.C kEnt w A7 x.params.length x.params:=by
 obtain ⟨n,h⟩:=h;cases n with
 | zero=>exact h.elim
 | succ n =>
  obtain ⟨_,_,rfl,rfl,⟨_,_,rfl,s1,⟨_,_,rfl,rfl,⟨_,_,rfl,rfl,⟨_,_,rfl,rfl,⟨A7,c7,rfl,l7,g7⟩⟩⟩⟩⟩⟩:=h;obtain rfl:=k41_open s1;exact ⟨A7,c7,rfl,l7,Kd.fix_C g7⟩
theorem kEnt_openM {w:World} {base:Nat} {ok:Nat->Prop} {x:SE} {cs:List Value} (h:kEnt.M w base ok x cs):∃ v7,cs=[.string x.name,.int .i64 x.spot.f0,.int .i64 x.spot.f1,.int .i64 x.spot.f2,.int .u32 x.num,.bool x.auto,.string x.word,v7]/\Kd.R kEnt 80 w base ok v7 x.params:=by
 obtain ⟨n,h⟩:=h;cases n with
 | zero=>exact h.elim
 | succ n =>
  obtain ⟨_,_,rfl,rfl,⟨_,_,rfl,s1,⟨_,_,rfl,rfl,⟨_,_,rfl,rfl,⟨_,_,rfl,rfl,⟨v7,rfl,g7⟩⟩⟩⟩⟩⟩:=h;obtain rfl:=k41_openM s1;exact ⟨v7,rfl,Kd.fix_R g7⟩
theorem kEnt_mk (w:World) (x:SE) {A7:Option Addr} {c7:Nat} (l7:x.params.length<=c7) (g7:Kd.C kEnt w A7 x.params.length x.params):kEnt.K w x [.string x.name,.int .i64 x.spot.f0,.int .i64 x.spot.f1,.int .i64 x.spot.f2,.int .u32 x.num,.bool x.auto,.string x.word,.slice A7 x.params.length c7]:=by
 obtain ⟨n9,q9⟩:=Kd.fix_C_back monoEnt g7;have r7:=Kd.upto_C_le monoEnt szEnt (show n9<=n9 by omega) q9;exact ⟨n9 + 1,⟨[.string x.name],[.int .i64 x.spot.f0,.int .i64 x.spot.f1,.int .i64 x.spot.f2,.int .u32 x.num,.bool x.auto,.string x.word,.slice A7 x.params.length c7],rfl,rfl,⟨[.int .i64 x.spot.f0,.int .i64 x.spot.f1,.int .i64 x.spot.f2],[.int .u32 x.num,.bool x.auto,.string x.word,.slice A7 x.params.length c7],rfl,(k41_mk w x.spot),⟨[.int .u32 x.num],[.bool x.auto,.string x.word,.slice A7 x.params.length c7],rfl,rfl,⟨[.bool x.auto],[.string x.word,.slice A7 x.params.length c7],rfl,rfl,⟨[.string x.word],[.slice A7 x.params.length c7],rfl,rfl,⟨A7,c7,rfl,l7,r7⟩⟩⟩⟩⟩⟩⟩
theorem kEnt_mkM (w:World) (base:Nat) (ok:Nat->Prop) (x:SE) {v7:Value} (g7:Kd.R kEnt 80 w base ok v7 x.params):kEnt.M w base ok x [.string x.name,.int .i64 x.spot.f0,.int .i64 x.spot.f1,.int .i64 x.spot.f2,.int .u32 x.num,.bool x.auto,.string x.word,v7]:=by
 obtain ⟨n9,q9⟩:=Kd.fix_R_back monoEnt g7;have r7:=Kd.upto_R_le monoEnt szEnt (show n9<=n9 by omega) q9;exact ⟨n9 + 1,⟨[.string x.name],[.int .i64 x.spot.f0,.int .i64 x.spot.f1,.int .i64 x.spot.f2,.int .u32 x.num,.bool x.auto,.string x.word,v7],rfl,rfl,⟨[.int .i64 x.spot.f0,.int .i64 x.spot.f1,.int .i64 x.spot.f2],[.int .u32 x.num,.bool x.auto,.string x.word,v7],rfl,(k41_mkM w base ok x.spot),⟨[.int .u32 x.num],[.bool x.auto,.string x.word,v7],rfl,rfl,⟨[.bool x.auto],[.string x.word,v7],rfl,rfl,⟨[.string x.word],[v7],rfl,rfl,⟨v7,rfl,r7⟩⟩⟩⟩⟩⟩⟩
def rd_Ent (xs:List SE) (i:Int):SE:=xs.getD i.toNat zEnt
theorem at_Ent {w:World} {A:Option Addr} {n:Nat} {xs:List SE} (h:Kd.C kEnt w A n xs) (i:Int) (h0:0<=i) (h1:i<n):∃ ad A7 c7,A=some ad/\w.cell? (ad.add (i.toNat*8))=some (.string (rd_Ent xs i).name)/\w.cell? ⟨(ad.add (i.toNat*8)).block,(ad.add (i.toNat*8)).off + 1,none⟩=some (.int .i64 (rd_Ent xs i).spot.f0)/\w.cell? ⟨(ad.add (i.toNat*8)).block,(ad.add (i.toNat*8)).off + 2,none⟩=some (.int .i64 (rd_Ent xs i).spot.f1)/\w.cell? ⟨(ad.add (i.toNat*8)).block,(ad.add (i.toNat*8)).off + 3,none⟩=some (.int .i64 (rd_Ent xs i).spot.f2)/\w.cell? ⟨(ad.add (i.toNat*8)).block,(ad.add (i.toNat*8)).off + 4,none⟩=some (.int .u32 (rd_Ent xs i).num)/\w.cell? ⟨(ad.add (i.toNat*8)).block,(ad.add (i.toNat*8)).off + 5,none⟩=some (.bool (rd_Ent xs i).auto)/\w.cell? ⟨(ad.add (i.toNat*8)).block,(ad.add (i.toNat*8)).off + 6,none⟩=some (.string (rd_Ent xs i).word)/\w.cell? ⟨(ad.add (i.toNat*8)).block,(ad.add (i.toNat*8)).off + 7,none⟩=some (.slice A7 (rd_Ent xs i).params.length c7)/\(rd_Ent xs i).params.length<=c7/\Kd.C kEnt w A7 (rd_Ent xs i).params.length (rd_Ent xs i).params:=by
 obtain ⟨ad,c,e,_,hK,hc0⟩:=Kd.C_get h zEnt i h0 h1;have hc:∀ j u,c[j]?=some u->w.cell? (ad.add (i.toNat*8 + j))=some u:=hc0;obtain ⟨A7,c7,rfl,l7,g7⟩:=kEnt_open hK;exact ⟨ad,A7,c7,e,hc 0 _ rfl,by rw [<- add_field _ _ 1 (by omega)];exact hc 1 _ rfl,by rw [<- add_field _ _ 2 (by omega)];exact hc 2 _ rfl,by rw [<- add_field _ _ 3 (by omega)];exact hc 3 _ rfl,by rw [<- add_field _ _ 4 (by omega)];exact hc 4 _ rfl,by rw [<- add_field _ _ 5 (by omega)];exact hc 5 _ rfl,by rw [<- add_field _ _ 6 (by omega)];exact hc 6 _ rfl,by rw [<- add_field _ _ 7 (by omega)];exact hc 7 _ rfl,l7,g7⟩
structure SI where
 kind:ByteArray
 name:ByteArray
 spot:SP
 ents:List SE
def zItem:SI:=⟨(⟨#[]⟩:ByteArray),(⟨#[]⟩:ByteArray),z41,([]:List SE)⟩
def kItem:Kd SI:=Kd.iso (Kd.pair Kd.string (Kd.pair Kd.string (Kd.pair k41 (Kd.slice 80 kEnt)))) (fun x:SI=>(x.kind,x.name,x.spot,x.ents))
theorem kItem_open {w:World} {x:SI} {cs:List Value} (h:kItem.K w x cs):∃ A5 c5,cs=[.string x.kind,.string x.name,.int .i64 x.spot.f0,.int .i64 x.spot.f1,.int .i64 x.spot.f2,.slice A5 x.ents.length c5]/\x.ents.length<=c5/\Kd.C kEnt w A5 x.ents.length x.ents:=by
 obtain ⟨_,_,rfl,rfl,⟨_,_,rfl,rfl,⟨_,_,rfl,s2,⟨A5,c5,rfl,l5,g5⟩⟩⟩⟩:=h;obtain rfl:=k41_open s2;exact ⟨A5,c5,rfl,l5,g5⟩
theorem kItem_openM {w:World} {base:Nat} {ok:Nat->Prop} {x:SI} {cs:List Value} (h:kItem.M w base ok x cs):∃ v5,cs=[.string x.kind,.string x.name,.int .i64 x.spot.f0,.int .i64 x.spot.f1,.int .i64 x.spot.f2,v5]/\Kd.R kEnt 80 w base ok v5 x.ents:=by
 obtain ⟨_,_,rfl,rfl,⟨_,_,rfl,rfl,⟨_,_,rfl,s2,⟨v5,rfl,g5⟩⟩⟩⟩:=h;obtain rfl:=k41_openM s2;exact ⟨v5,rfl,g5⟩
theorem kItem_mk (w:World) (x:SI) {A5:Option Addr} {c5:Nat} (l5:x.ents.length<=c5) (g5:Kd.C kEnt w A5 x.ents.length x.ents):kItem.K w x [.string x.kind,.string x.name,.int .i64 x.spot.f0,.int .i64 x.spot.f1,.int .i64 x.spot.f2,.slice A5 x.ents.length c5]:=⟨[.string x.kind],[.string x.name,.int .i64 x.spot.f0,.int .i64 x.spot.f1,.int .i64 x.spot.f2,.slice A5 x.ents.length c5],rfl,rfl,⟨[.string x.name],[.int .i64 x.spot.f0,.int .i64 x.spot.f1,.int .i64 x.spot.f2,.slice A5 x.ents.length c5],rfl,rfl,⟨[.int .i64 x.spot.f0,.int .i64 x.spot.f1,.int .i64 x.spot.f2],[.slice A5 x.ents.length c5],rfl,(k41_mk w x.spot),⟨A5,c5,rfl,l5,g5⟩⟩⟩⟩
theorem kItem_mkM (w:World) (base:Nat) (ok:Nat->Prop) (x:SI) {v5:Value} (g5:Kd.R kEnt 80 w base ok v5 x.ents):kItem.M w base ok x [.string x.kind,.string x.name,.int .i64 x.spot.f0,.int .i64 x.spot.f1,.int .i64 x.spot.f2,v5]:=⟨[.string x.kind],[.string x.name,.int .i64 x.spot.f0,.int .i64 x.spot.f1,.int .i64 x.spot.f2,v5],rfl,rfl,⟨[.string x.name],[.int .i64 x.spot.f0,.int .i64 x.spot.f1,.int .i64 x.spot.f2,v5],rfl,rfl,⟨[.int .i64 x.spot.f0,.int .i64 x.spot.f1,.int .i64 x.spot.f2],[v5],rfl,(k41_mkM w base ok x.spot),⟨v5,rfl,g5⟩⟩⟩⟩
def rd_Item (xs:List SI) (i:Int):SI:=xs.getD i.toNat zItem
theorem at_Item {w:World} {A:Option Addr} {n:Nat} {xs:List SI} (h:Kd.C kItem w A n xs) (i:Int) (h0:0<=i) (h1:i<n):∃ ad A5 c5,A=some ad/\w.cell? (ad.add (i.toNat*6))=some (.string (rd_Item xs i).kind)/\w.cell? ⟨(ad.add (i.toNat*6)).block,(ad.add (i.toNat*6)).off + 1,none⟩=some (.string (rd_Item xs i).name)/\w.cell? ⟨(ad.add (i.toNat*6)).block,(ad.add (i.toNat*6)).off + 2,none⟩=some (.int .i64 (rd_Item xs i).spot.f0)/\w.cell? ⟨(ad.add (i.toNat*6)).block,(ad.add (i.toNat*6)).off + 3,none⟩=some (.int .i64 (rd_Item xs i).spot.f1)/\w.cell? ⟨(ad.add (i.toNat*6)).block,(ad.add (i.toNat*6)).off + 4,none⟩=some (.int .i64 (rd_Item xs i).spot.f2)/\w.cell? ⟨(ad.add (i.toNat*6)).block,(ad.add (i.toNat*6)).off + 5,none⟩=some (.slice A5 (rd_Item xs i).ents.length c5)/\(rd_Item xs i).ents.length<=c5/\Kd.C kEnt w A5 (rd_Item xs i).ents.length (rd_Item xs i).ents:=by
 obtain ⟨ad,c,e,_,hK,hc0⟩:=Kd.C_get h zItem i h0 h1;have hc:∀ j u,c[j]?=some u->w.cell? (ad.add (i.toNat*6 + j))=some u:=hc0;obtain ⟨A5,c5,rfl,l5,g5⟩:=kItem_open hK;exact ⟨ad,A5,c5,e,hc 0 _ rfl,by rw [<- add_field _ _ 1 (by omega)];exact hc 1 _ rfl,by rw [<- add_field _ _ 2 (by omega)];exact hc 2 _ rfl,by rw [<- add_field _ _ 3 (by omega)];exact hc 3 _ rfl,by rw [<- add_field _ _ 4 (by omega)];exact hc 4 _ rfl,by rw [<- add_field _ _ 5 (by omega)];exact hc 5 _ rfl,l5,g5⟩
end Go.Proofs.YtmfejjlmflgnbaaGreatDoor.Sc
namespace Go.Proofs.YtmfejjlmflgnbaaGreatDoor.Sc
open RowKit PA YtmfejjlmflgnbaaGreatDoorW.PrintWords Sp Tr
def tab:List SR:=[
 ⟨⟨#[79,83]⟩,⟨#[]⟩,⟨#[]⟩,⟨#[83,84,65,84,85,83]⟩,2,[⟨#[83,84,65,78,68,65,82,68]⟩,⟨#[69,88,84,69,78,68,69,68]⟩],0,0,false,2,⟨#[69,88,84,69,78,68,69,68]⟩⟩,
 ⟨⟨#[79,83]⟩,⟨#[]⟩,⟨#[]⟩,⟨#[83,84,65,82,84,85,80,72,79,79,75]⟩,2,[⟨#[84,82,85,69]⟩,⟨#[70,65,76,83,69]⟩],0,0,false,2,⟨#[70,65,76,83,69]⟩⟩,
 ⟨⟨#[79,83]⟩,⟨#[]⟩,⟨#[]⟩,⟨#[69,82,82,79,82,72,79,79,75]⟩,2,[⟨#[84,82,85,69]⟩,⟨#[70,65,76,83,69]⟩],0,0,false,2,⟨#[70,65,76,83,69]⟩⟩,
 ⟨⟨#[79,83]⟩,⟨#[]⟩,⟨#[]⟩,⟨#[83,72,85,84,68,79,87,78,72,79,79,75]⟩,2,[⟨#[84,82,85,69]⟩,⟨#[70,65,76,83,69]⟩],0,0,false,2,⟨#[70,65,76,83,69]⟩⟩,
 ⟨⟨#[79,83]⟩,⟨#[]⟩,⟨#[]⟩,⟨#[80,82,69,84,65,83,75,72,79,79,75]⟩,2,[⟨#[84,82,85,69]⟩,⟨#[70,65,76,83,69]⟩],0,0,false,2,⟨#[70,65,76,83,69]⟩⟩,
 ⟨⟨#[79,83]⟩,⟨#[]⟩,⟨#[]⟩,⟨#[80,79,83,84,84,65,83,75,72,79,79,75]⟩,2,[⟨#[84,82,85,69]⟩,⟨#[70,65,76,83,69]⟩],0,0,false,2,⟨#[70,65,76,83,69]⟩⟩,
 ⟨⟨#[79,83]⟩,⟨#[]⟩,⟨#[]⟩,⟨#[85,83,69,71,69,84,83,69,82,86,73,67,69,73,68]⟩,2,[⟨#[84,82,85,69]⟩,⟨#[70,65,76,83,69]⟩],0,0,false,2,⟨#[70,65,76,83,69]⟩⟩,
 ⟨⟨#[79,83]⟩,⟨#[]⟩,⟨#[]⟩,⟨#[85,83,69,80,65,82,65,77,69,84,69,82,65,67,67,69,83,83]⟩,2,[⟨#[84,82,85,69]⟩,⟨#[70,65,76,83,69]⟩],0,0,false,2,⟨#[70,65,76,83,69]⟩⟩,
 ⟨⟨#[79,83]⟩,⟨#[]⟩,⟨#[]⟩,⟨#[85,83,69,82,69,83,83,67,72,69,68,85,76,69,82]⟩,2,[⟨#[84,82,85,69]⟩,⟨#[70,65,76,83,69]⟩],0,0,false,2,⟨#[84,82,85,69]⟩⟩,
 ⟨⟨#[84,65,83,75]⟩,⟨#[]⟩,⟨#[]⟩,⟨#[80,82,73,79,82,73,84,89]⟩,1,[],0,63,false,1,⟨#[]⟩⟩,
 ⟨⟨#[84,65,83,75]⟩,⟨#[]⟩,⟨#[]⟩,⟨#[83,67,72,69,68,85,76,69]⟩,2,[⟨#[78,79,78]⟩,⟨#[70,85,76,76]⟩],0,0,false,1,⟨#[]⟩⟩,
 ⟨⟨#[84,65,83,75]⟩,⟨#[]⟩,⟨#[]⟩,⟨#[65,67,84,73,86,65,84,73,79,78]⟩,1,[],1,255,false,1,⟨#[]⟩⟩,
 ⟨⟨#[84,65,83,75]⟩,⟨#[]⟩,⟨#[]⟩,⟨#[65,85,84,79,83,84,65,82,84]⟩,2,[⟨#[84,82,85,69]⟩,⟨#[70,65,76,83,69]⟩],0,0,false,1,⟨#[]⟩⟩,
 ⟨⟨#[84,65,83,75]⟩,⟨#[65,85,84,79,83,84,65,82,84]⟩,⟨#[84,82,85,69]⟩,⟨#[65,80,80,77,79,68,69]⟩,3,[],0,0,false,3,⟨#[]⟩⟩,
 ⟨⟨#[84,65,83,75]⟩,⟨#[]⟩,⟨#[]⟩,⟨#[82,69,83,79,85,82,67,69]⟩,3,[],0,0,false,3,⟨#[]⟩⟩,
 ⟨⟨#[84,65,83,75]⟩,⟨#[]⟩,⟨#[]⟩,⟨#[69,86,69,78,84]⟩,3,[],0,0,false,3,⟨#[]⟩⟩,
 ⟨⟨#[84,65,83,75]⟩,⟨#[]⟩,⟨#[]⟩,⟨#[77,69,83,83,65,71,69]⟩,3,[],0,0,false,3,⟨#[]⟩⟩,
 ⟨⟨#[73,83,82]⟩,⟨#[]⟩,⟨#[]⟩,⟨#[67,65,84,69,71,79,82,89]⟩,1,[],1,2,false,1,⟨#[]⟩⟩,
 ⟨⟨#[73,83,82]⟩,⟨#[]⟩,⟨#[]⟩,⟨#[80,82,73,79,82,73,84,89]⟩,1,[],64,127,false,1,⟨#[]⟩⟩,
 ⟨⟨#[73,83,82]⟩,⟨#[]⟩,⟨#[]⟩,⟨#[82,69,83,79,85,82,67,69]⟩,3,[],0,0,false,3,⟨#[]⟩⟩,
 ⟨⟨#[73,83,82]⟩,⟨#[]⟩,⟨#[]⟩,⟨#[77,69,83,83,65,71,69]⟩,3,[],0,0,false,3,⟨#[]⟩⟩,
 ⟨⟨#[82,69,83,79,85,82,67,69]⟩,⟨#[]⟩,⟨#[]⟩,⟨#[82,69,83,79,85,82,67,69,80,82,79,80,69,82,84,89]⟩,2,[⟨#[83,84,65,78,68,65,82,68]⟩,⟨#[76,73,78,75,69,68]⟩,⟨#[73,78,84,69,82,78,65,76]⟩],0,0,false,1,⟨#[]⟩⟩,
 ⟨⟨#[82,69,83,79,85,82,67,69]⟩,⟨#[82,69,83,79,85,82,67,69,80,82,79,80,69,82,84,89]⟩,⟨#[76,73,78,75,69,68]⟩,⟨#[76,73,78,75,69,68,82,69,83,79,85,82,67,69]⟩,3,[],0,0,false,1,⟨#[]⟩⟩,
 ⟨⟨#[69,86,69,78,84]⟩,⟨#[]⟩,⟨#[]⟩,⟨#[77,65,83,75]⟩,1,[],1,4294967295,true,2,⟨#[65,85,84,79]⟩⟩,
 ⟨⟨#[67,79,85,78,84,69,82]⟩,⟨#[]⟩,⟨#[]⟩,⟨#[77,65,88,65,76,76,79,87,69,68,86,65,76,85,69]⟩,1,[],1,2147483647,false,1,⟨#[]⟩⟩,
 ⟨⟨#[67,79,85,78,84,69,82]⟩,⟨#[]⟩,⟨#[]⟩,⟨#[84,73,67,75,83,80,69,82,66,65,83,69]⟩,1,[],1,2147483647,false,1,⟨#[]⟩⟩,
 ⟨⟨#[67,79,85,78,84,69,82]⟩,⟨#[]⟩,⟨#[]⟩,⟨#[77,73,78,67,89,67,76,69]⟩,1,[],1,2147483647,false,1,⟨#[]⟩⟩,
 ⟨⟨#[65,76,65,82,77]⟩,⟨#[]⟩,⟨#[]⟩,⟨#[67,79,85,78,84,69,82]⟩,3,[],0,0,false,1,⟨#[]⟩⟩,
 ⟨⟨#[65,76,65,82,77]⟩,⟨#[]⟩,⟨#[]⟩,⟨#[65,67,84,73,79,78]⟩,2,[⟨#[65,67,84,73,86,65,84,69,84,65,83,75]⟩,⟨#[83,69,84,69,86,69,78,84]⟩,⟨#[65,76,65,82,77,67,65,76,76,66,65,67,75]⟩],0,0,false,1,⟨#[]⟩⟩,
 ⟨⟨#[65,76,65,82,77]⟩,⟨#[65,67,84,73,79,78]⟩,⟨#[65,67,84,73,86,65,84,69,84,65,83,75]⟩,⟨#[84,65,83,75]⟩,3,[],0,0,false,1,⟨#[]⟩⟩,
 ⟨⟨#[65,76,65,82,77]⟩,⟨#[65,67,84,73,79,78]⟩,⟨#[83,69,84,69,86,69,78,84]⟩,⟨#[84,65,83,75]⟩,3,[],0,0,false,1,⟨#[]⟩⟩,
 ⟨⟨#[65,76,65,82,77]⟩,⟨#[65,67,84,73,79,78]⟩,⟨#[83,69,84,69,86,69,78,84]⟩,⟨#[69,86,69,78,84]⟩,3,[],0,0,false,1,⟨#[]⟩⟩,
 ⟨⟨#[65,76,65,82,77]⟩,⟨#[65,67,84,73,79,78]⟩,⟨#[65,76,65,82,77,67,65,76,76,66,65,67,75]⟩,⟨#[65,76,65,82,77,67,65,76,76,66,65,67,75,78,65,77,69]⟩,4,[],0,0,false,1,⟨#[]⟩⟩,
 ⟨⟨#[65,76,65,82,77]⟩,⟨#[]⟩,⟨#[]⟩,⟨#[65,85,84,79,83,84,65,82,84]⟩,2,[⟨#[84,82,85,69]⟩,⟨#[70,65,76,83,69]⟩],0,0,false,1,⟨#[]⟩⟩,
 ⟨⟨#[65,76,65,82,77]⟩,⟨#[65,85,84,79,83,84,65,82,84]⟩,⟨#[84,82,85,69]⟩,⟨#[65,76,65,82,77,84,73,77,69]⟩,1,[],0,2147483647,false,1,⟨#[]⟩⟩,
 ⟨⟨#[65,76,65,82,77]⟩,⟨#[65,85,84,79,83,84,65,82,84]⟩,⟨#[84,82,85,69]⟩,⟨#[67,89,67,76,69,84,73,77,69]⟩,1,[],0,2147483647,false,1,⟨#[]⟩⟩,
 ⟨⟨#[65,76,65,82,77]⟩,⟨#[65,85,84,79,83,84,65,82,84]⟩,⟨#[84,82,85,69]⟩,⟨#[65,80,80,77,79,68,69]⟩,3,[],0,0,false,3,⟨#[]⟩⟩,
 ⟨⟨#[77,69,83,83,65,71,69]⟩,⟨#[]⟩,⟨#[]⟩,⟨#[77,69,83,83,65,71,69,80,82,79,80,69,82,84,89]⟩,2,[⟨#[83,69,78,68,95,83,84,65,84,73,67,95,73,78,84,69,82,78,65,76]⟩,⟨#[82,69,67,69,73,86,69,95,85,78,81,85,69,85,69,68,95,73,78,84,69,82,78,65,76]⟩,⟨#[82,69,67,69,73,86,69,95,81,85,69,85,69,68,95,73,78,84,69,82,78,65,76]⟩],0,0,false,1,⟨#[]⟩⟩,
 ⟨⟨#[77,69,83,83,65,71,69]⟩,⟨#[77,69,83,83,65,71,69,80,82,79,80,69,82,84,89]⟩,⟨#[83,69,78,68,95,83,84,65,84,73,67,95,73,78,84,69,82,78,65,76]⟩,⟨#[67,68,65,84,65,84,89,80,69]⟩,4,[⟨#[117,105,110,116,56]⟩,⟨#[117,105,110,116,49,54]⟩,⟨#[117,105,110,116,51,50]⟩,⟨#[117,105,110,116,54,52]⟩],0,0,false,1,⟨#[]⟩⟩,
 ⟨⟨#[77,69,83,83,65,71,69]⟩,⟨#[77,69,83,83,65,71,69,80,82,79,80,69,82,84,89]⟩,⟨#[82,69,67,69,73,86,69,95,85,78,81,85,69,85,69,68,95,73,78,84,69,82,78,65,76]⟩,⟨#[83,69,78,68,73,78,71,77,69,83,83,65,71,69]⟩,3,[],0,0,false,1,⟨#[]⟩⟩,
 ⟨⟨#[77,69,83,83,65,71,69]⟩,⟨#[77,69,83,83,65,71,69,80,82,79,80,69,82,84,89]⟩,⟨#[82,69,67,69,73,86,69,95,85,78,81,85,69,85,69,68,95,73,78,84,69,82,78,65,76]⟩,⟨#[73,78,73,84,73,65,76,86,65,76,85,69]⟩,1,[],0,4294967295,false,2,⟨#[48]⟩⟩,
 ⟨⟨#[77,69,83,83,65,71,69]⟩,⟨#[77,69,83,83,65,71,69,80,82,79,80,69,82,84,89]⟩,⟨#[82,69,67,69,73,86,69,95,81,85,69,85,69,68,95,73,78,84,69,82,78,65,76]⟩,⟨#[83,69,78,68,73,78,71,77,69,83,83,65,71,69]⟩,3,[],0,0,false,1,⟨#[]⟩⟩,
 ⟨⟨#[77,69,83,83,65,71,69]⟩,⟨#[77,69,83,83,65,71,69,80,82,79,80,69,82,84,89]⟩,⟨#[82,69,67,69,73,86,69,95,81,85,69,85,69,68,95,73,78,84,69,82,78,65,76]⟩,⟨#[81,85,69,85,69,83,73,90,69]⟩,1,[],1,16,false,1,⟨#[]⟩⟩,
 ⟨⟨#[77,69,83,83,65,71,69]⟩,⟨#[]⟩,⟨#[]⟩,⟨#[78,79,84,73,70,73,67,65,84,73,79,78]⟩,2,[⟨#[78,79,78,69]⟩,⟨#[65,67,84,73,86,65,84,69,84,65,83,75]⟩,⟨#[83,69,84,69,86,69,78,84]⟩,⟨#[67,79,77,67,65,76,76,66,65,67,75]⟩,⟨#[70,76,65,71]⟩],0,0,false,2,⟨#[78,79,78,69]⟩⟩,
 ⟨⟨#[77,69,83,83,65,71,69]⟩,⟨#[78,79,84,73,70,73,67,65,84,73,79,78]⟩,⟨#[65,67,84,73,86,65,84,69,84,65,83,75]⟩,⟨#[84,65,83,75]⟩,3,[],0,0,false,1,⟨#[]⟩⟩,
 ⟨⟨#[77,69,83,83,65,71,69]⟩,⟨#[78,79,84,73,70,73,67,65,84,73,79,78]⟩,⟨#[83,69,84,69,86,69,78,84]⟩,⟨#[84,65,83,75]⟩,3,[],0,0,false,1,⟨#[]⟩⟩,
 ⟨⟨#[77,69,83,83,65,71,69]⟩,⟨#[78,79,84,73,70,73,67,65,84,73,79,78]⟩,⟨#[83,69,84,69,86,69,78,84]⟩,⟨#[69,86,69,78,84]⟩,3,[],0,0,false,1,⟨#[]⟩⟩,
 ⟨⟨#[77,69,83,83,65,71,69]⟩,⟨#[78,79,84,73,70,73,67,65,84,73,79,78]⟩,⟨#[67,79,77,67,65,76,76,66,65,67,75]⟩,⟨#[67,79,77,67,65,76,76,66,65,67,75,78,65,77,69]⟩,4,[],0,0,false,1,⟨#[]⟩⟩,
 ⟨⟨#[77,69,83,83,65,71,69]⟩,⟨#[78,79,84,73,70,73,67,65,84,73,79,78]⟩,⟨#[70,76,65,71]⟩,⟨#[70,76,65,71,78,65,77,69]⟩,4,[],0,0,false,1,⟨#[]⟩⟩]
def kindsT:List ByteArray:=[⟨#[79,83]⟩,⟨#[65,80,80,77,79,68,69]⟩,⟨#[84,65,83,75]⟩,⟨#[73,83,82]⟩,⟨#[82,69,83,79,85,82,67,69]⟩,⟨#[69,86,69,78,84]⟩,⟨#[67,79,85,78,84,69,82]⟩,⟨#[65,76,65,82,77]⟩,⟨#[77,69,83,83,65,71,69]⟩]
abbrev sAuto:ByteArray:=⟨#[65,85,84,79]⟩
structure SF where
 code:Int
 spot:SP
 name:ByteArray
def inB (l:List ByteArray) (s:ByteArray):Bool:=l.any (fun x=>decide (x=s))
def underR (rows:List SR) (obj nm wd:ByteArray):List SR:=rows.filter (fun x=>decide (x.obj=obj)&&(decide (x.un=nm)&&decide (x.uw=wd)))
def findR (l:List SR) (n:ByteArray):Option SR:=l.find? (fun x=>decide (x.name=n))
def valR (x:SR) (v:SV) (n:ByteArray) (sp:SP):Except Int SE :=
 if x.want=1 then
  if x.auto&&decide (v.f0=1)&&decide (v.f1=sAuto) then .ok ⟨n,sp,0,true,⟨#[]⟩,[]⟩
  else if v.f0≠2 then .error 52
  else if v.f2<x.lo∨x.hi<v.f2 then .error 53
  else .ok ⟨n,sp,v.f2,false,⟨#[]⟩,[]⟩
 else if x.want=4 then
  if v.f0≠3∨(0<x.words.length/\inB x.words v.f1=false) then .error 52 else .ok ⟨n,sp,0,false,v.f1,[]⟩
 else if v.f0≠1∨(x.want=2/\inB x.words v.f1=false) then .error 52 else .ok ⟨n,sp,0,false,v.f1,[]⟩
def dfltR (x:SR):SE :=
 if x.dflt=sAuto then ⟨x.name,z41,0,true,⟨#[]⟩,[]⟩
 else if x.want=1 then ⟨x.name,z41,0,false,⟨#[]⟩,[]⟩
 else ⟨x.name,z41,0,false,x.dflt,[]⟩
def named (g:List SE) (n:ByteArray):List SE:=g.filter (fun e=>decide (e.name=n))
def outR (g:List SE) (sp:SP):List SR->Except SF (List SE)
 | []=>.ok []
 | x :: r =>
  if (named g x.name).isEmpty&&decide (x.times=1) then .error ⟨54,sp,x.name⟩
  else match outR g sp r with
   | .error f=>.error f
   | .ok o=>.ok ((if (named g x.name).isEmpty&&decide (x.times=2) then [dfltR x] else named g x.name)++o)
def innerR (rows:List SR) (obj:ByteArray) (x:SR) (n wd:ByteArray):List SR:=if x.want=2/\x.un=⟨#[]⟩ then underR rows obj n wd else []
def mustR (l:List SR):Bool:=l.any (fun y=>decide (y.times=1))
def addP (e:SE) (p:List SE):SE:=⟨e.name,e.spot,e.num,e.auto,e.word,p⟩
mutual
def readA (rows:List SR) (obj:ByteArray) (l:List SR) (got:List SE):SA->Except SF SE
 | ⟨n,sp,v,br,ps,noted,note⟩ =>
  match findR l n with
  | none=>.error ⟨51,sp,n⟩
  | some x =>
   if !(named got n).isEmpty&&decide (x.times≠3) then .error ⟨55,sp,n⟩
   else match valR x v n sp with
    | .error c=>.error ⟨c,sp,n⟩
    | .ok e =>
     if (br&&(innerR rows obj x n e.word).isEmpty)||(!br&&mustR (innerR rows obj x n e.word)) then .error ⟨56,sp,n⟩
     else if (innerR rows obj x n e.word).isEmpty then .ok e
     else match (if br then readL rows obj (innerR rows obj x n e.word) [] ps else .ok []) with
      | .error f=>.error f
      | .ok g=>match outR g sp (innerR rows obj x n e.word) with
       | .error f=>.error f
       | .ok p=>.ok (addP e p)
def readL (rows:List SR) (obj:ByteArray) (l:List SR) (got:List SE):List SA->Except SF (List SE)
 | []=>.ok got
 | a :: r=>match readA rows obj l got a with
  | .error f=>.error f
  | .ok e=>readL rows obj l (got++[e]) r
end
def listedR (rows:List SR) (obj:ByteArray) (l:List SR) (ats:List SA) (sp:SP):Except SF (List SE) :=
 match readL rows obj l [] ats with
 | .error f=>.error f
 | .ok g=>outR g sp l
def readO (rows:List SR) (o:SO):Except SF SI :=
 if inB kindsT o.f0=false then .error ⟨50,o.f2,o.f0⟩
 else match listedR rows o.f0 (underR rows o.f0 ⟨#[]⟩ ⟨#[]⟩) o.f3 o.f2 with
  | .error f=>.error f
  | .ok l=>.ok ⟨o.f0,o.f1,o.f2,l⟩
def readOs (rows:List SR) (acc:List SI):List SO->Except SF (List SI)
 | []=>.ok acc
 | o :: r=>match readO rows o with
  | .error f=>.error f
  | .ok i=>readOs rows (acc++[i]) r
structure SS where
 cpu:ByteArray
 items:List SI
def readT (t:ST):Except SF SS:=match readOs tab [] t.f2 with
 | .error f=>.error f
 | .ok l=>.ok ⟨t.f1,l⟩
mutual
def sameE:Bool->SE->SE->Bool
 | s,⟨n,sp,m,au,wd,ps⟩,⟨n',sp',m',au',wd',ps'⟩=>decide (n=n')&&m == m'&&au == au'&&decide (wd=wd')&&(!s||sameP sp sp')&&sameEs s ps ps'
def sameEs:Bool->List SE->List SE->Bool
 | _,[],[]=>true
 | s,a :: r,b :: r'=>sameE s a b&&sameEs s r r'
 | _,_,_=>false
end
def sameI (s:Bool) (a b:SI):Bool:=decide (a.kind=b.kind)&&decide (a.name=b.name)&&(!s||sameP a.spot b.spot)&&sameEs s a.ents b.ents
def sameIs (s:Bool):List SI->List SI->Bool
 | [],[]=>true
 | a :: r,b :: r'=>sameI s a b&&sameIs s r r'
 | _,_=>false
def sameS (s:Bool) (a b:SS):Bool:=decide (a.cpu=b.cpu)&&sameIs s a.items b.items
end Go.Proofs.YtmfejjlmflgnbaaGreatDoor.Sc
namespace Go.Proofs.YtmfejjlmflgnbaaGreatDoor.Sc
open RowKit PA YtmfejjlmflgnbaaGreatDoorW.PrintWords YtmfejjlmflgnbaaGreatDoorW.PrintLast YtmfejjlmflgnbaaGreatDoorW.PrintMore Tr
structure Keeps (w w1:World):Prop where
 cell:∀ a v,w.cell? a=some v->w1.cell? a=some v
 blk:∀ (k:Nat) (c:Array Value) (t:TypeId),w.heap[k]?=some (Obj.cells c t (0,0))->w1.heap[k]?=some (Obj.cells c t (0,0))
instance (w w1:World):CoeFun (Keeps w w1) (fun _=>∀ a v,w.cell? a=some v->w1.cell? a=some v):=⟨fun h=>h.cell⟩
theorem Keeps.refl (w:World):Keeps w w:=⟨fun _ _ h=>h,fun _ _ _ h=>h⟩
theorem Keeps.trans {w w1 w2:World} (h:Keeps w w1) (h1:Keeps w1 w2):Keeps w w2:=⟨fun a v e=>h1.cell a v (h.cell a v e),fun k c t e=>h1.blk k c t (h.blk k c t e)⟩
theorem keeps_below {w w1:World} (h:Below w.heap.size w w1):Keeps w w1:=⟨fun a v e=>pw_cell_below h e,fun k c t e=>(h.block k (gS.1 e).1).trans e⟩
theorem keeps_map {w w1:World} {g:Nat} {es:Array MapEntry} {cl:Nat} (hb:w.heap[g]?=some (.map es cl)) (hg:w.grownBy w1 (some g)):Keeps w w1:=by
 refine ⟨fun a v e=>?_,fun k c t e=>?_⟩
 ·have hlt:=lC w a e
  have hne:a.block≠g:=by
   intro he;subst he;simp [World.cell?,hb] at e
  have hk:=hg.block a.block hlt (fun he=>hne (by injection he));obtain ⟨b,o,f⟩:=a;simp only [World.cell?] at e ⊢;simp only at hk;rw [hk];exact e
 ·refine (hg.block k (gS.1 e).1 (fun he=>?_)).trans e
  injection he with he
  subst he;rw [hb] at e;cases e
structure Cl {α:Type} (d:Kd α):Prop where
 k:∀ {w w1:World} {x:α} {cs:List Value},Keeps w w1->d.K w x cs->d.K w1 x cs
theorem cl_scalar {α:Type} (enc:α->Value) (h1:∀ x,(enc x).oneCell'=true):Cl (Kd.scalar enc h1):=⟨fun _ h=>h⟩
theorem cl_C {α:Type} {d:Kd α} (hd:Cl d) {w w1:World} (hk:Keeps w w1) {A:Option Addr} {n:Nat} {xs:List α} (h:d.C w A n xs):d.C w1 A n xs :=
 ⟨h.1,h.2.1,fun hn=>by
  obtain ⟨ad,e,hc⟩:=h.2.2 hn
  refine ⟨ad,e,fun j p hj=>?_⟩
  obtain ⟨c,hs,hr,hcell⟩:=hc j p hj
  exact ⟨c,hs,hd.k hk hr,fun i u hu=>hk.cell _ _ (hcell i u hu)⟩⟩
theorem cl_slice {α:Type} (e:Nat) {d:Kd α} (hd:Cl d):Cl (Kd.slice e d):=⟨by
 rintro w w1 x cs hk ⟨A,c,rfl,hl,hr⟩
 exact ⟨A,c,rfl,hl,cl_C hd hk hr⟩⟩
theorem cl_pair {α β:Type} {a:Kd α} {b:Kd β} (ha:Cl a) (hb:Cl b):Cl (Kd.pair a b):=⟨by
 rintro w w1 x cs hk ⟨c0,c1,rfl,h0,h1⟩
 exact ⟨c0,c1,rfl,ha.k hk h0,hb.k hk h1⟩⟩
theorem cl_iso {α β:Type} {d:Kd α} (hd:Cl d) (f:β->α):Cl (Kd.iso d f):=⟨fun hk h=>hd.k hk h⟩
theorem cl_upto {α:Type} {F:Kd α->Kd α} {sz:Nat} {E:List Nat} (hF:∀ d,Cl d->Cl (F d)):∀ n,Cl (Kd.upto F sz E n)
 | 0=>⟨fun _ h=>h.elim⟩
 | n + 1=>hF _ (cl_upto hF n)
theorem cl_fix {α:Type} {F:Kd α->Kd α} {sz:Nat} {E:List Nat} {hs:∀ n,(Kd.upto F sz E n).sz=sz} {hE:∀ n q,q ∈ (Kd.upto F sz E n).E->q ∈ E} (hF:∀ d,Cl d->Cl (F d)):Cl (Kd.fix F sz E hs hE):=⟨by
 rintro w w1 x cs hk ⟨n,h⟩
 exact ⟨n,(cl_upto hF n).k hk h⟩⟩
theorem cl_string:Cl Kd.string:=cl_scalar _ _
theorem cl_int (k:IntKind):Cl (Kd.int k):=cl_scalar _ _
theorem cl_bool:Cl Kd.bool:=cl_scalar _ _
theorem clSpot:Cl k41:=cl_iso (cl_pair (cl_int _) (cl_pair (cl_int _) (cl_int _))) _
theorem clValue:Cl k48:=cl_iso (cl_pair (cl_int _) (cl_pair cl_string (cl_pair (cl_int _) cl_bool))) _
theorem clAttr:Cl k50:=cl_fix (fun d hd=>cl_iso (cl_pair cl_string (cl_pair clSpot (cl_pair clValue (cl_pair cl_bool (cl_pair (cl_slice _ hd) (cl_pair cl_bool cl_string)))))) _)
theorem clObject:Cl k44:=cl_iso (cl_pair cl_string (cl_pair cl_string (cl_pair clSpot (cl_pair (cl_slice _ clAttr) (cl_pair cl_bool cl_string))))) _
theorem clRow:Cl kRow:=cl_iso (cl_pair cl_string (cl_pair cl_string (cl_pair cl_string (cl_pair cl_string (cl_pair (cl_int _) (cl_pair (cl_slice _ cl_string) (cl_pair (cl_int _) (cl_pair (cl_int _) (cl_pair cl_bool (cl_pair (cl_int _) cl_string)))))))))) _
end Go.Proofs.YtmfejjlmflgnbaaGreatDoor.Sc
namespace Go.Proofs.YtmfejjlmflgnbaaGreatDoor.Sc
open RowKit
open Lib (hid)
theorem cell_row {w:World} {b:Nat} {cs:Array Value} {t:TypeId} (h:w.heap[b]?=some (.cells cs t (0,0))) (k:Nat):w.cell? ⟨b,k,none⟩=cs[k]?:=by
 simp [World.cell?,h]
theorem frozen_row {w:World} {b:Nat} {cs:Array Value} {t:TypeId} (h:w.heap[b]?=some (.cells cs t (0,0))) (k:Nat):w.frozen? ⟨b,k,none⟩=false:=by
 simp [World.frozen?,h]
theorem setCell_row {w:World} {b k:Nat} {cs:Array Value} {t:TypeId} (h:w.heap[b]?=some (.cells cs t (0,0))) (v:Value):(w.setCell ⟨b,k,none⟩ v).heap[b]?=some (.cells (cs.setIfInBounds k v) t (0,0)):=by
 simp only [World.setCell,Array.getElem?_modify,h];simp
theorem setCell_grown (w:World) (b k:Nat) (v:Value):w.grownBy (w.setCell ⟨b,k,none⟩ v) (some b) :=
 ⟨rfl,rfl,rfl,by simp [World.setCell],fun j hj hne=>Below.heap_setCell w ⟨b,k,none⟩ v j (fun e=>hne (by rw [e]))⟩
theorem below_grown {w w':World} {r:Option Nat} (h:Below w.heap.size w w'):w.grownBy w' r:=⟨h.os,h.tape,h.output,h.size,fun k hk _=>h.block k hk⟩
theorem alloc_below (w:World) (ob:Obj):Below w.heap.size w (w.alloc ob):=(Below.refl _ w).alloc (Nat.le_refl _) _
open PA YtmfejjlmflgnbaaGreatDoorW.PrintWords YtmfejjlmflgnbaaGreatDoorW.PrintLast Sp Tr Tok
theorem beq_str (x y:ByteArray):(x.toList == y.toList)=decide (x=y):=by
 rw [ByteArray.toList_eq,ByteArray.toList_eq]
 by_cases h:x=y
 ·subst h;simp
 ·have:¬ x.data.toList=y.data.toList:=fun e=>h (ByteArray.ext (Array.toList_inj.1 e))
  rw [beq_eq_false_iff_ne.2 this,decide_eq_false h]
theorem str_yes {x y:ByteArray} (h:decide (x=y)=true):(y.toList == x.toList)=true:=by rw [beq_str];simpa [eq_comm] using h
theorem str_no {x y:ByteArray} (h:decide (x=y)=false):(y.toList == x.toList)=false:=by rw [beq_str];simpa [eq_comm] using h
def idxF {α:Type} (p:α->Bool):List α->Nat->Int
 | [],_=>-1
 | x :: r,k=>if p x then (k:Int) else idxF p r (k + 1)
theorem idx_hit {α:Type} {p:α->Bool} {l:List α} {j:Nat} {x:α} (hx:l[j]?=some x) (hp:p x=true):idxF p (l.drop j) j=(j:Int):=by
 obtain ⟨hj,rfl⟩:=List.getElem?_eq_some_iff.1 hx;rw [List.drop_eq_getElem_cons hj];simp [idxF,hp]
theorem idx_miss {α:Type} {p:α->Bool} {l:List α} {j:Nat} {x:α} (hx:l[j]?=some x) (hp:p x=false):idxF p (l.drop j) j=idxF p (l.drop (j + 1)) (j + 1):=by
 obtain ⟨hj,rfl⟩:=List.getElem?_eq_some_iff.1 hx;rw [List.drop_eq_getElem_cons hj];simp [idxF,hp]
theorem idx_end {α:Type} {p:α->Bool} {l:List α}:idxF p (l.drop l.length) l.length=-1:=by simp [idxF]
theorem idx_any {α:Type} (p:α->Bool):∀ (l:List α) (k:Nat),decide (idxF p l k ≥ 0)=l.any p
 | [],_=>rfl
 | x :: r,k=>by
  unfold idxF;cases h:p x with
  | true=>simp [h]
  | false=>simp [h,<- idx_any p r (k + 1)]
theorem str_at (l:List ByteArray) (j:Nat) (x:ByteArray) (h:l[j]?=some x):l.getD j (⟨#[]⟩:ByteArray)=x:=by
 rw [List.getD_eq_getElem?_getD,h];rfl
theorem at_str {w:World} {A:Option Addr} {n:Nat} {xs:List ByteArray} (h:Kd.C Kd.string w A n xs) (j:Nat) (hj:j<n) {x:ByteArray} (hx:xs[j]?=some x):∃ ad,A=some ad/\w.cell? (ad.add j)=some (.string x):=by
 obtain ⟨ad,c,e,_,hK,hc0⟩:=Kd.C_get h (⟨#[]⟩:ByteArray) (j:Int) (by omega) (by omega)
 have hq:=hc0 0 (.string (xs.getD j (⟨#[]⟩:ByteArray))) (by
  have hK2:c=[.string (xs.getD j (⟨#[]⟩:ByteArray))]:=hK
  rw [hK2];rfl)
 rw [str_at xs j x hx] at hq
 refine ⟨ad,e,?_⟩
 have h2:ad.add ((j:Int).toNat*Kd.string.sz + 0)=ad.add j:=by
  rw [Int.toNat_natCast];show ad.add (j*1 + 0)=ad.add j;rw [Nat.mul_one,Nat.add_zero]
 rw [<- h2];exact hq
theorem sindex_calls (l:List ByteArray) (s:ByteArray) (A:Option Addr) (c:Nat) (w:World) (hC:Kd.C Kd.string w A l.length l) :
  Calls Tryz.prog 102 #[.slice A l.length c,.string s] w fun e w'=>e=.returned (.int .i64 (idxF (fun x=>decide (x=s)) l 0))/\w'=w:=by
 have HC:=hid hC;have hm:=hC.2.1;have HM:=hid hm;clear hC hm;generalize hn:l.length=n at HC HM;have HN:=hid hn;clear hn
 go_enter Tryz.func102,Tryz.ntmps102
 go_wp2_with fail
 go_loopw [8] (fun v wr=>∃ j:Nat,v=.int .i64 (j:Int)/\j<=n/\Hid (idxF (fun x=>decide (x=s)) (l.drop j) j=idxF (fun x=>decide (x=s)) l 0)/\wr=w) (fun v _=>n - (intOf v).toNat)
 case atStart=>exact ⟨0,by go_num,by omega,hid rfl,rfl⟩
 case round =>
  obtain ⟨j,rfl,hj,RL,rfl⟩:=hrel;have hm:=HM.out
  by_cases hlt:j<n
  ·have hx:l[j]?=some (l[j]'(by rw [HN.out];exact hlt)):=List.getElem?_eq_getElem _
   obtain ⟨ad,rfl,hc⟩:=at_str HC.out j hlt hx;generalize (l[j]'(by rw [HN.out];exact hlt))=x at hx hc;have HX:=hid hx;clear hx;cases hp:decide (x=s) with
   | true =>
    have hp':=str_yes hp;have HP:=hid hp;clear hp
    go_wp2_with fail
    go_ret
    refine ⟨?_,by first | rfl | trivial⟩
    show Ending.returned (Value.int .i64 (j:Int))=_;rw [<- RL.out,idx_hit HX.out HP.out]
   | false =>
    have hp':=str_no hp;have HP:=hid hp;clear hp
    go_wp2_with fail
    exact ⟨⟨j + 1,by go_num,by omega,hid (by rw [<- idx_miss HX.out HP.out];exact RL.out),by first | rfl | trivial⟩,by simp [intOf];omega⟩
  ·obtain rfl:j=n:=by omega
   go_wp2_with fail
   go_ret
   refine ⟨?_,by first | rfl | trivial⟩
   have h0:=RL.out;rw [<- HN.out,idx_end] at h0;show Ending.returned (Value.int .i64 (-1))=_;rw [<- h0]
theorem scontains_calls (l:List ByteArray) (s:ByteArray) (A:Option Addr) (c:Nat) (w:World) (hC:Kd.C Kd.string w A l.length l) (r:Bool) (hr:inB l s=r) :
  Calls Tryz.prog 65 #[.slice A l.length c,.string s] w fun e w'=>e=.returned (.bool r)/\w'=w:=by
 have HC:=hid (sindex_calls l s A c w hC);have hi:=idx_any (fun x=>decide (x=s)) l 0;unfold inB at hr;rw [hr] at hi;clear hC hr;generalize l.length=n at *;generalize idxF (fun x=>decide (x=s)) l 0=k at *
 go_enter Tryz.func65,Tryz.ntmps65
 go_wp2_with (first
  | (go_at_call 102;refine HC.out.mono ?_;rintro e w2 ⟨rfl,rfl⟩))
 go_ret
 exact ⟨by first | rw [hi] | simp [hi],rfl⟩
def rowC (x:SR) (A:Option Addr) (c:Nat):Array Value:=#[.string x.obj,.string x.un,.string x.uw,.string x.name,.int .i64 x.want,.slice A x.words.length c,.int .u32 x.lo,.int .u32 x.hi,.bool x.auto,.int .i64 x.times,.string x.dflt]
def rowV (x:SR) (A:Option Addr) (c:Nat):Value:=.agg (rowC x A c)
theorem row_at (l:List SR) (j:Nat) (x:SR) (h:l[j]?=some x):rd_Row l (j:Int)=x:=by
 unfold rd_Row;rw [Int.toNat_natCast,List.getD_eq_getElem?_getD,h];rfl
theorem cellA1 {w:World} {a:Addr} {v:Value} (h:w.cell? a=some v) (X:Obj):(w.alloc X).cell? a=some v:=by
 rw [World.cell?_alloc_lt _ _ a (lC w _ h)];exact h
theorem rname1_calls (x:SR) (A:Option Addr) (c b:Nat) (n:ByteArray) (w:World) (hn:w.cell? ⟨b,0,none⟩=some (.string n)) (r:Bool) (hr:decide (x.name=n)=r) :
  Calls Tryz.prog 104 #[rowV x A c,.pointer (some ⟨b,0,none⟩)] w fun e w'=>e=.returned (.bool r)/\Below w.heap.size w w':=by
 unfold rowV rowC;have hlt:b<w.heap.size:=lC w _ hn;have hn2:=fun X=>cellA1 hn X;clear hn
 go_enter Tryz.func104,Tryz.ntmps104
 go_wp2_with fail
 go_ret
 refine ⟨?_,alloc_below _ _⟩
 show Ending.returned (Value.bool (x.name.toList == n.toList))=_;rw [beq_str,hr]
theorem wname1_calls (x:SR) (A:Option Addr) (c b:Nat) (n:ByteArray) (w:World) (hn:w.cell? ⟨b,0,none⟩=some (.string n)) (r:Bool) (hr:decide (x.name=n)=r) :
  Calls Tryz.prog 114 #[rowV x A c,.pointer (some ⟨b,0,none⟩)] w fun e w'=>e=.returned (.bool r)/\Below w.heap.size w w':=by
 unfold rowV rowC;have hlt:b<w.heap.size:=lC w _ hn;have hn2:=fun X=>cellA1 hn X;clear hn
 go_enter Tryz.func114,Tryz.ntmps114
 go_wp2_with fail
 go_ret
 refine ⟨?_,alloc_below _ _⟩
 show Ending.returned (Value.bool (x.name.toList == n.toList))=_;rw [beq_str,hr]
theorem ctn1_calls (x:SR) (A:Option Addr) (c:Nat) (w:World) (r:Bool) (hr:decide (x.times=1)=r) :
  Calls Tryz.prog 138 #[rowV x A c] w fun e w'=>e=.returned (.bool r)/\Below w.heap.size w w':=by
 unfold rowV rowC
 go_enter Tryz.func138,Tryz.ntmps138
 go_wp2_with fail
 go_ret
 refine ⟨?_,alloc_below _ _⟩
 rw [<- hr];show Ending.returned (Value.bool (x.times == 1))=_
 congr 2
theorem rindex_calls (p:SR->Bool) (l:List SR) (A:Option Addr) (c:Nat) (b:Nat) (w:World) (hC:Kd.C kRow w A l.length l)
  (hF:∀ (x:SR) (A':Option Addr) (c':Nat) (W:World),Below w.heap.size w W->Calls Tryz.prog 104 #[rowV x A' c',.pointer (some ⟨b,0,none⟩)] W fun e w'=>e=.returned (.bool (p x))/\Below W.heap.size W w') :
  Calls Tryz.prog 103 #[.slice A l.length c,.func (.func 104) #[] #[.pointer (some ⟨b,0,none⟩)]] w fun e w'=>e=.returned (.int .i64 (idxF p l 0))/\Below w.heap.size w w':=by
 have HC:=hid hC;have hm:=hC.2.1;have HM:=hid hm;have HF:=hid hF;clear hC hm hF;generalize hn:l.length=n at HC HM;have HN:=hid hn;clear hn
 go_enter Tryz.func103,Tryz.ntmps103
 go_wp2_with fail
 go_loopw [8] (fun v wr=>∃ j:Nat,v=.int .i64 (j:Int)/\j<=n/\Hid (idxF p (l.drop j) j=idxF p l 0)/\Hid (Below w.heap.size w wr)) (fun v _=>n - (intOf v).toNat)
 case atStart=>exact ⟨0,by go_num,by omega,hid rfl,hid (Below.refl _ _)⟩
 case round =>
  obtain ⟨j,rfl,hj,RL,B⟩:=hrel;have hm:=HM.out
  by_cases hlt:j<n
  ·have hx:l[j]?=some (l[j]'(by rw [HN.out];exact hlt)):=List.getElem?_eq_getElem _
   obtain ⟨ad,A5,c5,eA,x0,x1,x2,x3,x4,x5,x6,x7,x8,x9,x10,l5,C5⟩:=at_Row (Kd.C_below HC.out B.out) (j:Int) (by omega) (by omega);rw [row_at l j _ hx] at x0 x1 x2 x3 x4 x5 x6 x7 x8 x9 x10 l5 C5;generalize (l[j]'(by rw [HN.out];exact hlt))=x at hx x0 x1 x2 x3 x4 x5 x6 x7 x8 x9 x10 l5 C5;cases eA;have HX:=hid hx;clear hx C5 l5;simp only [Int.toNat_natCast] at x0 x1 x2 x3 x4 x5 x6 x7 x8 x9 x10;have HFX:=hid (HF.out x A5 c5 wr B.out);unfold rowV rowC at HFX;cases hp:p x with
   | true =>
    have HP:=hid hp;clear hp
    go_wp2_with (first
     | (go_at_call 104;refine HFX.out.mono ?_;rintro e w2 ⟨he,hB2⟩;rw [HP.out] at he;subst he;have B2:=hid (B.out.trans (hB2.mono B.out.size));clear hB2 x0 x1 x2 x3 x4 x5 x6 x7 x8 x9 x10))
    go_ret
    refine ⟨?_,B2.out⟩
    show Ending.returned (Value.int .i64 (j:Int))=_;rw [<- RL.out,idx_hit HX.out HP.out]
   | false =>
    have HP:=hid hp;clear hp
    go_wp2_with (first
     | (go_at_call 104;refine HFX.out.mono ?_;rintro e w2 ⟨he,hB2⟩;rw [HP.out] at he;subst he;have B2:=hid (B.out.trans (hB2.mono B.out.size));clear hB2 x0 x1 x2 x3 x4 x5 x6 x7 x8 x9 x10))
    exact ⟨⟨j + 1,by go_num,by omega,hid (by rw [<- idx_miss HX.out HP.out];exact RL.out),B2⟩,by simp [intOf];omega⟩
  ·obtain rfl:j=n:=by omega
   go_wp2_with fail
   go_ret
   refine ⟨?_,B.out⟩
   have h0:=RL.out;rw [<- HN.out,idx_end] at h0;show Ending.returned (Value.int .i64 (-1))=_;rw [<- h0]
theorem windex_calls (p:SR->Bool) (l:List SR) (A:Option Addr) (c:Nat) (b:Nat) (w:World) (hC:Kd.C kRow w A l.length l)
  (hF:∀ (x:SR) (A':Option Addr) (c':Nat) (W:World),Below w.heap.size w W->Calls Tryz.prog 114 #[rowV x A' c',.pointer (some ⟨b,0,none⟩)] W fun e w'=>e=.returned (.bool (p x))/\Below W.heap.size W w') :
  Calls Tryz.prog 103 #[.slice A l.length c,.func (.func 114) #[] #[.pointer (some ⟨b,0,none⟩)]] w fun e w'=>e=.returned (.int .i64 (idxF p l 0))/\Below w.heap.size w w':=by
 have HC:=hid hC;have hm:=hC.2.1;have HM:=hid hm;have HF:=hid hF;clear hC hm hF;generalize hn:l.length=n at HC HM;have HN:=hid hn;clear hn
 go_enter Tryz.func103,Tryz.ntmps103
 go_wp2_with fail
 go_loopw [8] (fun v wr=>∃ j:Nat,v=.int .i64 (j:Int)/\j<=n/\Hid (idxF p (l.drop j) j=idxF p l 0)/\Hid (Below w.heap.size w wr)) (fun v _=>n - (intOf v).toNat)
 case atStart=>exact ⟨0,by go_num,by omega,hid rfl,hid (Below.refl _ _)⟩
 case round =>
  obtain ⟨j,rfl,hj,RL,B⟩:=hrel;have hm:=HM.out
  by_cases hlt:j<n
  ·have hx:l[j]?=some (l[j]'(by rw [HN.out];exact hlt)):=List.getElem?_eq_getElem _
   obtain ⟨ad,A5,c5,eA,x0,x1,x2,x3,x4,x5,x6,x7,x8,x9,x10,l5,C5⟩:=at_Row (Kd.C_below HC.out B.out) (j:Int) (by omega) (by omega);rw [row_at l j _ hx] at x0 x1 x2 x3 x4 x5 x6 x7 x8 x9 x10 l5 C5;generalize (l[j]'(by rw [HN.out];exact hlt))=x at hx x0 x1 x2 x3 x4 x5 x6 x7 x8 x9 x10 l5 C5;cases eA;have HX:=hid hx;clear hx C5 l5;simp only [Int.toNat_natCast] at x0 x1 x2 x3 x4 x5 x6 x7 x8 x9 x10;have HFX:=hid (HF.out x A5 c5 wr B.out);unfold rowV rowC at HFX;cases hp:p x with
   | true =>
    have HP:=hid hp;clear hp
    go_wp2_with (first
     | (go_at_call 114;refine HFX.out.mono ?_;rintro e w2 ⟨he,hB2⟩;rw [HP.out] at he;subst he;have B2:=hid (B.out.trans (hB2.mono B.out.size));clear hB2 x0 x1 x2 x3 x4 x5 x6 x7 x8 x9 x10))
    go_ret
    refine ⟨?_,B2.out⟩
    show Ending.returned (Value.int .i64 (j:Int))=_;rw [<- RL.out,idx_hit HX.out HP.out]
   | false =>
    have HP:=hid hp;clear hp
    go_wp2_with (first
     | (go_at_call 114;refine HFX.out.mono ?_;rintro e w2 ⟨he,hB2⟩;rw [HP.out] at he;subst he;have B2:=hid (B.out.trans (hB2.mono B.out.size));clear hB2 x0 x1 x2 x3 x4 x5 x6 x7 x8 x9 x10))
    exact ⟨⟨j + 1,by go_num,by omega,hid (by rw [<- idx_miss HX.out HP.out];exact RL.out),B2⟩,by simp [intOf];omega⟩
  ·obtain rfl:j=n:=by omega
   go_wp2_with fail
   go_ret
   refine ⟨?_,B.out⟩
   have h0:=RL.out;rw [<- HN.out,idx_end] at h0;show Ending.returned (Value.int .i64 (-1))=_;rw [<- h0]
theorem mindex_calls (p:SR->Bool) (l:List SR) (A:Option Addr) (c:Nat) (w:World) (hC:Kd.C kRow w A l.length l)
  (hF:∀ (x:SR) (A':Option Addr) (c':Nat) (W:World),Below w.heap.size w W->Calls Tryz.prog 138 #[rowV x A' c'] W fun e w'=>e=.returned (.bool (p x))/\Below W.heap.size W w') :
  Calls Tryz.prog 103 #[.slice A l.length c,.func (.func 138) #[] #[]] w fun e w'=>e=.returned (.int .i64 (idxF p l 0))/\Below w.heap.size w w':=by
 have HC:=hid hC;have hm:=hC.2.1;have HM:=hid hm;have HF:=hid hF;clear hC hm hF;generalize hn:l.length=n at HC HM;have HN:=hid hn;clear hn
 go_enter Tryz.func103,Tryz.ntmps103
 go_wp2_with fail
 go_loopw [8] (fun v wr=>∃ j:Nat,v=.int .i64 (j:Int)/\j<=n/\Hid (idxF p (l.drop j) j=idxF p l 0)/\Hid (Below w.heap.size w wr)) (fun v _=>n - (intOf v).toNat)
 case atStart=>exact ⟨0,by go_num,by omega,hid rfl,hid (Below.refl _ _)⟩
 case round =>
  obtain ⟨j,rfl,hj,RL,B⟩:=hrel;have hm:=HM.out
  by_cases hlt:j<n
  ·have hx:l[j]?=some (l[j]'(by rw [HN.out];exact hlt)):=List.getElem?_eq_getElem _
   obtain ⟨ad,A5,c5,eA,x0,x1,x2,x3,x4,x5,x6,x7,x8,x9,x10,l5,C5⟩:=at_Row (Kd.C_below HC.out B.out) (j:Int) (by omega) (by omega);rw [row_at l j _ hx] at x0 x1 x2 x3 x4 x5 x6 x7 x8 x9 x10 l5 C5;generalize (l[j]'(by rw [HN.out];exact hlt))=x at hx x0 x1 x2 x3 x4 x5 x6 x7 x8 x9 x10 l5 C5;cases eA;have HX:=hid hx;clear hx C5 l5;simp only [Int.toNat_natCast] at x0 x1 x2 x3 x4 x5 x6 x7 x8 x9 x10;have HFX:=hid (HF.out x A5 c5 wr B.out);unfold rowV rowC at HFX;cases hp:p x with
   | true =>
    have HP:=hid hp;clear hp
    go_wp2_with (first
     | (go_at_call 138;refine HFX.out.mono ?_;rintro e w2 ⟨he,hB2⟩;rw [HP.out] at he;subst he;have B2:=hid (B.out.trans (hB2.mono B.out.size));clear hB2 x0 x1 x2 x3 x4 x5 x6 x7 x8 x9 x10))
    go_ret
    refine ⟨?_,B2.out⟩
    show Ending.returned (Value.int .i64 (j:Int))=_;rw [<- RL.out,idx_hit HX.out HP.out]
   | false =>
    have HP:=hid hp;clear hp
    go_wp2_with (first
     | (go_at_call 138;refine HFX.out.mono ?_;rintro e w2 ⟨he,hB2⟩;rw [HP.out] at he;subst he;have B2:=hid (B.out.trans (hB2.mono B.out.size));clear hB2 x0 x1 x2 x3 x4 x5 x6 x7 x8 x9 x10))
    exact ⟨⟨j + 1,by go_num,by omega,hid (by rw [<- idx_miss HX.out HP.out];exact RL.out),B2⟩,by simp [intOf];omega⟩
  ·obtain rfl:j=n:=by omega
   go_wp2_with fail
   go_ret
   refine ⟨?_,B.out⟩
   have h0:=RL.out;rw [<- HN.out,idx_end] at h0;show Ending.returned (Value.int .i64 (-1))=_;rw [<- h0]
theorem must_calls (l:List SR) (A:Option Addr) (c:Nat) (w:World) (hC:Kd.C kRow w A l.length l) (r:Bool) (hr:mustR l=r) :
  Calls Tryz.prog 137 #[.slice A l.length c,.func (.func 138) #[] #[]] w fun e w'=>e=.returned (.bool r)/\Below w.heap.size w w':=by
 have HC:=hid (mindex_calls (fun y=>decide (y.times=1)) l A c w hC (fun x A' c' W _=>ctn1_calls x A' c' W _ rfl));have hi:=idx_any (fun y:SR=>decide (y.times=1)) l 0;unfold mustR at hr;rw [hr] at hi;clear hC hr;generalize l.length=n at *;generalize idxF (fun y:SR=>decide (y.times=1)) l 0=k at *
 go_enter Tryz.func137,Tryz.ntmps137
 go_wp2_with (first
  | (go_at_call 103;refine HC.out.mono ?_;rintro e w2 ⟨rfl,hB⟩))
 go_ret
 exact ⟨by first | rw [hi] | simp [hi],hB⟩
theorem findr_calls (n:ByteArray) (l:List SR) (A:Option Addr) (c b:Nat) (w:World) (hC:Kd.C kRow w A l.length l) (hn:w.cell? ⟨b,0,none⟩=some (.string n)) :
  Calls Tryz.prog 103 #[.slice A l.length c,.func (.func 104) #[] #[.pointer (some ⟨b,0,none⟩)]] w fun e w'=>e=.returned (.int .i64 (idxF (fun x=>decide (x.name=n)) l 0))/\Below w.heap.size w w' :=
 rindex_calls (fun x=>decide (x.name=n)) l A c b w hC (fun x A' c' W hB=>rname1_calls x A' c' b n W ((hB.cell (lC w _ hn)).trans hn) _ rfl)
theorem findw_calls (n:ByteArray) (l:List SR) (A:Option Addr) (c b:Nat) (w:World) (hC:Kd.C kRow w A l.length l) (hn:w.cell? ⟨b,0,none⟩=some (.string n)) :
  Calls Tryz.prog 103 #[.slice A l.length c,.func (.func 114) #[] #[.pointer (some ⟨b,0,none⟩)]] w fun e w'=>e=.returned (.int .i64 (idxF (fun x=>decide (x.name=n)) l 0))/\Below w.heap.size w w' :=
 windex_calls (fun x=>decide (x.name=n)) l A c b w hC (fun x A' c' W hB=>wname1_calls x A' c' b n W ((hB.cell (lC w _ hn)).trans hn) _ rfl)
section
variable {P:Program} {ops:Array Oper} {rest:List Oper} {o:Oper} {a:Act} {w:World} {Q:Exit->Act->World->Prop}
theorem cells_ev (hgd:o.guard=none) (ty:TypeId) (x y:Operand) (ho:o.op=.store ty x y)
  (b off:Nat) (cs:List Value) (hx:a.eval x=.pointer (some ⟨b,off,none⟩)) (hy:a.eval y=.agg cs.toArray) (h1:∀ u ∈ cs,u.oneCell'=true)
  (ht:w.there b off cs.length) (hi:(P.info? ty).map (·.size)=some cs.length)
  (h:∀ w1,w1=w.setCells b off cs->wpList P ops Q rest (a.put o.dst undef) w1):wpList P ops Q (o :: rest) a w:=by
 refine wpList_plain hgd fun K hK=>?_
 unfold Oper.wp execOp;have hc:(Value.agg cs.toArray).cells=cs.toArray:=rfl
 have hrun:(storeVar ty ⟨b,off,none⟩ (.agg cs.toArray)).run P w=.ok () (w.setCells b off cs):=by
  have:=run_storeCells_cells (P:=P) b off cs 0 w (fun j hj=>by simpa using (ht j hj).1) (fun j hj=>by simpa using (ht j hj).2) h1;cases hq:P.info? ty with
  | none=>simp [hq] at hi
  | some i =>
   have hs:i.size=cs.length:=by simpa [hq] using hi
   simp only [Nat.add_zero] at this;simp [storeVar,sizeOf,typeInfo,hq,hc,hs,this]
 simp only [ho,hx,hy,Instr.storeAt,Instr.sureAddr,Sem.run_bind,Sem.run_pure,Result.andThen_ok,hrun];exact hK _ _ (h _ rfl)
end
theorem belowG {w w2:World} {B g:Nat} (h:w.grownBy w2 (some g)) (hB:B<=g) (hs:B<=w.heap.size):Below B w w2:=⟨h.os,h.tape,h.output,h.size,fun k hk=>h.block k (by omega) (fun e=>by injection e with e;omega)⟩
def Held (p:Prop):Prop:=p
theorem unheld {p:Prop} (h:Held p):p:=h
theorem row1 {w w1:World} {g o:Nat} {cs:Array Value} {t:TypeId} {x:Value} (h:w.heap[g]?=some (.cells cs t (0,0))) (hw:w1=w.setCells g o [x]) :
  w1.heap[g]?=some (.cells (cs.setIfInBounds o x) t (0,0))/\(∀ k,k≠g->w1.heap[k]?=w.heap[k]?)/\w1.heap.size=w.heap.size:=by
 have e:w1=w.setCell ⟨g,o,none⟩ x:=hw
 refine ⟨?_,fun k hk=>?_,?_⟩
 ·rw [e];exact setCell_row h x
 ·rw [e,Below.heap_setCell _ _ _ _ hk]
 ·rw [e];simp [World.setCell]
theorem row3 {w w1:World} {g o:Nat} {cs:Array Value} {t:TypeId} {x y z:Value} (h:w.heap[g]?=some (.cells cs t (0,0))) (hw:w1=w.setCells g o [x,y,z]) :
  w1.heap[g]?=some (.cells (((cs.setIfInBounds o x).setIfInBounds (o + 1) y).setIfInBounds (o + 1 + 1) z) t (0,0))/\(∀ k,k≠g->w1.heap[k]?=w.heap[k]?)/\w1.heap.size=w.heap.size:=by
 have e:w1=(((w.setCell ⟨g,o,none⟩ x).setCell ⟨g,o + 1,none⟩ y).setCell ⟨g,o + 1 + 1,none⟩ z):=hw
 refine ⟨?_,fun k hk=>?_,?_⟩
 ·rw [e]
  exact setCell_row (setCell_row (setCell_row h x) y) z
 ·rw [e,Below.heap_setCell _ _ _ _ hk,Below.heap_setCell _ _ _ _ hk,Below.heap_setCell _ _ _ _ hk]
 ·rw [e];simp [World.setCell]
theorem row3B {w w1:World} {g o B:Nat} {x y z:Value} (hw:w1=w.setCells g o [x,y,z]) (hB:B<=g):Below B w w1:=by
 have e:w1=(((w.setCell ⟨g,o,none⟩ x).setCell ⟨g,o + 1,none⟩ y).setCell ⟨g,o + 1 + 1,none⟩ z):=hw;rw [e];exact (((Below.refl B w).setCell (p:=⟨g,o,none⟩) hB x).setCell (p:=⟨g,o + 1,none⟩) hB y).setCell (p:=⟨g,o + 1 + 1,none⟩) hB z
theorem thereR {w:World} {g o n:Nat} {cs:Array Value} {t:TypeId} (h:w.heap[g]?=some (.cells cs t (0,0))) (hn:o + n<=cs.size):w.there g o n:=fun j hj=>by
 refine ⟨?_,frozen_row h _⟩
 rw [cell_row h,Array.getElem?_eq_getElem (by omega)]
 rfl
theorem ownLt {α:Type} {d:Kd α} {e:TypeId} {w:World} {B:Nat} {ok:Nat->Prop} {v:Value} {xs:List α} (h:Kd.R d e w B ok v xs) {k:Nat} (hk:v.ownBlock=some k):k<w.heap.size:=by
 obtain ⟨inner,ho⟩:=Kd.R_own h;exact (ho.lt k hk).2
theorem RForm {α:Type} {d:Kd α} {e:TypeId} {w:World} {B:Nat} {ok:Nat->Prop} {v:Value} {xs:List α} (h:Kd.R d e w B ok v xs):∃ A c,v=.slice A xs.length c:=by
 obtain ⟨A,c,hv,_,_⟩:=Kd.R_reads h;exact ⟨A,c,hv⟩
theorem RWide {α:Type} {d:Kd α} {e:TypeId} {w w1:World} {B B':Nat} {v:Value} {xs:List α} (h:Kd.R d e w B (fun _=>True) v xs) (hk:∀ k,B<=k->k<w.heap.size->w1.heap[k]?=w.heap[k]?) (hB:B'<=B):Kd.R d e w1 B' (fun k=>B<=k) v xs:=by
 have h1:=Kd.R_move (w1:=w1) (Kd.R_bound h) (fun k hk2=>hk k hk2.2.1 hk2.2.2.1);exact Kd.R_lower (Kd.R_mono h1 (fun k hk2=>hk2.2.1)) hB
theorem fixed_C {w0 w:World} (hk:Keeps w0 w) {A:Option Addr} {n:Nat} {xs:List SR} (h:Kd.C (Kd.fixed kRow w0) w A n xs):Kd.C kRow w A n xs :=
 Kd.C_read (d:=kRow) (dm:=Kd.fixed kRow w0) rfl (fun x cs hx=>clRow.k hk hx) h
def row0:Array Value:=#[.string ⟨#[]⟩,.string ⟨#[]⟩,.string ⟨#[]⟩,.string ⟨#[]⟩,.int .i64 0,.slice none 0 0,.int .u32 0,.int .u32 0,.bool false,.int .i64 0,.string ⟨#[]⟩]
theorem row_all (x:SR) (A:Option Addr) (c:Nat):(rowC x A c).all (·.oneCell')=true:=by simp [rowC,Value.oneCell']
def entC (x:SE) (v:Value):Array Value:=#[.string x.name,.int .i64 x.spot.f0,.int .i64 x.spot.f1,.int .i64 x.spot.f2,.int .u32 x.num,.bool x.auto,.string x.word,v]
def ent0:Array Value:=#[.string ⟨#[]⟩,.int .i64 0,.int .i64 0,.int .i64 0,.int .u32 0,.bool false,.string ⟨#[]⟩,.slice none 0 0]
theorem ent_all (x:SE) (A:Option Addr) (n c:Nat):(entC x (.slice A n c)).all (·.oneCell')=true:=by simp [entC,Value.oneCell']
def attC (a:SA) (A:Option Addr) (c:Nat):Array Value:=#[.string a.f0,.int .i64 a.f1.f0,.int .i64 a.f1.f1,.int .i64 a.f1.f2,.int .i64 a.f2.f0,.string a.f2.f1,.int .u32 a.f2.f2,.bool a.f2.f3,.bool a.f3,.slice A a.f4.length c,.bool a.f5,.string a.f6]
def att0:Array Value:=#[.string ⟨#[]⟩,.int .i64 0,.int .i64 0,.int .i64 0,.int .i64 0,.string ⟨#[]⟩,.int .u32 0,.bool false,.bool false,.slice none 0 0,.bool false,.string ⟨#[]⟩]
theorem att_all (a:SA) (A:Option Addr) (c:Nat):(attC a A c).all (·.oneCell')=true:=by simp [attC,Value.oneCell']
theorem infoRow:(Tryz.prog.info? 60).map (fun i=>(i.zero,i.size,i.bytes))=some (some (.agg row0),11,136):=by kernel_rfl
theorem infoEnt:(Tryz.prog.info? 80).map (fun i=>(i.zero,i.size,i.bytes))=some (some (.agg ent0),8,88):=by kernel_rfl
theorem arr_eqIn (a b c d:ByteArray) (w:World):(Op.equalIn 10000 56 (.agg #[.string a,.string b]) (.agg #[.string c,.string d])).run Tryz.prog w=.ok (decide (a=c)&&decide (b=d)) w:=by
 have hu:=Tryz.underlying56;have hc:(Tryz.prog.info? 9).map (·.size)=some 1:=by kernel_rfl
 obtain ⟨i,hi,hs⟩:=Option.map_eq_some_iff.1 hc;rw [show (10000:Nat)=9999 + 1 from rfl,run_equalIn_array w 9999 _ _ hu hi];have h1:Tryz.prog.cellsOf 9=1:=by unfold Program.cellsOf;rw [hi];simpa using hs
 have u2:=Tryz.underlying9;rw [h1,show List.range 2=[0,1] from rfl];have e1:=fun (x y:ByteArray)=>run_equalIn_string (P:=Tryz.prog) w 9998 9 x y u2;simp only [Op.eqItems]
 by_cases h1:a=c <;> by_cases h2:b=d <;> simp [go_sem,part,e1,beq_str,h1,h2,u2,Result.andThen]
theorem arr_eql (a b c d:ByteArray) (w:World):(binOp .eql 56 (.agg #[.string a,.string b]) (.agg #[.string c,.string d])).run Tryz.prog w=.ok (.bool (decide (a=c)&&decide (b=d))) w:=by
 rw [run_eql_struct,arr_eqIn]
 rfl
theorem under_take (l:List SR) (obj nm wd:ByteArray) (j:Nat) (x:SR) (h:l[j]?=some x) :
  underR (l.take (j + 1)) obj nm wd=underR (l.take j) obj nm wd++(if decide (x.obj=obj)&&(decide (x.un=nm)&&decide (x.uw=wd)) then [x] else []):=by
 unfold underR;rw [List.take_add_one,h];simp [List.filter_append,List.filter_cons]
theorem under_len (l:List SR) (obj nm wd:ByteArray):(underR l obj nm wd).length<=l.length:=List.length_filter_le _ _
set_option maxHeartbeats 4000000 in
theorem behindz_calls (rb:Nat) (l:List SR) (A:Option Addr) (c:Nat) (obj nm wd:ByteArray) (wz w:World) (hZ:Below wz.heap.size wz w) (hr:w.cell? ⟨rb,0,none⟩=some (.slice A l.length c)) (hC:Kd.C kRow wz A l.length l) (hl:l.length<=1000) :
  Calls Tryz.prog 67 #[.pointer (some ⟨rb,0,none⟩),.string obj,.string nm,.string wd] w fun e w'=>(∃ v,e=.returned v/\Kd.R (Kd.fixed kRow wz) 60 w' w.heap.size (fun _=>True) v (underR l obj nm wd))/\Below w.heap.size w w':=by
 have HZ:=hid hZ;have HC:=hid hC;have HL:=hid hl;have hm:=hl;clear hC hl hZ;generalize hn:l.length=n at *;have HN:=hid hn;clear hn
 go_enter Tryz.func67,Tryz.ntmps67
 go_wp2_with fail
 clear hr
 go_loopw [9,17] (fun ov v wr=>∃ j:Nat,v=.int .i64 (j:Int)/\j<=n/\Hid (Kd.R (Kd.fixed kRow wz) 60 wr w.heap.size (fun _=>True) ov (underR (l.take j) obj nm wd))/\Hid (Below w.heap.size w wr)) (fun _ v _=>n - (intOf v).toNat)
 case atStart=>exact ⟨0,by go_num,by omega,hid (by rw [List.take_zero];exact Kd.R_nil _ _ _ _ (fun _=>True)),hid (Below.refl _ _)⟩
 case round =>
  obtain ⟨j,rfl,hj,RO,BL⟩:=hrel
  by_cases hlt:j<n
  ·have hx:l[j]?=some (l[j]'(by rw [HN.out];exact hlt)):=List.getElem?_eq_getElem _
   obtain ⟨ad,A5,c5,eA,x0,x1,x2,x3,x4,x5,x6,x7,x8,x9,x10,l5,C5⟩:=at_Row (Kd.C_below HC.out (HZ.out.trans (BL.out.mono HZ.out.size))) (j:Int) (by omega) (by omega);rw [row_at l j _ hx] at x0 x1 x2 x3 x4 x5 x6 x7 x8 x9 x10 l5 C5;have HTK:=hid (under_take l obj nm wd j _ hx);obtain ⟨ad0,A50,c50,eA0,z0,z1,z2,z3,z4,z5,z6,z7,z8,z9,z10,l50,C50⟩:=at_Row HC.out (j:Int) (by omega) (by omega);rw [row_at l j _ hx] at z5 l50 C50;generalize (l[j]'(by rw [HN.out];exact hlt))=x at hx x0 x1 x2 x3 x4 x5 x6 x7 x8 x9 x10 l5 C5 HTK z5 l50 C50;cases eA;injection eA0 with eA0
   subst eA0;simp only [Int.toNat_natCast] at x0 x1 x2 x3 x4 x5 x6 x7 x8 x9 x10 z5;have z5':=((HZ.out.trans (BL.out.mono HZ.out.size)).cell (lC wz _ z5)).trans z5;rw [x5] at z5';injection z5' with z5'
   injection z5' with hA5 _ hc5
   subst hA5 hc5;have HC5:=hid C50;have HL5:=hid l50;obtain ⟨acc,hacc⟩:∃ acc,acc=underR (l.take j) obj nm wd:=⟨_,rfl⟩;have hal:acc.length<=1000:=by rw [hacc];exact Nat.le_trans (under_len _ _ _ _) (by rw [List.length_take];omega)
   rw [<- hacc] at RO HTK;have HAL:=hid hal;obtain ⟨Ao,co,hov⟩:=RForm RO.out;subst hov;clear hx C5 l5 C50 l50 hacc hal z0 z1 z2 z3 z4 z5 z6 z7 z8 z9 z10;have tk1:True:=trivial
   go_upto_region 5 with (first
    | (have _t:=tk1;refine run_event rfl (.alloc 60) rfl (.pointer (some ⟨wr.heap.size,0,none⟩)) (wr.alloc (.cells row0 60)) (by kernel_rfl) ?_;intro w1 hw1;have B1:Hid (Below wr.heap.size wr w1):=hid (by rw [hw1];exact alloc_below _ _);have G1:Hid (w1.heap[wr.heap.size]?=some (.cells row0 60 (0,0))):=hid (by rw [hw1];exact heap_alloc_new _ _);clear hw1 tk1 _t)
    | ((with_reducible refine gate_store (t:=60) (p:=11) rfl ?_);refine put_event rfl 60 _ _ rfl wr.heap.size (rowC x A5 c5) rfl rfl 60 row0 G1.out (by kernel_rfl) rfl (row_all _ _ _) wr.heap.size (Nat.le_refl _) ?_;intro w2 hb2 hB2 hs2 ho2;have G2:=hid hb2;have BR2:Hid (Below wr.heap.size wr w2):=hid (B1.out.trans hB2);have B2:Hid (Below w.heap.size w w2):=hid (BL.out.trans (BR2.out.mono BL.out.size));clear hb2 hB2 hs2 ho2 x0 x1 x2 x3 x4 x5 x6 x7 x8 x9 x10))
   have y0:w2.cell? ⟨wr.heap.size,0,none⟩=some (.string x.obj):=(cell_row G2.out 0).trans rfl;have y1:w2.cell? ⟨wr.heap.size,1,none⟩=some (.string x.un):=(cell_row G2.out 1).trans rfl;have y2:w2.cell? ⟨wr.heap.size,2,none⟩=some (.string x.uw):=(cell_row G2.out 2).trans rfl;have ROW:Hid (Kd.R (Kd.fixed kRow wz) 60 w2 w.heap.size (fun _=>True) (.slice Ao acc.length co) acc):=hid (Kd.R_below RO.out BR2.out);cases ho:decide (x.obj=obj) with
   | false =>
    have ho1:(x.obj.toList == obj.toList)=false:=by rw [beq_str];exact ho
    have R6:Hid (Kd.R (Kd.fixed kRow wz) 60 w2 w.heap.size (fun _=>True) (.slice Ao acc.length co) (underR (l.take (j + 1)) obj nm wd)):=hid (by rw [HTK.out,ho,Bool.false_and,if_neg (by simp),List.append_nil];exact ROW.out);clear ho HTK
    go_wp2_with fail
    exact ⟨⟨j + 1,by go_num,by omega,R6,B2⟩,by simp [intOf];omega⟩
   | true =>
    have ho1:(x.obj.toList == obj.toList)=true:=by rw [beq_str];exact ho
    have hE:=fun W=>arr_eqIn x.un x.uw nm wd W;have hE2:=fun W=>arr_eql x.un x.uw nm wd W;rw [ho,Bool.true_and] at HTK;cases hu:(decide (x.un=nm)&&decide (x.uw=wd)) with
    | false =>
     rw [hu] at hE hE2;have R6:Hid (Kd.R (Kd.fixed kRow wz) 60 w2 w.heap.size (fun _=>True) (.slice Ao acc.length co) (underR (l.take (j + 1)) obj nm wd)):=hid (by rw [HTK.out,hu,if_neg (by simp),List.append_nil];exact ROW.out);clear ho hu HTK
     go_wp2_with fail
     exact ⟨⟨j + 1,by go_num,by omega,R6,B2⟩,by simp [intOf];omega⟩
    | true =>
     rw [hu] at hE hE2;rw [hu,if_pos rfl] at HTK;clear ho hu;have y3:w2.cell? ⟨wr.heap.size,3,none⟩=some (.string x.name):=(cell_row G2.out 3).trans rfl;have y4:w2.cell? ⟨wr.heap.size,4,none⟩=some (.int .i64 x.want):=(cell_row G2.out 4).trans rfl;have y5:w2.cell? ⟨wr.heap.size,5,none⟩=some (.slice A5 x.words.length c5):=(cell_row G2.out 5).trans rfl;have y6:w2.cell? ⟨wr.heap.size,6,none⟩=some (.int .u32 x.lo):=(cell_row G2.out 6).trans rfl;have y7:w2.cell? ⟨wr.heap.size,7,none⟩=some (.int .u32 x.hi):=(cell_row G2.out 7).trans rfl;have y8:w2.cell? ⟨wr.heap.size,8,none⟩=some (.bool x.auto):=(cell_row G2.out 8).trans rfl;have y9:w2.cell? ⟨wr.heap.size,9,none⟩=some (.int .i64 x.times):=(cell_row G2.out 9).trans rfl;have y10:w2.cell? ⟨wr.heap.size,10,none⟩=some (.string x.dflt):=(cell_row G2.out 10).trans rfl
     go_wp2_with (first
      | (at_builtin;refine Kd.R_append (Kd.fixed kRow wz) (w0:=w) w.heap.size rfl (.tmp 33) (.tmp 35) 53 60 (.agg row0) 136 rfl Tryz.underlying53 infoRow rfl (show 0<11 by decide) (by omega) (.slice Ao acc.length co) acc x [.string x.obj,.string x.un,.string x.uw,.string x.name,.int .i64 x.want,.slice A5 x.words.length c5,.int .u32 x.lo,.int .u32 x.hi,.bool x.auto,.int .i64 x.times,.string x.dflt] (fun _=>True) (fun _=>False) rfl rfl (kRow_mk wz x HL5.out HC5.out) (fun _ h=>h.elim) (fun _ _=>trivial) ROW.out B2.out B2.out.size (by have:=HAL.out;omega) ?_;intro v6 w6 ho hb hg hat;have R6:Hid (Kd.R (Kd.fixed kRow wz) 60 w6 w.heap.size (fun _=>True) v6 (underR (l.take (j + 1)) obj nm wd)):=hid (by rw [HTK.out];exact ho);have B6:=hid hb;clear ho hb hg hat y0 y1 y2 y3 y4 y5 y6 y7 y8 y9 y10))
     exact ⟨⟨j + 1,by go_num,by omega,R6,B6⟩,by simp [intOf];omega⟩
  ·obtain rfl:j=n:=by omega
   have RE:=hid RO.out;rw [List.take_of_length_le (by rw [HN.out];exact Nat.le_refl _)] at RE;clear RO
   go_wp2_with fail
   go_ret
   exact ⟨⟨_,rfl,RE.out⟩,BL.out⟩
theorem behind_calls (rb:Nat) (l:List SR) (A:Option Addr) (c:Nat) (obj nm wd:ByteArray) (w:World) (hr:w.cell? ⟨rb,0,none⟩=some (.slice A l.length c)) (hC:Kd.C kRow w A l.length l) (hl:l.length<=1000) :
  Calls Tryz.prog 67 #[.pointer (some ⟨rb,0,none⟩),.string obj,.string nm,.string wd] w fun e w'=>(∃ v,e=.returned v/\Kd.R (Kd.fixed kRow w) 60 w' w.heap.size (fun _=>True) v (underR l obj nm wd))/\Below w.heap.size w w' :=
 behindz_calls rb l A c obj nm wd w w (Below.refl _ _) hr hC hl
end Go.Proofs.YtmfejjlmflgnbaaGreatDoor.Sc

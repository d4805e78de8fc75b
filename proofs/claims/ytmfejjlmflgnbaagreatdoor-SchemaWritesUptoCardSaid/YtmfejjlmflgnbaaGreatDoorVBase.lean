/- Printed by the kit's print.py (pr.py): what the printed functions share. -/
import Derived.Test.YtmfejjlmflgnbaaGreatDoorProg
import Derived.Below
import Derived.Deep.Draws
import Derived.Deep.AppendLies
import Derived.Maps.AppendAt
import Derived.OwnWalk
import Derived.Laws.BytesArg
import Derived.Laws.MakeOwn
import Derived.Laws.OwnMore
import Derived.Deep.OwnRows
import Derived.Tactics
import Derived.Lib.ConvBytes
import Derived.Laws.Slices
import Derived.WalkKit
import Derived.KernelRfl
import Derived.RowKit3
import Derived.Deep.LoopGhost
import Derived.Deep.QuietTactic
import Derived.BigQuiet
import Derived.WideLaws
import Derived.Deep.DeepCutAuto
import Derived.Deep.CutBlock
import Derived.Deep.RegionHeld3
import Derived.Laws.Rows
import Derived.Lib.AppendStr
import Derived.ArgAppend
import Derived.Laws.IdiomCopy
import Derived.OrdersHeld
import Derived.Laws.BitsLemmas
import Derived.RowKit
import Derived.Test.YtmfejjlmflgnbaaGreatDoorVWords
import Derived.Lib.Hide
import Derived.Laws.Tables
import Derived.Deep.MidRow
import Derived.ChangeAgain
import Derived.Lib.LaidTab
import Derived.Lib.ItoaNum
import Derived.Lib.Strings
set_option linter.unusedVariables false
set_option linter.unusedSimpArgs false
namespace Go.Proofs.YtmfejjlmflgnbaaGreatDoor.PA
open RowKit YtmfejjlmflgnbaaGreatDoorW.PrintWords YtmfejjlmflgnbaaGreatDoorW.PrintLast YtmfejjlmflgnbaaGreatDoorW.PrintMore
attribute [local go_sem] max2_int min2_int max_two min_two max_three min_three max_four min_four   -- for this text's walks alone
structure S41 where
  f0:Int
  f1:Int
  f2:Int
def z41:S41:=⟨(0:Int),(0:Int),(0:Int)⟩
def k41:Kd S41:=Kd.iso (Kd.pair (Kd.int .i64) (Kd.pair (Kd.int .i64) (Kd.int .i64))) (fun x:S41=>(x.f0,x.f1,x.f2))
theorem k41_open {w:World} {x:S41} {cs:List Value} (h:k41.K w x cs):cs=[.int .i64 x.f0,.int .i64 x.f1,.int .i64 x.f2]:=by
  obtain ⟨_,_,rfl,rfl,⟨_,_,rfl,rfl,rfl⟩⟩:=h;exact rfl
theorem k41_openM {w:World} {base:Nat} {ok:Nat->Prop} {x:S41} {cs:List Value} (h:k41.M w base ok x cs):cs=[.int .i64 x.f0,.int .i64 x.f1,.int .i64 x.f2]:=by
  obtain ⟨_,_,rfl,rfl,⟨_,_,rfl,rfl,rfl⟩⟩:=h;exact rfl
theorem k41_mk (w:World) (x:S41) :k41.K w x [.int .i64 x.f0,.int .i64 x.f1,.int .i64 x.f2]:=⟨[.int .i64 x.f0],[.int .i64 x.f1,.int .i64 x.f2],rfl,rfl,⟨[.int .i64 x.f1],[.int .i64 x.f2],rfl,rfl,rfl⟩⟩
theorem k41_mkM (w:World) (base:Nat) (ok:Nat->Prop) (x:S41) :k41.M w base ok x [.int .i64 x.f0,.int .i64 x.f1,.int .i64 x.f2]:=⟨[.int .i64 x.f0],[.int .i64 x.f1,.int .i64 x.f2],rfl,rfl,⟨[.int .i64 x.f1],[.int .i64 x.f2],rfl,rfl,rfl⟩⟩
structure S48 where
  f0:Int
  f1:ByteArray
  f2:Int
  f3:Bool
def z48:S48:=⟨(0:Int),(⟨#[]⟩:ByteArray),(0:Int),false⟩
def k48:Kd S48:=Kd.iso (Kd.pair (Kd.int .i64) (Kd.pair Kd.string (Kd.pair (Kd.int .u32) Kd.bool))) (fun x:S48=>(x.f0,x.f1,x.f2,x.f3))
theorem k48_open {w:World} {x:S48} {cs:List Value} (h:k48.K w x cs):cs=[.int .i64 x.f0,.string x.f1,.int .u32 x.f2,.bool x.f3]:=by
  obtain ⟨_,_,rfl,rfl,⟨_,_,rfl,rfl,⟨_,_,rfl,rfl,rfl⟩⟩⟩:=h;exact rfl
theorem k48_mkM (w:World) (base:Nat) (ok:Nat->Prop) (x:S48) :k48.M w base ok x [.int .i64 x.f0,.string x.f1,.int .u32 x.f2,.bool x.f3]:=⟨[.int .i64 x.f0],[.string x.f1,.int .u32 x.f2,.bool x.f3],rfl,rfl,⟨[.string x.f1],[.int .u32 x.f2,.bool x.f3],rfl,rfl,⟨[.int .u32 x.f2],[.bool x.f3],rfl,rfl,rfl⟩⟩⟩
structure S50 where
  f0:ByteArray
  f1:S41
  f2:S48
  f3:Bool
  f4:(List S50)
  f5:Bool
  f6:ByteArray
def z50:S50:=⟨(⟨#[]⟩:ByteArray),z41,z48,false,([]:List S50),false,(⟨#[]⟩:ByteArray)⟩
def F50 (d:Kd S50):Kd S50:=Kd.iso (Kd.pair Kd.string (Kd.pair k41 (Kd.pair k48 (Kd.pair Kd.bool (Kd.pair (Kd.slice 50 d) (Kd.pair Kd.bool Kd.string)))))) (fun x:S50=>(x.f0,x.f1,x.f2,x.f3,x.f4,x.f5,x.f6))
theorem mono50:Kd.Mono F50:=Kd.mono_iso _ (Kd.mono_pair (Kd.mono_const _) (Kd.mono_pair (Kd.mono_const _) (Kd.mono_pair (Kd.mono_const _) (Kd.mono_pair (Kd.mono_const _) (Kd.mono_pair (Kd.mono_slice 50 Kd.mono_id) (Kd.mono_pair (Kd.mono_const _) (Kd.mono_const _)))))))
theorem sub50:Kd.Sub F50 [50]:=Kd.sub_iso _ (Kd.sub_pair (Kd.sub_const _ (by decide)) (Kd.sub_pair (Kd.sub_const _ (by decide)) (Kd.sub_pair (Kd.sub_const _ (by decide)) (Kd.sub_pair (Kd.sub_const _ (by decide)) (Kd.sub_pair (Kd.sub_slice 50 (by decide) Kd.sub_id) (Kd.sub_pair (Kd.sub_const _ (by decide)) (Kd.sub_const _ (by decide))))))))
theorem sz50:∀ n,(Kd.upto F50 12 [50] n).sz=12:=Kd.upto_sz (fun _=>rfl)
def k50:Kd S50:=Kd.fix F50 12 [50] sz50 (Kd.upto_E sub50)
theorem k50_open {w:World} {x:S50} {cs:List Value} (h:k50.K w x cs):∃ A9 c9,cs=[.string x.f0,.int .i64 x.f1.f0,.int .i64 x.f1.f1,.int .i64 x.f1.f2,.int .i64 x.f2.f0,.string x.f2.f1,.int .u32 x.f2.f2,.bool x.f2.f3,.bool x.f3,.slice A9 x.f4.length c9,.bool x.f5,.string x.f6]/\x.f4.length<=c9/\k50.C w A9 x.f4.length x.f4:=by
  obtain ⟨n,h⟩:=h;cases n with
  | zero=>exact h.elim
  | succ n =>
    obtain ⟨_,_,rfl,rfl,⟨_,_,rfl,s1,⟨_,_,rfl,s4,⟨_,_,rfl,rfl,⟨_,_,rfl,⟨A9,c9,rfl,l9,g9⟩,⟨_,_,rfl,rfl,rfl⟩⟩⟩⟩⟩⟩:=h;obtain rfl:=k41_open s1;obtain rfl:=k48_open s4;exact ⟨A9,c9,rfl,l9,Kd.fix_C g9⟩
theorem k50_mkM (w:World) (base:Nat) (ok:Nat->Prop) (x:S50) {v9:Value} (g9:k50.R 50 w base ok v9 x.f4):k50.M w base ok x [.string x.f0,.int .i64 x.f1.f0,.int .i64 x.f1.f1,.int .i64 x.f1.f2,.int .i64 x.f2.f0,.string x.f2.f1,.int .u32 x.f2.f2,.bool x.f2.f3,.bool x.f3,v9,.bool x.f5,.string x.f6]:=by
  obtain ⟨n9,q9⟩:=Kd.fix_R_back mono50 g9;have r9:=Kd.upto_R_le mono50 sz50 (show n9<=n9 by omega) q9;exact ⟨n9 + 1,⟨[.string x.f0],[.int .i64 x.f1.f0,.int .i64 x.f1.f1,.int .i64 x.f1.f2,.int .i64 x.f2.f0,.string x.f2.f1,.int .u32 x.f2.f2,.bool x.f2.f3,.bool x.f3,v9,.bool x.f5,.string x.f6],rfl,rfl,⟨[.int .i64 x.f1.f0,.int .i64 x.f1.f1,.int .i64 x.f1.f2],[.int .i64 x.f2.f0,.string x.f2.f1,.int .u32 x.f2.f2,.bool x.f2.f3,.bool x.f3,v9,.bool x.f5,.string x.f6],rfl,(k41_mkM w base ok x.f1 ),⟨[.int .i64 x.f2.f0,.string x.f2.f1,.int .u32 x.f2.f2,.bool x.f2.f3],[.bool x.f3,v9,.bool x.f5,.string x.f6],rfl,(k48_mkM w base ok x.f2 ),⟨[.bool x.f3],[v9,.bool x.f5,.string x.f6],rfl,rfl,⟨[v9],[.bool x.f5,.string x.f6],rfl,⟨v9,rfl,r9⟩,⟨[.bool x.f5],[.string x.f6],rfl,rfl,rfl⟩⟩⟩⟩⟩⟩⟩
def rd_T50 (xs:List S50) (i:Int):S50:=xs.getD i.toNat z50
theorem at_T50 {w:World} {A:Option Addr} {n:Nat} {xs:List S50} (h:Kd.C k50 w A n xs) (i:Int) (h0:0<=i) (h1:i<n):∃ ad A9 c9,A=some ad/\w.cell? (ad.add (i.toNat*12))=some (.string (rd_T50 xs i).f0)/\w.cell? ⟨(ad.add (i.toNat*12)).block,(ad.add (i.toNat*12)).off + 1,none⟩=some (.int .i64 (rd_T50 xs i).f1.f0)/\w.cell? ⟨(ad.add (i.toNat*12)).block,(ad.add (i.toNat*12)).off + 2,none⟩=some (.int .i64 (rd_T50 xs i).f1.f1)/\w.cell? ⟨(ad.add (i.toNat*12)).block,(ad.add (i.toNat*12)).off + 3,none⟩=some (.int .i64 (rd_T50 xs i).f1.f2)/\w.cell? ⟨(ad.add (i.toNat*12)).block,(ad.add (i.toNat*12)).off + 4,none⟩=some (.int .i64 (rd_T50 xs i).f2.f0)/\w.cell? ⟨(ad.add (i.toNat*12)).block,(ad.add (i.toNat*12)).off + 5,none⟩=some (.string (rd_T50 xs i).f2.f1)/\w.cell? ⟨(ad.add (i.toNat*12)).block,(ad.add (i.toNat*12)).off + 6,none⟩=some (.int .u32 (rd_T50 xs i).f2.f2)/\w.cell? ⟨(ad.add (i.toNat*12)).block,(ad.add (i.toNat*12)).off + 7,none⟩=some (.bool (rd_T50 xs i).f2.f3)/\w.cell? ⟨(ad.add (i.toNat*12)).block,(ad.add (i.toNat*12)).off + 8,none⟩=some (.bool (rd_T50 xs i).f3)/\w.cell? ⟨(ad.add (i.toNat*12)).block,(ad.add (i.toNat*12)).off + 9,none⟩=some (.slice A9 (rd_T50 xs i).f4.length c9)/\w.cell? ⟨(ad.add (i.toNat*12)).block,(ad.add (i.toNat*12)).off + 10,none⟩=some (.bool (rd_T50 xs i).f5)/\w.cell? ⟨(ad.add (i.toNat*12)).block,(ad.add (i.toNat*12)).off + 11,none⟩=some (.string (rd_T50 xs i).f6)/\(rd_T50 xs i).f4.length<=c9/\k50.C w A9 (rd_T50 xs i).f4.length (rd_T50 xs i).f4:=by
  obtain ⟨ad,c,e,_,hK,hc0⟩:=Kd.C_get h z50 i h0 h1;have hc:∀ j u,c[j]?=some u->w.cell? (ad.add (i.toNat*12 + j))=some u:=hc0;obtain ⟨A9,c9,rfl,l9,g9⟩:=k50_open hK;exact ⟨ad,A9,c9,e,hc 0 _ rfl,by rw [<- add_field _ _ 1 (by omega)];exact hc 1 _ rfl,by rw [<- add_field _ _ 2 (by omega)];exact hc 2 _ rfl,by rw [<- add_field _ _ 3 (by omega)];exact hc 3 _ rfl,by rw [<- add_field _ _ 4 (by omega)];exact hc 4 _ rfl,by rw [<- add_field _ _ 5 (by omega)];exact hc 5 _ rfl,by rw [<- add_field _ _ 6 (by omega)];exact hc 6 _ rfl,by rw [<- add_field _ _ 7 (by omega)];exact hc 7 _ rfl,by rw [<- add_field _ _ 8 (by omega)];exact hc 8 _ rfl,by rw [<- add_field _ _ 9 (by omega)];exact hc 9 _ rfl,by rw [<- add_field _ _ 10 (by omega)];exact hc 10 _ rfl,by rw [<- add_field _ _ 11 (by omega)];exact hc 11 _ rfl,l9,g9⟩
structure S44 where
  f0:ByteArray
  f1:ByteArray
  f2:S41
  f3:(List S50)
  f4:Bool
  f5:ByteArray
def z44:S44:=⟨(⟨#[]⟩:ByteArray),(⟨#[]⟩:ByteArray),z41,([]:List S50),false,(⟨#[]⟩:ByteArray)⟩
def k44:Kd S44:=Kd.iso (Kd.pair Kd.string (Kd.pair Kd.string (Kd.pair k41 (Kd.pair (Kd.slice 50 k50) (Kd.pair Kd.bool Kd.string))))) (fun x:S44=>(x.f0,x.f1,x.f2,x.f3,x.f4,x.f5))
theorem k44_open {w:World} {x:S44} {cs:List Value} (h:k44.K w x cs):∃ A5 c5,cs=[.string x.f0,.string x.f1,.int .i64 x.f2.f0,.int .i64 x.f2.f1,.int .i64 x.f2.f2,.slice A5 x.f3.length c5,.bool x.f4,.string x.f5]/\x.f3.length<=c5/\k50.C w A5 x.f3.length x.f3:=by
  obtain ⟨_,_,rfl,rfl,⟨_,_,rfl,rfl,⟨_,_,rfl,s2,⟨_,_,rfl,⟨A5,c5,rfl,l5,g5⟩,⟨_,_,rfl,rfl,rfl⟩⟩⟩⟩⟩:=h;obtain rfl:=k41_open s2;exact ⟨A5,c5,rfl,l5,g5⟩
theorem k44_mkM (w:World) (base:Nat) (ok:Nat->Prop) (x:S44) {v5:Value} (g5:k50.R 50 w base ok v5 x.f3):k44.M w base ok x [.string x.f0,.string x.f1,.int .i64 x.f2.f0,.int .i64 x.f2.f1,.int .i64 x.f2.f2,v5,.bool x.f4,.string x.f5]:=⟨[.string x.f0],[.string x.f1,.int .i64 x.f2.f0,.int .i64 x.f2.f1,.int .i64 x.f2.f2,v5,.bool x.f4,.string x.f5],rfl,rfl,⟨[.string x.f1],[.int .i64 x.f2.f0,.int .i64 x.f2.f1,.int .i64 x.f2.f2,v5,.bool x.f4,.string x.f5],rfl,rfl,⟨[.int .i64 x.f2.f0,.int .i64 x.f2.f1,.int .i64 x.f2.f2],[v5,.bool x.f4,.string x.f5],rfl,(k41_mkM w base ok x.f2 ),⟨[v5],[.bool x.f4,.string x.f5],rfl,⟨v5,rfl,g5⟩,⟨[.bool x.f4],[.string x.f5],rfl,rfl,rfl⟩⟩⟩⟩⟩
def rd_T44 (xs:List S44) (i:Int):S44:=xs.getD i.toNat z44
theorem at_T44 {w:World} {A:Option Addr} {n:Nat} {xs:List S44} (h:Kd.C k44 w A n xs) (i:Int) (h0:0<=i) (h1:i<n):∃ ad A5 c5,A=some ad/\w.cell? (ad.add (i.toNat*8))=some (.string (rd_T44 xs i).f0)/\w.cell? ⟨(ad.add (i.toNat*8)).block,(ad.add (i.toNat*8)).off + 1,none⟩=some (.string (rd_T44 xs i).f1)/\w.cell? ⟨(ad.add (i.toNat*8)).block,(ad.add (i.toNat*8)).off + 2,none⟩=some (.int .i64 (rd_T44 xs i).f2.f0)/\w.cell? ⟨(ad.add (i.toNat*8)).block,(ad.add (i.toNat*8)).off + 3,none⟩=some (.int .i64 (rd_T44 xs i).f2.f1)/\w.cell? ⟨(ad.add (i.toNat*8)).block,(ad.add (i.toNat*8)).off + 4,none⟩=some (.int .i64 (rd_T44 xs i).f2.f2)/\w.cell? ⟨(ad.add (i.toNat*8)).block,(ad.add (i.toNat*8)).off + 5,none⟩=some (.slice A5 (rd_T44 xs i).f3.length c5)/\w.cell? ⟨(ad.add (i.toNat*8)).block,(ad.add (i.toNat*8)).off + 6,none⟩=some (.bool (rd_T44 xs i).f4)/\w.cell? ⟨(ad.add (i.toNat*8)).block,(ad.add (i.toNat*8)).off + 7,none⟩=some (.string (rd_T44 xs i).f5)/\(rd_T44 xs i).f3.length<=c5/\k50.C w A5 (rd_T44 xs i).f3.length (rd_T44 xs i).f3:=by
  obtain ⟨ad,c,e,_,hK,hc0⟩:=Kd.C_get h z44 i h0 h1;have hc:∀ j u,c[j]?=some u->w.cell? (ad.add (i.toNat*8 + j))=some u:=hc0;obtain ⟨A5,c5,rfl,l5,g5⟩:=k44_open hK;exact ⟨ad,A5,c5,e,hc 0 _ rfl,by rw [<- add_field _ _ 1 (by omega)];exact hc 1 _ rfl,by rw [<- add_field _ _ 2 (by omega)];exact hc 2 _ rfl,by rw [<- add_field _ _ 3 (by omega)];exact hc 3 _ rfl,by rw [<- add_field _ _ 4 (by omega)];exact hc 4 _ rfl,by rw [<- add_field _ _ 5 (by omega)];exact hc 5 _ rfl,by rw [<- add_field _ _ 6 (by omega)];exact hc 6 _ rfl,by rw [<- add_field _ _ 7 (by omega)];exact hc 7 _ rfl,l5,g5⟩
end Go.Proofs.YtmfejjlmflgnbaaGreatDoor.PA
namespace Go.Proofs.YtmfejjlmflgnbaaGreatDoor.Sp
abbrev Bs:=List UInt8
def blankB (c:UInt8):Bool:=c == 32||c == 9||c == 10||c == 13
def digitB (c:UInt8):Bool:=decide (48<=c.toNat)&&decide (c.toNat<=57)
def letterB (c:UInt8):Bool:=decide (65<=c.toNat)&&decide (c.toNat<=90)||decide (97<=c.toNat)&&decide (c.toNat<=122)||c == 95
def partB (c:UInt8):Bool:=letterB c||digitB c
def plainB (c:UInt8):Bool:=decide (32<=c.toNat)&&decide (c.toNat<=126)
inductive Gap where
 | ends (n:Nat)
 | open_ (n:Nat)
def gap:Nat->Nat->Nat->Bs->Gap
 | 0,_,n,[]=>.ends n
 | 1,_,n,[]=>.ends n
 | _ + 2,st,_,[]=>.open_ st
 | 0,st,n,c :: r =>
  if blankB c then gap 0 st (n + 1) r
  else if c=47 then
   match r with
   | []=>.ends n
   | d :: r'=>if d=47 then gap 1 st (n + 2) r' else if d=42 then gap 2 n (n + 2) r' else .ends n
  else .ends n
 | 1,st,n,c :: r=>if c=10 then gap 0 st (n + 1) r else gap 1 st (n + 1) r
 | m + 2,st,n,c :: r =>
  match r with
  | []=>.open_ st
  | d :: r'=>if c=42/\d=47 then gap 0 st (n + 2) r' else gap (m + 2) st (n + 1) (d :: r')
def wordLen (l:Bs):Nat:=(l.takeWhile partB).length
def digitVal (c:UInt8):Nat :=
 if digitB c then c.toNat - 48 else if 97<=c.toNat/\c.toNat<=102 then c.toNat - 87 else if 65<=c.toNat/\c.toNat<=70 then c.toNat - 55 else 99
def numVal (base:Nat):Nat->Bs->Option Nat
 | v,[]=>some v
 | v,c :: r=>if digitVal c<base then (if v*base + digitVal c<=4294967295 then numVal base (v*base + digitVal c) r else none) else none
def numL (l:Bs):Option (Nat × Bool) :=
 match l with
 | []=>none
 | c :: r =>
  match r with
  | []=>(numVal 10 0 l).map fun v=>(v,false)
  | x :: r' =>
   if c=48 then (if x=120∨x=88 then (if r'=[] then none else (numVal 16 0 r').map fun v=>(v,true)) else none)
   else (numVal 10 0 l).map fun v=>(v,false)
structure Tok where
 kind:Nat
 text:Bs
 val:Nat
 hex:Bool
deriving DecidableEq
def qstr:Bs->Nat->Bs->Except (Nat × Nat) (Bs × Nat)
 | _,_,[]=>.error (22,0)
 | acc,n,c :: r =>
  if c=34 then (if acc.length > 255 then .error (24,0) else .ok (acc,n + 1))
  else if plainB c=false then .error (22,n)
  else if c=92 then
   match r with
   | []=>.error (22,n)
   | d :: r'=>if d=34∨d=92 then qstr (acc++[d]) (n + 2) r' else .error (22,n)
  else qstr (acc++[c]) (n + 1) r
def markK (c:UInt8):Nat:=if c=123 then 4 else if c=125 then 5 else if c=61 then 6 else if c=59 then 7 else if c=58 then 8 else 0
def tok1:Bs->Except (Nat × Nat) (Tok × Nat)
 | []=>.error (20,0)
 | c :: r =>
  if letterB c then (if wordLen (c :: r) > 63 then .error (24,0) else .ok (⟨1,(c :: r).take (wordLen (c :: r)),0,false⟩,wordLen (c :: r)))
  else if digitB c then
   match numL ((c :: r).take (wordLen (c :: r))) with
   | none=>.error (21,0)
   | some (v,h)=>.ok (⟨2,[],v,h⟩,wordLen (c :: r))
  else if c=34 then
   match qstr [] 1 r with
   | .error e=>.error e
   | .ok (s,n)=>.ok (⟨3,s,0,false⟩,n)
  else if markK c≠0 then .ok (⟨markK c,[],0,false⟩,1)
  else .error (20,0)
def nameB (s:Bs):Bool:=decide (0<s.length)&&decide (s.length<=63)&&letterB (s.headD 0)&&s.all partB
def stringB (s:Bs):Bool:=s.all plainB&&decide (s.length<=255)
def decF:Nat->Nat->Bs->Bs
 | 0,_,acc=>acc
 | f + 1,v,acc=>if v<10 then UInt8.ofNat (48 + v) :: acc else decF f (v / 10) (UInt8.ofNat (48 + v % 10) :: acc)
def decT (v:Nat):Bs:=decF 40 v []
def hexDigit (d:Nat):UInt8:=if d<10 then UInt8.ofNat (48 + d) else UInt8.ofNat (55 + d)
def hexF:Nat->Nat->Bs->Bs
 | 0,_,acc=>acc
 | f + 1,v,acc=>if v<16 then hexDigit v :: acc else hexF f (v / 16) (hexDigit (v % 16) :: acc)
def hexL (v:Nat):Bs:=48 :: 120 :: hexF 40 v []
def escT:Bs->Bs
 | []=>[]
 | c :: r=>if c=34∨c=92 then 92 :: c :: escT r else c :: escT r
def quoteT (s:Bs):Bs:=34 :: (escT s++[34])
def markC (k:Nat):UInt8:=if k=4 then 123 else if k=5 then 125 else if k=6 then 61 else if k=7 then 59 else 58
def spellT (k:Int) (text:Bs) (v:Nat) (h:Bool):Option Bs :=
 if k=1 then (if v=0/\h=false/\nameB text=true then some text else none)
 else if k=2 then (if text=[] then (if h then some (hexL v) else some (decT v)) else none)
 else if k=3 then (if v=0/\h=false/\stringB text=true then some (quoteT text) else none)
 else if k=0 then (if v=0/\h=false/\text=[] then some [] else none)
 else if 4<=k/\k<=8 then (if v=0/\h=false/\text=[] then some [markC k.toNat] else none)
 else none
end Go.Proofs.YtmfejjlmflgnbaaGreatDoor.Sp
namespace Go.Proofs.YtmfejjlmflgnbaaGreatDoor.Tr
open RowKit PA YtmfejjlmflgnbaaGreatDoorW.PrintWords Sp
abbrev SV:=S48
abbrev SA:=S50
abbrev SO:=S44
structure ST where
 f0:ByteArray
 f1:ByteArray
 f2:List S44
 f3:Bool
 f4:ByteArray
abbrev SP:=S41
def bs (s:ByteArray):Bs:=s.data.toList
def sameP (a b:SP):Bool:=a.f0 == b.f0&&a.f1 == b.f1&&a.f2 == b.f2
end Go.Proofs.YtmfejjlmflgnbaaGreatDoor.Tr
namespace Go.Proofs.YtmfejjlmflgnbaaGreatDoor.Tok
open RowKit PA YtmfejjlmflgnbaaGreatDoorW.PrintWords YtmfejjlmflgnbaaGreatDoorW.PrintLast
open Lib (hid)
def plainC (c:UInt8):Bool:=decide (32<=c.toNat/\c.toNat<=126)
def plainS (s:ByteArray):Bool:=s.data.toList.all plainC
theorem plainS_of (s:ByteArray) (h:∀ (j:Nat) (hj:j<s.size),plainC (s[j]'hj)=true):plainS s=true:=by
 unfold plainS;rw [List.all_eq_true];intro c hc;obtain ⟨j,hj,rfl⟩:=List.mem_iff_getElem.1 hc;exact h j (by simpa using hj)
theorem plainS_not (s:ByteArray) (j:Nat) (hj:j<s.size) (h:plainC (s[j]'hj)=false):plainS s=false:=by
 rw [Bool.eq_false_iff];intro hp;unfold plainS at hp;rw [List.all_eq_true] at hp;have:=hp (s[j]'hj) (List.mem_iff_getElem.2 ⟨j,by simpa using hj,rfl⟩);rw [h] at this;cases this
structure PlainTo (s:ByteArray) (pos:Nat):Prop where mk :: (out:∀ (j:Nat) (hj:j<s.size),j<pos->plainC (s[j]'hj)=true)
theorem PlainTo.step {s:ByteArray} {pos:Nat} (h:PlainTo s pos) (hp:pos<s.size) (hc:plainC (s[pos]'hp)=true):PlainTo s (pos + 1) :=
 ⟨fun j hj hlt=>by
  rcases Nat.lt_or_ge j pos with h1 | h1
  ·exact h.out j hj h1
  ·have:j=pos:=by omega
   subst this
   exact hc⟩
def PlainPost (s:ByteArray) (w:World) (e:Ending) (w':World):Prop:=e=.returned (.bool (plainS s))/\Below w.heap.size w w'
set_option maxHeartbeats 1000000 in
theorem plain_calls (s:ByteArray) (w:World) (hs:s.size<=9223372036854775807):Calls Tryz.prog 129 #[.string s] w (PlainPost s w):=by
 go_enter Tryz.func129,Tryz.ntmps129
 go_wp2
 go_loopw [4] (fun v wr=>∃ pos:Nat,pos<=s.size/\wr=w.iter s pos/\PlainTo s pos) (fun v wr=>s.size - wr.iterPos w.heap.size)
 case atStart=>exact ⟨0,Nat.zero_le _,rfl,⟨fun j hj h=>by omega⟩⟩
 case round =>
  obtain ⟨pos,hle,rfl,HP⟩:=hrel;have hB:∀ p,Below w.heap.size w (w.iter s p):=fun p=>(Below.refl _ _).alloc (Nat.le_refl _) _
  by_cases hp:pos<s.size
  ·have hnx:∀ ty,(Instr.next (.pointer (some ⟨w.heap.size,0,none⟩)) true ty).run Tryz.prog (w.iter s pos)=_:=fun ty=>run_next_any w s pos ty hp
   by_cases hasc:(s[pos]'hp).toNat<128
   ·rw [decode_ascii s pos hp hasc] at hnx
    by_cases h1:(s[pos]'hp).toNat<32
    ·have hc:=plainS_not s pos hp (by unfold plainC;rw [decide_eq_false_iff_not];omega)
     have H:=hid hc;clear hc;have hd:decide ((((s[pos]'hp).toNat:Nat):Int)<32)=true:=by rw [decide_eq_true_eq];omega
     go_wp2
     go_ret
     exact ⟨by rw [H.out];rfl,hB _⟩
    ·by_cases h2:126<(s[pos]'hp).toNat
     ·have hc:=plainS_not s pos hp (by unfold plainC;rw [decide_eq_false_iff_not];omega)
      have H:=hid hc;clear hc;have hd:decide ((((s[pos]'hp).toNat:Nat):Int)<32)=false:=by rw [decide_eq_false_iff_not];omega
      have hd2:decide (126<(((s[pos]'hp).toNat:Nat):Int))=true:=by rw [decide_eq_true_eq];omega
      go_wp2
      go_ret
      exact ⟨by rw [H.out];rfl,hB _⟩
     ·have hc:plainC (s[pos]'hp)=true:=by unfold plainC;rw [decide_eq_true_eq];omega
      have HP1:=HP.step hp hc;clear hc HP;have hd:decide ((((s[pos]'hp).toNat:Nat):Int)<32)=false:=by rw [decide_eq_false_iff_not];omega
      have hd2:decide (126<(((s[pos]'hp).toNat:Nat):Int))=false:=by rw [decide_eq_false_iff_not];omega
      go_wp2
      go_roundw
      case rel=>exact ⟨pos + 1,by omega,rfl,HP1⟩
      case measure=>simp;omega
   ·have hhi:=(decode_high s pos hp (by omega)).1
    have hc:=plainS_not s pos hp (by unfold plainC;rw [decide_eq_false_iff_not];omega);have H:=hid hc;clear hc;have hd:decide (((Utf8.decode s pos).1:Int)<32)=false:=by rw [decide_eq_false_iff_not];omega
    have hd2:decide (126<((Utf8.decode s pos).1:Int))=true:=by rw [decide_eq_true_eq];omega
    clear hhi
    go_wp2
    go_ret
    exact ⟨by rw [H.out];rfl,hB _⟩
  ·have hnx:∀ ty,(Instr.next (.pointer (some ⟨w.heap.size,0,none⟩)) true ty).run Tryz.prog (w.iter s pos)=_:=fun ty=>run_next_end w s pos ty hp
   have hc:=plainS_of s fun j hj=>HP.out j hj (by omega);have H:=hid hc;clear hc HP
   go_wp2
   go_ret
   exact ⟨by rw [H.out];rfl,hB _⟩
def marksV:Value:=.agg #[.int .u8 123,.int .i64 4,.int .u8 125,.int .i64 5,.int .u8 61,.int .i64 6,.int .u8 59,.int .i64 7,.int .u8 58,.int .i64 8]
def MarksPost (w:World) (e:Ending) (w':World):Prop:=e=.returned marksV/\Below w.heap.size w w'
theorem marks_calls (w:World):Calls Tryz.prog 132 #[] w (MarksPost w):=by
 go_enter Tryz.func132,Tryz.ntmps132
 go_wp2
 refine bodyPost_ret (v:=marksV) (by simp [results,Tryz.results132,go_sem,marksV]) rfl ⟨rfl,?_⟩
 exact (Below.refl _ _).alloc (Nat.le_refl _) _
end Go.Proofs.YtmfejjlmflgnbaaGreatDoor.Tok
namespace Go.Proofs.YtmfejjlmflgnbaaGreatDoor.Tok
open RowKit YtmfejjlmflgnbaaGreatDoorW.PrintWords
section
variable {P:Program} {ops:Array Oper} {rest:List Oper} {o:Oper} {a:Act} {w:World} {Q:Exit->Act->World->Prop}
theorem setRow_other (w:World) (g k:Nat) (cs:Array Value) (h:k≠g):(w.setRow g cs).heap[k]?=w.heap[k]?:=by
 unfold World.setRow;simp only;rw [Array.getElem?_modify];rw [if_neg (fun e=>h e.symm)]
theorem setRow_size (w:World) (g:Nat) (cs:Array Value):(w.setRow g cs).heap.size=w.heap.size:=by
 unfold World.setRow;simp
theorem setRow_below (w:World) (g B:Nat) (cs:Array Value) (h:B<=g):Below B w (w.setRow g cs) :=
 ⟨rfl,rfl,rfl,by rw [setRow_size];exact Nat.le_refl _,fun i hi=>setRow_other w g i cs (by omega)⟩
theorem put_event (hgd:o.guard=none) (ty:TypeId) (x y:Operand) (ho:o.op=.store ty x y)
  (g:Nat) (cells:Array Value) (hx:a.eval x=.pointer (some ⟨g,0,none⟩)) (hy:a.eval y=.agg cells)
  (t:TypeId) (old:Array Value) (hg:w.heap[g]?=some (.cells old t (0,0))) (hi:(P.info? ty).map (·.size)=some cells.size)
  (hold:old.size=cells.size) (h1:cells.all (·.oneCell')=true) (B:Nat) (hB:B<=g)
  (h:∀ w1,w1.heap[g]?=some (.cells cells t (0,0))->Below B w w1->w1.heap.size=w.heap.size->(∀ k,k≠g->w1.heap[k]?=w.heap[k]?)->wpList P ops Q rest (a.put o.dst undef) w1):wpList P ops Q (o :: rest) a w :=
 wpList_store_row hgd ty x y ho g cells hx hy t old hg hi hold h1 (h _ (setRow_heap w g old cells t (0,0) hg) (setRow_below w g B cells hB) (setRow_size w g cells) (fun k hk=>setRow_other w g k cells hk))
theorem run_event (hgd:o.guard=none) (op:Op) (ho:o.op=op) (v:Value) (w':World) (hrun:(execOp a.eval o).run P w=.ok (.value v) w')
  (h:∀ w1,w1=w'->wpList P ops Q rest (a.put o.dst v) w1):wpList P ops Q (o :: rest) a w:=by
 refine wpList_plain hgd fun K hK=>?_
 unfold Oper.wp;rw [hrun,Oper.upon_value];exact hK _ _ (h _ rfl)
theorem cell_event (hgd:o.guard=none) (ty:TypeId) (x y:Operand) (ho:o.op=.store ty x y)
  (b off:Nat) (v:Value) (hx:a.eval x=.pointer (some ⟨b,off,none⟩)) (hy:a.eval y=v) (h1:v.oneCell'=true)
  (ht:w.there b off 1) (hi:(P.info? ty).map (·.size)=some 1) (B:Nat) (hB:B<=b)
  (h:∀ w1,w1=w.setCells b off [v]->Below B w w1->w1.heap.size=w.heap.size->wpList P ops Q rest (a.put o.dst undef) w1):wpList P ops Q (o :: rest) a w:=by
 obtain ⟨h2,h3⟩:=ht 0 (by omega);obtain ⟨old,hold⟩:=Option.isSome_iff_exists.1 h2
 refine wpList_plain hgd fun K hK=>?_
 unfold Oper.wp execOp;have hc:v.cells=#[v]:=by cases v <;> first | rfl | cases h1
 have hrun:(storeVar ty ⟨b,off,none⟩ v).run P w=.ok () (w.setCell ⟨b,off,none⟩ v):=by
  have:=run_storeCells_cells (P:=P) b off [v] 0 w (fun j hj=>by simp at hj;subst hj;simpa using h2) (fun j hj=>by simp at hj;subst hj;simpa using h3) (fun x hx=>by simp at hx;subst hx;exact h1);cases hq:P.info? ty with
  | none=>simp [hq] at hi
  | some i =>
   have hs:i.size=1:=by simpa [hq] using hi
   simp only [Nat.add_zero] at this;simp [storeVar,sizeOf,typeInfo,hq,hc,hs,this,World.setCells]
 simp only [ho,hx,hy,Instr.storeAt,Instr.sureAddr,Sem.run_bind,Sem.run_pure,Result.andThen_ok,hrun];exact hK _ _ (h _ rfl ((Below.refl B w).setCell (p:=⟨b,off,none⟩) hB v) (by simp [World.setCell]))
end
open Go.Proofs.YtmfejjlmflgnbaaGreatDoor.Sp
def ints (l:Bs):List Int:=l.map fun c=>(c.toNat:Int)
theorem ints_len (l:Bs):(ints l).length=l.length:=by simp [ints]
theorem str_ints (l:Bs):strOfNums (ints l)=⟨l.toArray⟩:=by
 unfold strOfNums ints;rw [List.map_map]
 congr 2
 conv=>rhs;rw [<- List.map_id l]
 apply List.map_congr_left
 intro c _;simp
end Go.Proofs.YtmfejjlmflgnbaaGreatDoor.Tok
namespace Go.Proofs.YtmfejjlmflgnbaaGreatDoor.Tok
open RowKit
structure Glob (w:World):Prop where
 shaped:w.ShapedOpen Tryz.prog
 pow : Lib.TabIs Tryz.prog w "internal/strconv.uint64pow10" .u64 Lib.pow10Tab
 db:w.cell? ⟨14,15,none⟩=some (.int .u8 4)
 errt:w.cell? ⟨4,0,none⟩=some (.iface 226 (.agg #[.pointer (some ⟨15,84,none⟩)]))
theorem var_below {w w':World} {name:String} {cs:Array Value} (h:w.var? Tryz.prog name=some cs) (hB:Below w.heap.size w w'):w'.var? Tryz.prog name=some cs:=by
 unfold World.var? at h ⊢;cases hg:Tryz.prog.globalNamed name with
 | none=>simp [hg] at h
 | some g =>
  simp only [hg,Option.bind_some] at h ⊢
  have hlt:g<w.heap.size:=by
   rcases Nat.lt_or_ge g w.heap.size with h' | h'
   ·exact h'
   ·simp [Array.getElem?_eq_none h'] at h
  rw [hB.block g hlt];exact h
theorem cell_below {w w':World} {g j:Nat} {v:Value} (h:w.cell? ⟨g,j,none⟩=some v) (hB:Below w.heap.size w w'):w'.cell? ⟨g,j,none⟩=some v:=by
 rw [hB.cell]
 ·exact h
 ·rcases Nat.lt_or_ge g w.heap.size with h' | h'
  ·exact h'
  ·simp [World.cell?,Array.getElem?_eq_none h'] at h
theorem Glob.below {w w':World} (h:Glob w) (hB:Below w.heap.size w w'):Glob w' where
 shaped:=h.shaped.keptBut (hB.frame fun _=>False) (fun _ h=>h.elim)
 pow:=var_below h.pow hB
 db:=cell_below h.db hB
 errt:=cell_below h.errt hB
open PA YtmfejjlmflgnbaaGreatDoorW.PrintWords YtmfejjlmflgnbaaGreatDoorW.PrintLast Sp
def tokCells (k o l c:Int) (t:ByteArray) (v:Int) (h:Bool):Array Value:=#[.int .i64 k,.int .i64 o,.int .i64 l,.int .i64 c,.string t,.int .u32 v,.bool h]
def tokV (k o l c:Int) (t:ByteArray) (v:Int) (h:Bool):Value:=.agg (tokCells k o l c t v h)
end Go.Proofs.YtmfejjlmflgnbaaGreatDoor.Tok

/- OPENING A SHEET: what the form says of an argument of type api.Sheet gives a sheet, its rows of items and entries, and their sizes. -/
import Derived.Test.YtmfejjlmflgnbaaGreatDoorVScTo
import Derived.Test.YtmfejjlmflgnbaaGreatDoorVScWx
set_option linter.unusedVariables false
set_option linter.unusedSimpArgs false
set_option maxRecDepth 100000
namespace Go.Proofs.YtmfejjlmflgnbaaGreatDoor.Sc
open Go.ChangeShapes Go.WideShapes Go.ChangeAt RowKit PA YtmfejjlmflgnbaaGreatDoorW.PrintWords YtmfejjlmflgnbaaGreatDoorW.PrintLast Tr Tok
def wtE (e:SE):Nat:=szE e + wdE e
theorem wtE_sum:∀ l:List SE,(l.map wtE).sum=szEs l + wdL l
 | []=>by simp [szEs,wdL]
 | a :: r=>by
  have:=wtE_sum r;simp only [List.map_cons,List.sum_cons,szEs,wdL,wtE] at this ⊢;omega
def wtI (i:SI):Nat:=szEs i.ents + wdL i.ents + 1
def wtIs (l:List SI):Nat:=(l.map wtI).sum
theorem wtIs_len:∀ l:List SI,l.length<=wtIs l
 | []=>by simp
 | o :: l=>by
  have:=wtIs_len l;simp only [wtIs,List.map_cons,List.sum_cons,List.length_cons,wtI] at this ⊢;omega
theorem wtIs_mem:∀ (l:List SI) (o:SI),o ∈ l->wtI o<=wtIs l
 | p :: l,o,h=>by
  simp only [wtIs,List.map_cons,List.sum_cons];rcases List.mem_cons.1 h with rfl | h
  ·omega
  ·have:=wtIs_mem l o h
   unfold wtIs at this;omega
theorem cells_ent:Tryz.prog.cellsOf 80=8:=by kernel_rfl
theorem cells_ents:Tryz.prog.cellsOf 76=1:=by kernel_rfl
theorem cells_item:Tryz.prog.cellsOf 78=6:=by kernel_rfl
theorem cells_items:Tryz.prog.cellsOf 62=1:=by kernel_rfl
theorem cells_sheet:Tryz.prog.cellsOf 64=2:=by kernel_rfl
theorem open_ent {H:Type} {enc:TypeId × Value->H} {W:World} {base:Nat} {sp:Nat->Bool} {held:Bool}:∀ (fuel:Nat) (cs:List Value) (x:DataW H × List MemPlace),
  DataW.trod enc Tryz.prog W base sp held fuel 80 cs=some x->∃ e:SE,kEnt.K W e cs/\True/\wtE e<=Rows.uptoBulk x.1:=by
 intro fuel
 induction fuel using Nat.strongRecOn with
 | ind fuel ih =>
  intro cs x hf;obtain ⟨xs,n,rfl,rfl,hl,hn,hg⟩:=DataW.trod_struct Tryz.underlying80 hf;rw [cells_ent] at hl;have hn6:xs.length=6:=hn
  match cs,hl with
  | [c0,c1,c2,c3,c4,c5,c6,c7],_ =>
   match xs,hn6 with
   | [x0,x1,x2,x3,x4,x5],_ =>
    have g0:=hg 0 _ rfl;have g1:=hg 1 _ rfl;have g2:=hg 2 _ rfl;have g3:=hg 3 _ rfl;have g4:=hg 4 _ rfl;have g5:=hg 5 _ rfl;clear hg;simp only [cells_str,cells_at,cells_num,cells_bool,cells_ents,List.drop_zero,List.drop_succ_cons,List.take_succ_cons,List.take_zero,List.getElem?_cons_zero,List.getElem?_cons_succ] at g0 g1 g2 g3 g4 g5;obtain ⟨nm,e0,rfl,_⟩:=DataW.trod_string Tryz.underlying9 g0;obtain ⟨so,sl,sc,e1,rfl⟩:=open_at g1;obtain ⟨v,e2,rfl,wv⟩:=DataW.trod_int Tryz.underlying46 g2;obtain ⟨br,e3,rfl⟩:=DataW.trod_bool Tryz.underlying4 g3;obtain ⟨wd,e4,rfl,_⟩:=DataW.trod_string Tryz.underlying9 g4;obtain ⟨A,c,l,e5,hlc,hC,hR,hw⟩:=open_row kEnt wtE (fun _=>True) 80 76 Tryz.underlying76 (by rw [cells_ent];rfl) g5 (fun m hm cs y hy=>ih m (by omega) cs y hy);cases e0;cases e1;cases e2;cases e3;cases e4;cases e5
    refine ⟨⟨nm,⟨so,sl,sc⟩,v,br,wd,l⟩,kEnt_mk W ⟨nm,⟨so,sl,sc⟩,v,br,wd,l⟩ hlc hC,trivial,?_⟩
    have e:=str_len nm;have e':=str_len wd;rw [wtE_sum] at hw;simp only [wtE,szE,wdE,List.map_cons,List.map_nil,Rows.uptoBulk,Rows.uptoBulkAll];omega
theorem open_item {H:Type} {enc:TypeId × Value->H} {W:World} {base:Nat} {sp:Nat->Bool} {held:Bool} {fuel:Nat} {cs:List Value} {x:DataW H × List MemPlace}
  (hf:DataW.trod enc Tryz.prog W base sp held fuel 78 cs=some x):∃ o:SI,kItem.K W o cs/\True/\wtI o<=Rows.uptoBulk x.1:=by
 obtain ⟨xs,n,rfl,rfl,hl,hn,hg⟩:=DataW.trod_struct Tryz.underlying78 hf;rw [cells_item] at hl;have hn4:xs.length=4:=hn
 match cs,hl with
 | [c0,c1,c2,c3,c4,c5],_ =>
  match xs,hn4 with
  | [x0,x1,x2,x3],_ =>
   have g0:=hg 0 _ rfl;have g1:=hg 1 _ rfl;have g2:=hg 2 _ rfl;have g3:=hg 3 _ rfl;clear hg;simp only [cells_str,cells_at,cells_ents,List.drop_zero,List.drop_succ_cons,List.take_succ_cons,List.take_zero,List.getElem?_cons_zero,List.getElem?_cons_succ] at g0 g1 g2 g3;obtain ⟨kd,e0,rfl,_⟩:=DataW.trod_string Tryz.underlying9 g0;obtain ⟨nm,e1,rfl,_⟩:=DataW.trod_string Tryz.underlying9 g1;obtain ⟨so,sl,sc,e2,rfl⟩:=open_at g2;obtain ⟨A,c,l,e3,hlc,hC,hR,hw⟩:=open_row kEnt wtE (fun _=>True) 80 76 Tryz.underlying76 (by rw [cells_ent];rfl) g3 (fun m hm cs y hy=>open_ent m cs y hy);cases e0;cases e1;cases e2;cases e3
   refine ⟨⟨kd,nm,⟨so,sl,sc⟩,l⟩,kItem_mk W ⟨kd,nm,⟨so,sl,sc⟩,l⟩ hlc hC,trivial,?_⟩
   rw [wtE_sum] at hw;simp only [wtI,List.map_cons,List.map_nil,Rows.uptoBulk,Rows.uptoBulkAll];omega
theorem list2 {α:Type} (l:List α) (h:l.length=2):∃ a b,l=[a,b]:=by
 match l,h with
 | [a,b],_=>exact ⟨a,b,rfl⟩
theorem open_sheetV {H:Type} {enc:TypeId × Value->H} {W:World} {v:Value} {d:DataW H} {p:List MemPlace} {sp:Nat->Bool} {held:Bool} {base base':Nat}
  (hv:Value.okWide Tryz.prog W .any base' 64 v) (h:DataW.Trod enc Tryz.prog W base sp held 64 v d p) :
  ∃ (s:SS) (A:Option Addr) (c:Nat),v=.agg (shC s.cpu (.slice A s.items.length c))/\Kd.C kItem W A s.items.length s.items/\wtIs s.items<=Rows.uptoBulk d:=by
 obtain ⟨cs,rfl,hsz⟩:=okWide_struct Tryz.underlying64 hv;obtain ⟨fuel,hf⟩:=h;obtain ⟨xs,n,rfl,he,hl,hn,hg⟩:=DataW.trod_struct Tryz.underlying64 hf;have hD:d=.agg (xs.map (·.1)):=congrArg Prod.fst he;rw [cells_sheet] at hl;have hn2:xs.length=2:=hn;have hcs:(Value.agg cs).cells.toList=cs.toList:=rfl;rw [hcs] at hl hg;obtain ⟨cl,rfl⟩:∃ l:List Value,cs=l.toArray:=⟨cs.toList,by simp⟩;have ecl:cl.toArray.toList=cl:=by simp
 rw [ecl] at hl hg;obtain ⟨c0,c1,rfl⟩:=list2 cl hl;obtain ⟨x0,x1,rfl⟩:=list2 xs hn2;have g0:=hg 0 _ rfl;have g1:=hg 1 _ rfl;clear hg;simp only [List.getElem_toArray,List.getElem_cons_zero,List.getElem_cons_succ,cells_str,cells_items,List.drop_zero,List.drop_succ_cons,List.take_succ_cons,List.take_zero,List.getElem?_cons_zero,List.getElem?_cons_succ] at g0 g1;obtain ⟨cp,e0,rfl,_⟩:=DataW.trod_string Tryz.underlying9 g0;obtain ⟨A,c,l,e1,hlc,hC,hR,hw⟩:=open_row kItem wtI (fun _=>True) 78 62 Tryz.underlying62 (by rw [cells_item];rfl) g1 (fun m hm cs y hy=>open_item hy);cases e0;cases e1
 refine ⟨⟨cp,l⟩,A,c,rfl,hC,?_⟩
 subst hD;simp only [wtIs,List.map_cons,List.map_nil,Rows.uptoBulk,Rows.uptoBulkAll];omega
theorem sheetV_sz (s:SS) (hw:wtIs s.items<=1048576):∀ i ∈ s.items,szEs i.ents<=1048576/\wdL i.ents<=1048576:=fun i hi=>by
 have h1:=wtIs_mem s.items i hi;unfold wtI at h1;omega
theorem sheetV_len (s:SS) (hw:wtIs s.items<=1048576):s.items.length<=1048576:=Nat.le_trans (wtIs_len s.items) hw
end Go.Proofs.YtmfejjlmflgnbaaGreatDoor.Sc

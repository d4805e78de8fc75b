/- WHAT heads() ASKS, by the spec: a tree of a task and an event is read, written, and read with a fault. -/
import Derived.Test.YtmfejjlmflgnbaaGreatDoorZScWr
namespace Go.Proofs.YtmfejjlmflgnbaaGreatDoor.Sc
open Go.RowKit Go.Proofs.YtmfejjlmflgnbaaGreatDoor.PA Go.Proofs.YtmfejjlmflgnbaaGreatDoorW.PrintWords Go.Proofs.YtmfejjlmflgnbaaGreatDoorW.PrintLast Go.Proofs.YtmfejjlmflgnbaaGreatDoor.Sp Go.Proofs.YtmfejjlmflgnbaaGreatDoor.Tr Go.Proofs.YtmfejjlmflgnbaaGreatDoor.Tok
set_option linter.unusedVariables false
set_option linter.unusedSimpArgs false
set_option maxRecDepth 100000
def tH (p:Int):ST:=(⟨⟨#[]⟩,(⟨#[99]⟩:ByteArray),[⟨(⟨#[84,65,83,75]⟩:ByteArray),(⟨#[116]⟩:ByteArray),z41,[(⟨(⟨#[83,67,72,69,68,85,76,69]⟩:ByteArray),z41,⟨1,(⟨#[70,85,76,76]⟩:ByteArray),0,false⟩,false,[],false,⟨#[]⟩⟩:SA),(⟨(⟨#[80,82,73,79,82,73,84,89]⟩:ByteArray),z41,⟨2,(⟨#[]⟩:ByteArray),p,false⟩,false,[],false,⟨#[]⟩⟩:SA),(⟨(⟨#[65,67,84,73,86,65,84,73,79,78]⟩:ByteArray),z41,⟨2,(⟨#[]⟩:ByteArray),1,false⟩,false,[],false,⟨#[]⟩⟩:SA),(⟨(⟨#[65,85,84,79,83,84,65,82,84]⟩:ByteArray),z41,⟨1,(⟨#[70,65,76,83,69]⟩:ByteArray),0,false⟩,false,[],false,⟨#[]⟩⟩:SA)],false,⟨#[]⟩⟩,⟨(⟨#[69,86,69,78,84]⟩:ByteArray),(⟨#[101]⟩:ByteArray),z41,[],false,⟨#[]⟩⟩],false,⟨#[]⟩⟩:ST)
def sH:SS:=(⟨(⟨#[99]⟩:ByteArray),[⟨(⟨#[84,65,83,75]⟩:ByteArray),(⟨#[116]⟩:ByteArray),z41,[(⟨(⟨#[80,82,73,79,82,73,84,89]⟩:ByteArray),z41,2,false,(⟨#[]⟩:ByteArray),[]⟩:SE),(⟨(⟨#[83,67,72,69,68,85,76,69]⟩:ByteArray),z41,0,false,(⟨#[70,85,76,76]⟩:ByteArray),[]⟩:SE),(⟨(⟨#[65,67,84,73,86,65,84,73,79,78]⟩:ByteArray),z41,1,false,(⟨#[]⟩:ByteArray),[]⟩:SE),(⟨(⟨#[65,85,84,79,83,84,65,82,84]⟩:ByteArray),z41,0,false,(⟨#[70,65,76,83,69]⟩:ByteArray),[]⟩:SE)]⟩,⟨(⟨#[69,86,69,78,84]⟩:ByteArray),(⟨#[101]⟩:ByteArray),z41,[(⟨(⟨#[77,65,83,75]⟩:ByteArray),z41,0,true,(⟨#[]⟩:ByteArray),[]⟩:SE)]⟩]⟩:SS)
theorem tH_reads:readT (tH 2)=.ok sH:=by kernel_rfl
theorem tH_fails:readT (tH 64)=.error ⟨53,z41,(⟨#[80,82,73,79,82,73,84,89]⟩:ByteArray)⟩:=by kernel_rfl
theorem sH_writes:writeS sH=some (layT sH):=by kernel_rfl
abbrev attW (n:ByteArray) (k:Int) (v:ByteArray) (m:Int):Array Value:=#[.string n,.int .i64 0,.int .i64 0,.int .i64 0,.int .i64 k,.string v,.int .u32 m,.bool false,.bool false,.slice none 0 0,.bool false,.string ⟨#[]⟩]
theorem lword_calls (n v:ByteArray) (w:World):Calls Tryz.prog 63 #[.string n,.string v] w fun e w'=>e=.returned (.agg (attW n 1 v 0))∧Below w.heap.size w w':=by
 have tk1:True:=trivial
 go_enter Tryz.func63,Tryz.ntmps63
 go_wp2_with (first
  | (have _t:=tk1;refine run_event rfl (.alloc 50) rfl (.pointer (some ⟨w.heap.size,0,none⟩)) (w.alloc (.cells att0 50)) (by kernel_rfl) ?_;intro w1 hw1;have B1:Hid (Below w.heap.size w w1):=Lib.hid (by rw [hw1];exact alloc_below _ _);have E1:Hid (w1.heap[w.heap.size]?=some (.cells att0 50 (0,0))):=Lib.hid (by rw [hw1];exact heap_alloc_new _ _);clear hw1 tk1 _t)
  | ((with_reducible refine gate_store (t:=50) (p:=4) rfl ?_);refine put_event rfl 50 _ _ rfl w.heap.size (attW n 1 v 0) rfl rfl 50 att0 E1.out (by kernel_rfl) rfl (by simp [Value.oneCell']) w.heap.size (Nat.le_refl _) ?_;intro w2 hb2 hB2 hs2 ho2;have E2:=Lib.hid hb2;have B2:Hid (Below w.heap.size w w2):=Lib.hid (B1.out.trans hB2);clear hb2 hB2 hs2 ho2))
 have hz:=E2.out
 exact bodyPost_ret (results_single (r:=.cell 4 50) rfl (.cell w.heap.size 50 (attW n 1 v 0) (0,0) _ rfl hz Tryz.underlying50 rfl (by kernel_rfl) .nil)) rfl ⟨rfl,B2.out⟩
theorem lnumber_calls (n:ByteArray) (m:Int) (w:World):Calls Tryz.prog 64 #[.string n,.int .u32 m] w fun e w'=>e=.returned (.agg (attW n 2 ⟨#[]⟩ m))∧Below w.heap.size w w':=by
 have tk1:True:=trivial
 go_enter Tryz.func64,Tryz.ntmps64
 go_wp2_with (first
  | (have _t:=tk1;refine run_event rfl (.alloc 50) rfl (.pointer (some ⟨w.heap.size,0,none⟩)) (w.alloc (.cells att0 50)) (by kernel_rfl) ?_;intro w1 hw1;have B1:Hid (Below w.heap.size w w1):=Lib.hid (by rw [hw1];exact alloc_below _ _);have E1:Hid (w1.heap[w.heap.size]?=some (.cells att0 50 (0,0))):=Lib.hid (by rw [hw1];exact heap_alloc_new _ _);clear hw1 tk1 _t)
  | ((with_reducible refine gate_store (t:=50) (p:=4) rfl ?_);refine put_event rfl 50 _ _ rfl w.heap.size (attW n 2 ⟨#[]⟩ m) rfl rfl 50 att0 E1.out (by kernel_rfl) rfl (by simp [Value.oneCell']) w.heap.size (Nat.le_refl _) ?_;intro w2 hb2 hB2 hs2 ho2;have E2:=Lib.hid hb2;have B2:Hid (Below w.heap.size w w2):=Lib.hid (B1.out.trans hB2);clear hb2 hB2 hs2 ho2))
 have hz:=E2.out
 exact bodyPost_ret (results_single (r:=.cell 4 50) rfl (.cell w.heap.size 50 (attW n 2 ⟨#[]⟩ m) (0,0) _ rfl hz Tryz.underlying50 rfl (by kernel_rfl) .nil)) rfl ⟨rfl,B2.out⟩
end Go.Proofs.YtmfejjlmflgnbaaGreatDoor.Sc
/- CONTRACT: heads(), of the laws of layer 5: it answers true. -/
namespace Go.Proofs.YtmfejjlmflgnbaaGreatDoor.Sc
open Go.RowKit Go.Proofs.YtmfejjlmflgnbaaGreatDoor.PA Go.Proofs.YtmfejjlmflgnbaaGreatDoorW.PrintWords Go.Proofs.YtmfejjlmflgnbaaGreatDoorW.PrintLast Go.Proofs.YtmfejjlmflgnbaaGreatDoor.Sp Go.Proofs.YtmfejjlmflgnbaaGreatDoor.Tr Go.Proofs.YtmfejjlmflgnbaaGreatDoor.Tok
set_option linter.unusedVariables false
set_option linter.unusedSimpArgs false
set_option maxRecDepth 100000
theorem R_at {α:Type} (d:Kd α) {w:World} {g e B:Nat} {xs:List α} {inner:List Value} {ok okp:Nat→Prop} (hg:w.heap[g]?=some (.cells inner.toArray e (0,0))) (hrep:Reps (d.M w B okp) d.sz xs inner) (hok:∀ k,okp k→ok k∧k≠g) (hgo:ok g) (hB:B≤g) (hm:xs.length≤9223372036854775807) :
  d.R e w B ok (.slice (some ⟨g,0,none⟩) xs.length xs.length) xs:=by
 refine ⟨fun k hk=>?_,inner,⟨by simpa using hrep.1,.inr ⟨g,xs.length,inner.toArray,rfl,hB,hg,Nat.le_refl _,by simpa [maxLen] using hm,by simpa using hrep.1,by rw [List.toList_toArray];exact List.take_of_length_le (by rw [hrep.1];exact Nat.le_refl _)⟩⟩,hrep.imp_ (fun p c hp=>d.M_mono (fun k hk=>⟨(hok k hk).1,fun he=>?_⟩) hp)⟩
 ·have:g=k:=by simpa [Value.ownBlock] using hk
  subst this
  exact hgo
 ·have h3:k=g:=by simpa [Value.ownBlock] using he
  exact (hok k hk).2 h3
def attsOf (p:Int):List SA:=[(⟨(⟨#[83,67,72,69,68,85,76,69]⟩:ByteArray),z41,⟨1,(⟨#[70,85,76,76]⟩:ByteArray),0,false⟩,false,[],false,⟨#[]⟩⟩:SA),(⟨(⟨#[80,82,73,79,82,73,84,89]⟩:ByteArray),z41,⟨2,(⟨#[]⟩:ByteArray),p,false⟩,false,[],false,⟨#[]⟩⟩:SA),(⟨(⟨#[65,67,84,73,86,65,84,73,79,78]⟩:ByteArray),z41,⟨2,(⟨#[]⟩:ByteArray),1,false⟩,false,[],false,⟨#[]⟩⟩:SA),(⟨(⟨#[65,85,84,79,83,84,65,82,84]⟩:ByteArray),z41,⟨1,(⟨#[70,65,76,83,69]⟩:ByteArray),0,false⟩,false,[],false,⟨#[]⟩⟩:SA)]
def attsC (p:Int):List Value:=[.string (⟨#[83,67,72,69,68,85,76,69]⟩:ByteArray),.int .i64 0,.int .i64 0,.int .i64 0,.int .i64 1,.string (⟨#[70,85,76,76]⟩:ByteArray),.int .u32 0,.bool false,.bool false,.slice none 0 0,.bool false,.string ⟨#[]⟩,.string (⟨#[80,82,73,79,82,73,84,89]⟩:ByteArray),.int .i64 0,.int .i64 0,.int .i64 0,.int .i64 2,.string (⟨#[]⟩:ByteArray),.int .u32 p,.bool false,.bool false,.slice none 0 0,.bool false,.string ⟨#[]⟩,.string (⟨#[65,67,84,73,86,65,84,73,79,78]⟩:ByteArray),.int .i64 0,.int .i64 0,.int .i64 0,.int .i64 2,.string (⟨#[]⟩:ByteArray),.int .u32 1,.bool false,.bool false,.slice none 0 0,.bool false,.string ⟨#[]⟩,.string (⟨#[65,85,84,79,83,84,65,82,84]⟩:ByteArray),.int .i64 0,.int .i64 0,.int .i64 0,.int .i64 1,.string (⟨#[70,65,76,83,69]⟩:ByteArray),.int .u32 0,.bool false,.bool false,.slice none 0 0,.bool false,.string ⟨#[]⟩]
def objsC (g:Nat):List Value:=[.string (⟨#[84,65,83,75]⟩:ByteArray),.string (⟨#[116]⟩:ByteArray),.int .i64 0,.int .i64 0,.int .i64 0,.slice (some ⟨g,0,none⟩) 4 4,.bool false,.string ⟨#[]⟩,.string (⟨#[69,86,69,78,84]⟩:ByteArray),.string (⟨#[101]⟩:ByteArray),.int .i64 0,.int .i64 0,.int .i64 0,.slice none 0 0,.bool false,.string ⟨#[]⟩]
theorem att_reps (p:Int) (w:World) (B:Nat) (ok:Nat→Prop):Reps (k50.M w B ok) 12 (attsOf p) (attsC p) :=
 reps_cons (c:=[.string (⟨#[83,67,72,69,68,85,76,69]⟩:ByteArray),.int .i64 0,.int .i64 0,.int .i64 0,.int .i64 1,.string (⟨#[70,85,76,76]⟩:ByteArray),.int .u32 0,.bool false,.bool false,.slice none 0 0,.bool false,.string ⟨#[]⟩]) (reps_cons (c:=[.string (⟨#[80,82,73,79,82,73,84,89]⟩:ByteArray),.int .i64 0,.int .i64 0,.int .i64 0,.int .i64 2,.string (⟨#[]⟩:ByteArray),.int .u32 p,.bool false,.bool false,.slice none 0 0,.bool false,.string ⟨#[]⟩]) (reps_cons (c:=[.string (⟨#[65,67,84,73,86,65,84,73,79,78]⟩:ByteArray),.int .i64 0,.int .i64 0,.int .i64 0,.int .i64 2,.string (⟨#[]⟩:ByteArray),.int .u32 1,.bool false,.bool false,.slice none 0 0,.bool false,.string ⟨#[]⟩]) (reps_cons (c:=[.string (⟨#[65,85,84,79,83,84,65,82,84]⟩:ByteArray),.int .i64 0,.int .i64 0,.int .i64 0,.int .i64 1,.string (⟨#[70,65,76,83,69]⟩:ByteArray),.int .u32 0,.bool false,.bool false,.slice none 0 0,.bool false,.string ⟨#[]⟩]) (Reps.none _ _) (k50_mkM w B ok (⟨(⟨#[65,85,84,79,83,84,65,82,84]⟩:ByteArray),z41,⟨1,(⟨#[70,65,76,83,69]⟩:ByteArray),0,false⟩,false,[],false,⟨#[]⟩⟩:SA) (Kd.R_nil _ _ _ _ _)) rfl) (k50_mkM w B ok (⟨(⟨#[65,67,84,73,86,65,84,73,79,78]⟩:ByteArray),z41,⟨2,(⟨#[]⟩:ByteArray),1,false⟩,false,[],false,⟨#[]⟩⟩:SA) (Kd.R_nil _ _ _ _ _)) rfl) (k50_mkM w B ok (⟨(⟨#[80,82,73,79,82,73,84,89]⟩:ByteArray),z41,⟨2,(⟨#[]⟩:ByteArray),p,false⟩,false,[],false,⟨#[]⟩⟩:SA) (Kd.R_nil _ _ _ _ _)) rfl) (k50_mkM w B ok (⟨(⟨#[83,67,72,69,68,85,76,69]⟩:ByteArray),z41,⟨1,(⟨#[70,85,76,76]⟩:ByteArray),0,false⟩,false,[],false,⟨#[]⟩⟩:SA) (Kd.R_nil _ _ _ _ _)) rfl
theorem obj_reps (p:Int) (w:World) (B g:Nat) (ok:Nat→Prop) (hA:Kd.R k50 50 w B ok (.slice (some ⟨g,0,none⟩) 4 4) (attsOf p)):Reps (k44.M w B ok) 8 (tH p).f2 (objsC g) :=
 reps_cons (c:=[.string (⟨#[84,65,83,75]⟩:ByteArray),.string (⟨#[116]⟩:ByteArray),.int .i64 0,.int .i64 0,.int .i64 0,.slice (some ⟨g,0,none⟩) 4 4,.bool false,.string ⟨#[]⟩]) (reps_cons (c:=[.string (⟨#[69,86,69,78,84]⟩:ByteArray),.string (⟨#[101]⟩:ByteArray),.int .i64 0,.int .i64 0,.int .i64 0,.slice none 0 0,.bool false,.string ⟨#[]⟩]) (Reps.none _ _) (k44_mkM w B ok (⟨(⟨#[69,86,69,78,84]⟩:ByteArray),(⟨#[101]⟩:ByteArray),z41,[],false,⟨#[]⟩⟩:SO) (Kd.R_nil _ _ _ _ _)) rfl) (k44_mkM w B ok (⟨(⟨#[84,65,83,75]⟩:ByteArray),(⟨#[116]⟩:ByteArray),z41,attsOf p,false,⟨#[]⟩⟩:SO) hA) rfl
theorem tree_C (p:Int) {w:World} {ga go:Nat} (ha:w.heap[ga]?=some (.cells (attsC p).toArray 50 (0,0))) (ho:w.heap[go]?=some (.cells (objsC ga).toArray 44 (0,0))):Kd.C k44 w (some ⟨go,0,none⟩) (tH p).f2.length (tH p).f2:=by
 have hne:ga≠go:=blk_ne ha ho (by decide)
 have hA:Kd.R k50 50 w 0 (fun k=>k=ga) (.slice (some ⟨ga,0,none⟩) (attsOf p).length (attsOf p).length) (attsOf p):=R_at k50 (inner:=attsC p) (okp:=fun _=>False) ha (att_reps p w 0 _) (fun _ h=>h.elim) rfl (Nat.zero_le _) (by show (4:Nat)≤_;decide)
 have hO:Kd.R k44 44 w 0 (fun _=>True) (.slice (some ⟨go,0,none⟩) (tH p).f2.length (tH p).f2.length) (tH p).f2:=R_at k44 (inner:=objsC ga) (okp:=fun k=>k=ga) ho (obj_reps p w 0 ga _ hA) (fun k hk=>⟨trivial,by rw [hk];exact hne⟩) trivial (Nat.zero_le _) (by show (2:Nat)≤_;decide)
 exact (Kd.R_reads' hO).2.2
theorem tree_sz (p:Int):∀ o ∈ (tH p).f2,szL o.f3≤1073741824:=by
 intro o ho
 have h:o=⟨(⟨#[84,65,83,75]⟩:ByteArray),(⟨#[116]⟩:ByteArray),z41,attsOf p,false,⟨#[]⟩⟩∨o=⟨(⟨#[69,86,69,78,84]⟩:ByteArray),(⟨#[101]⟩:ByteArray),z41,[],false,⟨#[]⟩⟩:=by simpa [tH,attsOf] using ho
 rcases h with rfl | rfl
 ·show szL (attsOf p)≤1073741824
  simp [attsOf,szL,szA,ByteArray.size]
 ·simp [szL]
end Go.Proofs.YtmfejjlmflgnbaaGreatDoor.Sc
/- CONTRACT: heads(), of the laws of layer 5: it answers true. -/
namespace Go.Proofs.YtmfejjlmflgnbaaGreatDoor.Sc
open Go.RowKit Go.Proofs.YtmfejjlmflgnbaaGreatDoor.PA Go.Proofs.YtmfejjlmflgnbaaGreatDoorW.PrintWords Go.Proofs.YtmfejjlmflgnbaaGreatDoorW.PrintLast Go.Proofs.YtmfejjlmflgnbaaGreatDoor.Sp Go.Proofs.YtmfejjlmflgnbaaGreatDoor.Tr Go.Proofs.YtmfejjlmflgnbaaGreatDoor.Tok
set_option linter.unusedVariables false
set_option linter.unusedSimpArgs false
set_option maxRecDepth 100000
theorem sheet_sz:∀ i ∈ sH.items,szEs i.ents≤1073741824:=by
 intro i hi
 have h:i=sH.items.getD 0 zItem∨i=sH.items.getD 1 zItem:=by
  unfold sH at hi ⊢
  simpa using hi
 rcases h with rfl | rfl
 ·exact of_decide_eq_true (by kernel_rfl)
 ·exact of_decide_eq_true (by kernel_rfl)
set_option maxHeartbeats 32000000 in
theorem heads_calls (eb:Int→Addr) (w:World) (hG:EGlob eb w) (hGl:Glob w) (hT:w.cell? ⟨4,0,none⟩=some (.iface 226 (.agg #[.pointer (some ⟨15,84,none⟩)]))) :
  Calls Tryz.prog 28 #[] w fun e w'=>e=.returned (.bool true)∧Below w.heap.size w w':=by
 have HG:=Lib.hid hG
 have HGL:=Lib.hid hGl
 have HT:=Lib.hid hT
 clear hG hGl hT
 have tk1:True:=trivial
 go_enter Tryz.func28,Tryz.ntmps28
 go_upto_region 2 with (first
  | (have _t:=tk1;go_at_call 63;refine (lword_calls _ _ _).mono ?_;rintro e w1 ⟨rfl,hB1⟩;have B1:=Lib.hid hB1;clear hB1 tk1 _t;have tk2:True:=trivial)
  | (have _t:=tk2;go_at_call 64;refine (lnumber_calls _ _ _).mono ?_;rintro e w2 ⟨rfl,hB2⟩;have B2:=Lib.hid (B1.out.trans (hB2.mono B1.out.size));clear hB2 tk2 _t;have tk3:True:=trivial)
  | (have _t:=tk3;go_at_call 64;refine (lnumber_calls _ _ _).mono ?_;rintro e w3 ⟨rfl,hB3⟩;have B3:=Lib.hid (B2.out.trans (hB3.mono B2.out.size));clear hB3 tk3 _t;have tk4:True:=trivial)
  | (have _t:=tk4;go_at_call 63;refine (lword_calls _ _ _).mono ?_;rintro e w4 ⟨rfl,hB4⟩;have B4:=Lib.hid (B3.out.trans (hB4.mono B3.out.size));clear hB4 tk4 _t;have tk5:True:=trivial)
  | (have _t:=tk5;refine run_event rfl (.buildSlice 42 4 _) rfl (.slice (some ⟨w4.heap.size,0,none⟩) 4 4) (w4.alloc (.cells (attsC 2).toArray 50)) (by kernel_rfl) ?_;intro w5 hw5;have B5:Hid (Below w4.heap.size w4 w5):=Lib.hid (by rw [hw5];exact alloc_below _ _);have GA5:Hid (w5.heap[w4.heap.size]?=some (.cells (attsC 2).toArray 50 (0,0))):=Lib.hid (by rw [hw5];exact heap_alloc_new _ _);clear hw5 tk5 _t;have tk6:True:=trivial)
  | (have _t:=tk6;refine run_event rfl (.buildSlice 22 2 _) rfl (.slice (some ⟨w5.heap.size,0,none⟩) 2 2) (w5.alloc (.cells (objsC w4.heap.size).toArray 44)) (by kernel_rfl) ?_;intro w6 hw6;have B6:Hid (Below w5.heap.size w5 w6):=Lib.hid (by rw [hw6];exact alloc_below _ _);have GO6:Hid (w6.heap[w5.heap.size]?=some (.cells (objsC w4.heap.size).toArray 44 (0,0))):=Lib.hid (by rw [hw6];exact heap_alloc_new _ _);clear hw6 tk6 _t;have tk7:True:=trivial)
  | (have _t:=tk7;refine run_event rfl (.alloc 24) rfl (.pointer (some ⟨w6.heap.size,0,none⟩)) (w6.alloc (.cells tr0 24)) (by kernel_rfl) ?_;intro w7 hw7;have B7:Hid (Below w6.heap.size w6 w7):=Lib.hid (by rw [hw7];exact alloc_below _ _);have GT7:Hid (w7.heap[w6.heap.size]?=some (.cells tr0 24 (0,0))):=Lib.hid (by rw [hw7];exact heap_alloc_new _ _);clear hw7 tk7 _t)
  | ((with_reducible refine gate_store (t:=24) (p:=1) rfl ?_);refine put_event rfl 24 _ _ rfl w6.heap.size #[.string ⟨#[]⟩,.string (⟨#[99]⟩:ByteArray),.slice (some ⟨w5.heap.size,0,none⟩) 2 2,.bool false,.string ⟨#[]⟩] rfl rfl 24 tr0 GT7.out (by kernel_rfl) rfl (by simp [Value.oneCell']) w6.heap.size (Nat.le_refl _) ?_;intro w8 hb8 hB8 hs8 ho8;have GT:=Lib.hid hb8;have B8:Hid (Below w6.heap.size w6 w8):=Lib.hid (B7.out.trans hB8);clear hb8 hB8 hs8 ho8))
 have HN:Hid (w.heap.size≤w4.heap.size∧w4.heap.size<w5.heap.size∧w5.heap.size<w6.heap.size∧w6.heap.size<w8.heap.size):=Lib.hid ⟨B4.out.size,(Array.getElem?_eq_some_iff.1 GA5.out).1,(Array.getElem?_eq_some_iff.1 GO6.out).1,(Array.getElem?_eq_some_iff.1 GT.out).1⟩
 have GA:=Lib.hid ((B8.out.block _ (by have:=HN.out;omega)).trans ((B6.out.block _ (by have:=HN.out;omega)).trans GA5.out))
 have GO:=Lib.hid ((B8.out.block _ (by have:=HN.out;omega)).trans GO6.out)
 have BW:Hid (Below w.heap.size w w8):=Lib.hid (((B4.out.trans (B5.out.mono B4.out.size)).trans (B6.out.mono (by have:=HN.out;omega))).trans (B8.out.mono (by have:=HN.out;omega)))
 clear B1 B2 B3 B4 B5 B6 B7 B8 GA5 GO6 GT7
 have HRD:Hid (Calls Tryz.prog 29 #[.agg #[.string ⟨#[]⟩,.string (⟨#[99]⟩:ByteArray),.slice (some ⟨w5.heap.size,0,none⟩) 2 2,.bool false,.string ⟨#[]⟩]] w8 (ReadPost (tH 2) w8)):=Lib.hid (read_calls eb (tH 2) (some ⟨w5.heap.size,0,none⟩) 2 w8 (tree_sz 2) (by decide) (tree_C 2 GA.out GO.out) (HG.out.below BW.out) ((BW.out.cell (World.block_lt_of_cell? w _ HT.out)).trans HT.out))
 have c0:w8.cell? ⟨w6.heap.size,0,none⟩=some (.string ⟨#[]⟩):=(cell_row GT.out 0).trans rfl
 have c1:w8.cell? ⟨w6.heap.size,1,none⟩=some (.string (⟨#[99]⟩:ByteArray)):=(cell_row GT.out 1).trans rfl
 have c2:w8.cell? ⟨w6.heap.size,2,none⟩=some (.slice (some ⟨w5.heap.size,0,none⟩) 2 2):=(cell_row GT.out 2).trans rfl
 have c3:w8.cell? ⟨w6.heap.size,3,none⟩=some (.bool false):=(cell_row GT.out 3).trans rfl
 have c4:w8.cell? ⟨w6.heap.size,4,none⟩=some (.string ⟨#[]⟩):=(cell_row GT.out 4).trans rfl
 have tkA:True:=trivial
 have tkB:True:=trivial
 go_upto_region 3 with (first
  | (go_at_call 29;refine HRD.out.mono ?_;rintro e u1 ⟨hB1,hm⟩;rw [tH_reads] at hm;obtain ⟨vI,rfl,hR1⟩:=hm;obtain ⟨ib,ci,hvI,_⟩:=Kd.R_form hR1 (by decide);subst hvI;have B1:=Lib.hid hB1;have R1:=Lib.hid hR1;clear hB1 hR1 c0 c1 c2 c3 c4)
  | (have _t:=tkA;refine run_event rfl (.alloc 64) rfl (.pointer (some ⟨u1.heap.size,0,none⟩)) (u1.alloc (.cells sh0 64)) (by kernel_rfl) ?_;intro u2 hu2;have B2:Hid (Below u1.heap.size u1 u2):=Lib.hid (by rw [hu2];exact alloc_below _ _);have E2:Hid (u2.heap[u1.heap.size]?=some (.cells sh0 64 (0,0))):=Lib.hid (by rw [hu2];exact heap_alloc_new _ _);clear hu2 tkA _t)
  | (have _t:=tkB;refine run_event rfl (.alloc 66) rfl (.pointer (some ⟨u2.heap.size,0,none⟩)) (u2.alloc (.cells fa0 66)) (by kernel_rfl) ?_;intro u3 hu3;have B3:Hid (Below u2.heap.size u2 u3):=Lib.hid (by rw [hu3];exact alloc_below _ _);have E3:Hid (u3.heap[u2.heap.size]?=some (.cells fa0 66 (0,0))):=Lib.hid (by rw [hu3];exact heap_alloc_new _ _);have E23:=Lib.hid ((B3.out.block _ (Array.getElem?_eq_some_iff.1 E2.out).1).trans E2.out);clear hu3 tkB _t)
  | ((with_reducible refine gate_store (t:=64) (p:=2) rfl ?_);refine put_event rfl 64 _ _ rfl u1.heap.size (shC sH.cpu (.slice (some ⟨ib,0,none⟩) sH.items.length ci)) rfl rfl 64 sh0 E23.out (by kernel_rfl) rfl (by simp [Value.oneCell']) u1.heap.size (Nat.le_refl _) ?_;intro u4 hb4 hB4 hs4 ho4;have E4:=Lib.hid hb4;have B4:=Lib.hid hB4;have E34:=Lib.hid ((ho4 u2.heap.size (blk_ne E3.out E23.out (by decide))).trans E3.out);clear hb4 hB4 hs4 ho4)
  | ((with_reducible refine gate_store (t:=66) (p:=3) rfl ?_);refine put_event rfl 66 _ _ rfl u2.heap.size fa0 rfl rfl 66 fa0 E34.out (by kernel_rfl) rfl (by simp [Value.oneCell']) u2.heap.size (Nat.le_refl _) ?_;intro u5 hb5 hB5 hs5 ho5;have F5:=Lib.hid hb5;have B5:=Lib.hid hB5;have S5:=Lib.hid ((ho5 u1.heap.size (blk_ne E4.out E34.out (by decide))).trans E4.out);clear hb5 hB5 hs5 ho5))
 have BU1:Hid (Below u1.heap.size u1 u5):=Lib.hid (((B2.out.trans (B3.out.mono B2.out.size)).trans B4.out).trans (B5.out.mono B2.out.size))
 have BU:Hid (Below w8.heap.size w8 u5):=Lib.hid (B1.out.trans (BU1.out.mono B1.out.size))
 have R5:Hid (Kd.R kItem 78 u5 w8.heap.size (fun _=>True) (.slice (some ⟨ib,0,none⟩) sH.items.length ci) sH.items):=Lib.hid (Kd.R_below R1.out BU1.out)
 have GA5:=Lib.hid ((BU.out.block _ (by have:=HN.out;omega)).trans GA.out)
 have GO5:=Lib.hid ((BU.out.block _ (by have:=HN.out;omega)).trans GO.out)
 have GT5:=Lib.hid ((BU.out.block _ (by have:=HN.out;omega)).trans GT.out)
 have HM:Hid (w8.heap.size≤u1.heap.size∧u1.heap.size≤u5.heap.size):=Lib.hid ⟨B1.out.size,BU1.out.size⟩
 have BW5:Hid (Below w.heap.size w u5):=Lib.hid (BW.out.trans (BU.out.mono BW.out.size))
 clear B1 R1 B2 E2 B3 E3 E23 B4 E4 E34 B5 BU1 GA GO GT BU HRD
 obtain ⟨q0,_,hM0,hc0,_⟩:=Kd.R_elem R5.out zItem 0 (by decide) (by decide)
 obtain ⟨v0,rfl,hE0⟩:=kItem_openM hM0
 obtain ⟨e0,ce0,hv0,_⟩:=Kd.R_form hE0 (by decide)
 subst hv0
 have i0:u5.cell? ⟨ib,5,none⟩=some (.slice (some ⟨e0,0,none⟩) 4 ce0):=hc0 5 _ rfl
 obtain ⟨r0,_,hM2,hc2,_⟩:=Kd.R_elem hE0 zEnt 0 (by decide) (by decide)
 obtain ⟨v2,rfl,_⟩:=kEnt_openM hM2
 have n0:u5.cell? ⟨e0,4,none⟩=some (.int .u32 2):=hc2 4 _ rfl
 obtain ⟨q1,_,hM1,hc1,_⟩:=Kd.R_elem R5.out zItem 1 (by decide) (by decide)
 obtain ⟨v1,rfl,hE1⟩:=kItem_openM hM1
 obtain ⟨e1,ce1,hv1,_⟩:=Kd.R_form hE1 (by decide)
 subst hv1
 have i1:u5.cell? ⟨ib,11,none⟩=some (.slice (some ⟨e1,0,none⟩) 1 ce1):=hc1 5 _ rfl
 obtain ⟨r1,_,hM3,hc3,_⟩:=Kd.R_elem hE1 zEnt 0 (by decide) (by decide)
 obtain ⟨v3,rfl,_⟩:=kEnt_openM hM3
 have n1:u5.cell? ⟨e1,5,none⟩=some (.bool true):=hc3 5 _ rfl
 clear hM0 hc0 hE0 hM2 hc2 hM1 hc1 hE1 hM3 hc3
 have s0:u5.cell? ⟨u1.heap.size,0,none⟩=some (.string sH.cpu):=(cell_row S5.out 0).trans rfl
 have s1:u5.cell? ⟨u1.heap.size,1,none⟩=some (.slice (some ⟨ib,0,none⟩) 2 ci):=(cell_row S5.out 1).trans rfl
 have f0:u5.cell? ⟨u2.heap.size,0,none⟩=some (.int .i64 0):=(cell_row F5.out 0).trans rfl
 have f1:u5.cell? ⟨u2.heap.size,1,none⟩=some (.int .i64 0):=(cell_row F5.out 1).trans rfl
 have f2:u5.cell? ⟨u2.heap.size,2,none⟩=some (.int .i64 0):=(cell_row F5.out 2).trans rfl
 have f3:u5.cell? ⟨u2.heap.size,3,none⟩=some (.int .i64 0):=(cell_row F5.out 3).trans rfl
 have f4:u5.cell? ⟨u2.heap.size,4,none⟩=some (.string ⟨#[]⟩):=(cell_row F5.out 4).trans rfl
 have hNE:∀ W,(binOp .neq 66 (.agg fa0) (.agg fa0)).run Tryz.prog W=.ok (.bool false) W:=fun W=>by kernel_rfl
 have hNE2:∀ W,(binOp .eql 66 (.agg fa0) (.agg fa0)).run Tryz.prog W=.ok (.bool true) W:=fun W=>by kernel_rfl
 go_upto_region 5 with fail
 clear i0 n0 i1 n1 f0 f1 f2 f3 f4 hNE hNE2
 have HWR:Hid (Calls Tryz.prog 32 #[.agg (shC sH.cpu (.slice (some ⟨ib,0,none⟩) 2 ci))] u5 (WritePost sH u5)):=Lib.hid (write_calls eb sH (some ⟨ib,0,none⟩) ci u5 sheet_sz (by decide) (Kd.R_reads' R5.out).2.2 (HG.out.below BW5.out) (HGL.out.below BW5.out) ((BW5.out.cell (World.block_lt_of_cell? w _ HT.out)).trans HT.out))
 have tkC:True:=trivial
 go_upto_region 6 with (first
  | (go_at_call 32;refine HWR.out.mono ?_;rintro e x1 ⟨hB1,hm⟩;rw [sH_writes] at hm;obtain ⟨vO,rfl,hR1⟩:=hm;obtain ⟨ob2,cO,hvO,_⟩:=Kd.R_form hR1 (by decide);subst hvO;have C1:=Lib.hid hB1;clear hB1 hR1 s0 s1)
  | (have _t:=tkC;refine run_event rfl (.alloc 24) rfl (.pointer (some ⟨x1.heap.size,0,none⟩)) (x1.alloc (.cells tr0 24)) (by kernel_rfl) ?_;intro x2 hx2;have C2:Hid (Below x1.heap.size x1 x2):=Lib.hid (by rw [hx2];exact alloc_below _ _);have G2:Hid (x2.heap[x1.heap.size]?=some (.cells tr0 24 (0,0))):=Lib.hid (by rw [hx2];exact heap_alloc_new _ _);clear hx2 tkC _t)
  | ((with_reducible refine gate_store (t:=24) (p:=4) rfl ?_);refine put_event rfl 24 _ _ rfl x1.heap.size (trV sH.cpu (.slice (some ⟨ob2,0,none⟩) (layT sH).f2.length cO)) rfl rfl 24 tr0 G2.out (by kernel_rfl) rfl (by simp [Value.oneCell']) x1.heap.size (Nat.le_refl _) ?_;intro x3 hb3 hB3 hs3 ho3;have G3:=Lib.hid hb3;have C3:Hid (Below x1.heap.size x1 x3):=Lib.hid (C2.out.trans hB3);clear hb3 hB3 hs3 ho3))
 have CU:Hid (Below u5.heap.size u5 x3):=Lib.hid (C1.out.trans (C3.out.mono C1.out.size))
 have HX:Hid (w8.heap.size≤x1.heap.size∧x1.heap.size<x3.heap.size):=Lib.hid ⟨by have:=HM.out;have:=C1.out.size;omega,(Array.getElem?_eq_some_iff.1 G3.out).1⟩
 have GA3:=Lib.hid ((CU.out.block _ (Array.getElem?_eq_some_iff.1 GA5.out).1).trans GA5.out)
 have GO3:=Lib.hid ((CU.out.block _ (Array.getElem?_eq_some_iff.1 GO5.out).1).trans GO5.out)
 have GT3:=Lib.hid ((CU.out.block _ (Array.getElem?_eq_some_iff.1 GT5.out).1).trans GT5.out)
 have BW3:Hid (Below w.heap.size w x3):=Lib.hid (BW5.out.trans (CU.out.mono BW5.out.size))
 clear C1 C2 G2 C3 CU GA5 GO5 GT5 R5 S5 F5 HWR
 have t2:x3.cell? ⟨w6.heap.size,2,none⟩=some (.slice (some ⟨w5.heap.size,0,none⟩) 2 2):=(cell_row GT3.out 2).trans rfl
 have o5:x3.cell? ⟨w5.heap.size,5,none⟩=some (.slice (some ⟨w4.heap.size,0,none⟩) 4 4):=(cell_row GO3.out 5).trans rfl
 go_upto_region 7 with (first
  | ((with_reducible refine gate_store (t:=46) (p:=83) rfl ?_);refine cell_event rfl 46 _ _ rfl w4.heap.size 18 (.int .u32 64) rfl rfl rfl (thereR GA3.out (by simp [attsC])) (by kernel_rfl) w4.heap.size (Nat.le_refl _) ?_;intro x4 hw4 hB4 hs4;obtain ⟨hr4,hk4,hz4⟩:=row1 GA3.out hw4;have GA4:Hid (x4.heap[w4.heap.size]?=some (.cells (attsC 64).toArray 50 (0,0))):=Lib.hid hr4;have K4:=Lib.hid hk4;have Z4:=Lib.hid hz4;have B4:Hid (Below w.heap.size w x4):=Lib.hid (BW3.out.trans (hB4.mono HN.out.1));clear hw4 hr4 hk4 hz4 hB4 hs4 t2 o5))
 have GO4:=Lib.hid ((K4.out w5.heap.size (by have:=HN.out;omega)).trans GO3.out)
 have GT4:=Lib.hid ((K4.out w6.heap.size (by have:=HN.out;omega)).trans GT3.out)
 have G4:=Lib.hid ((K4.out x1.heap.size (by have:=HN.out;have:=HX.out;omega)).trans G3.out)
 clear GA3 GO3 GT3 G3 K4 BW3
 have HRD:Hid (Calls Tryz.prog 29 #[.agg #[.string ⟨#[]⟩,.string (⟨#[99]⟩:ByteArray),.slice (some ⟨w5.heap.size,0,none⟩) 2 2,.bool false,.string ⟨#[]⟩]] x4 (ReadPost (tH 64) x4)):=Lib.hid (read_calls eb (tH 64) (some ⟨w5.heap.size,0,none⟩) 2 x4 (tree_sz 64) (by decide) (tree_C 64 GA4.out GO4.out) (HG.out.below B4.out) ((B4.out.cell (World.block_lt_of_cell? w _ HT.out)).trans HT.out))
 have c0:x4.cell? ⟨w6.heap.size,0,none⟩=some (.string ⟨#[]⟩):=(cell_row GT4.out 0).trans rfl
 have c1:x4.cell? ⟨w6.heap.size,1,none⟩=some (.string (⟨#[99]⟩:ByteArray)):=(cell_row GT4.out 1).trans rfl
 have c2:x4.cell? ⟨w6.heap.size,2,none⟩=some (.slice (some ⟨w5.heap.size,0,none⟩) 2 2):=(cell_row GT4.out 2).trans rfl
 have c3:x4.cell? ⟨w6.heap.size,3,none⟩=some (.bool false):=(cell_row GT4.out 3).trans rfl
 have c4:x4.cell? ⟨w6.heap.size,4,none⟩=some (.string ⟨#[]⟩):=(cell_row GT4.out 4).trans rfl
 have tkA:True:=trivial
 have tkB:True:=trivial
 go_upto_region 8 with (first
  | (go_at_call 29;refine HRD.out.mono ?_;rintro e y1 ⟨hB1,hm⟩;rw [tH_fails] at hm;obtain rfl:=hm;have B1:=Lib.hid hB1;clear hB1 c0 c1 c2 c3 c4)
  | (have _t:=tkA;refine run_event rfl (.alloc 64) rfl (.pointer (some ⟨y1.heap.size,0,none⟩)) (y1.alloc (.cells sh0 64)) (by kernel_rfl) ?_;intro y2 hu2;have B2:Hid (Below y1.heap.size y1 y2):=Lib.hid (by rw [hu2];exact alloc_below _ _);have E2:Hid (y2.heap[y1.heap.size]?=some (.cells sh0 64 (0,0))):=Lib.hid (by rw [hu2];exact heap_alloc_new _ _);clear hu2 tkA _t)
  | (have _t:=tkB;refine run_event rfl (.alloc 66) rfl (.pointer (some ⟨y2.heap.size,0,none⟩)) (y2.alloc (.cells fa0 66)) (by kernel_rfl) ?_;intro y3 hu3;have B3:Hid (Below y2.heap.size y2 y3):=Lib.hid (by rw [hu3];exact alloc_below _ _);have E3:Hid (y3.heap[y2.heap.size]?=some (.cells fa0 66 (0,0))):=Lib.hid (by rw [hu3];exact heap_alloc_new _ _);have E23:=Lib.hid ((B3.out.block _ (Array.getElem?_eq_some_iff.1 E2.out).1).trans E2.out);clear hu3 tkB _t)
  | ((with_reducible refine gate_store (t:=64) (p:=6) rfl ?_);refine put_event rfl 64 _ _ rfl y1.heap.size sh0 rfl rfl 64 sh0 E23.out (by kernel_rfl) rfl (by simp [Value.oneCell']) y1.heap.size (Nat.le_refl _) ?_;intro y4 hb4 hB4 hs4 ho4;have E4:=Lib.hid hb4;have B4y:=Lib.hid hB4;have E34:=Lib.hid ((ho4 y2.heap.size (blk_ne E3.out E23.out (by decide))).trans E3.out);clear hb4 hB4 hs4 ho4)
  | ((with_reducible refine gate_store (t:=66) (p:=7) rfl ?_);refine put_event rfl 66 _ _ rfl y2.heap.size (faC 53 z41 (⟨#[80,82,73,79,82,73,84,89]⟩:ByteArray)) rfl rfl 66 fa0 E34.out (by kernel_rfl) rfl (by simp [Value.oneCell']) y2.heap.size (Nat.le_refl _) ?_;intro y5 hb5 hB5 hs5 ho5;have F5:=Lib.hid hb5;have B5:=Lib.hid hB5;clear hb5 hB5 hs5 ho5))
 have BU:Hid (Below x4.heap.size x4 y5):=Lib.hid (B1.out.trans ((((B2.out.trans (B3.out.mono B2.out.size)).trans B4y.out).trans (B5.out.mono B2.out.size)).mono B1.out.size))
 have G5:=Lib.hid ((BU.out.block _ (Array.getElem?_eq_some_iff.1 G4.out).1).trans G4.out)
 have BE:Hid (Below w.heap.size w y5):=Lib.hid (B4.out.trans (BU.out.mono B4.out.size))
 clear B1 B2 E2 B3 E3 E23 B4y E4 E34 B5 BU
 have k0:y5.cell? ⟨x1.heap.size,0,none⟩=some (.string ver):=(cell_row G5.out 0).trans rfl
 have k2:y5.cell? ⟨x1.heap.size,2,none⟩=some (.slice (some ⟨ob2,0,none⟩) 2 cO):=(cell_row G5.out 2).trans rfl
 have l0:y5.cell? ⟨y2.heap.size,0,none⟩=some (.int .i64 53):=(cell_row F5.out 0).trans rfl
 have l4:y5.cell? ⟨y2.heap.size,4,none⟩=some (.string (⟨#[80,82,73,79,82,73,84,89]⟩:ByteArray)):=(cell_row F5.out 4).trans rfl
 go_wp2_with fail
 go_ret
 exact ⟨rfl,BE.out⟩
end Go.Proofs.YtmfejjlmflgnbaaGreatDoor.Sc

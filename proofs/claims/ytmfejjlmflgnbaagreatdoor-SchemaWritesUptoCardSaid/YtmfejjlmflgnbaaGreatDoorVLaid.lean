/- WHAT THE ROWS OF LAYER 5 LIST: from the listed package-level variables to what the walks ask of them; and a world that holds them (the witness). -/
import Derived.Test.YtmfejjlmflgnbaaGreatDoorCards
import Derived.Test.YtmfejjlmflgnbaaGreatDoorTie
import Derived.Test.YtmfejjlmflgnbaaGreatDoorVVal
import Derived.WalkKit
import Derived.ProofKit
import Derived.OpenShut
import Derived.Deep.DeepHandedRow
import Derived.Deep.DeepWitnessRowRef
import Derived.Lib.LaidTab
import Derived.Lib.LaidIn
import Derived.Lib.LaidCaseMet
import Derived.PinnedBridge
import Derived.LaidHandle
import Derived.Stop.LaidErr
set_option linter.unusedVariables false
set_option linter.unusedSimpArgs false
set_option maxRecDepth 100000
namespace Go.Proofs.YtmfejjlmflgnbaaGreatDoor.Sc
open Go.ChangeShapes Go.WideShapes Go.ChangeAt RowKit Tok
def laidS : List (String × DataW Unit) := [("math/bits.deBruijn32tab", Rows.laid_math_bits_deBruijn32tab), ("math/bits.deBruijn64tab", Rows.laid_math_bits_deBruijn64tab), ("internal/strconv.uint64pow10", Rows.laid_internal_strconv_uint64pow10), ("unicode/utf8.acceptRanges", Rows.laid_unicode_utf8_acceptRanges), ("errors.errorType", Rows.laid_errors_errorType), ("tappet/schema.errObject", Rows.laid_tappet_schema_errObject), ("tappet/schema.errAttr", Rows.laid_tappet_schema_errAttr), ("tappet/schema.errKind", Rows.laid_tappet_schema_errKind), ("tappet/schema.errRange", Rows.laid_tappet_schema_errRange), ("tappet/schema.errMissing", Rows.laid_tappet_schema_errMissing), ("tappet/schema.errRepeated", Rows.laid_tappet_schema_errRepeated), ("tappet/schema.errBraces", Rows.laid_tappet_schema_errBraces), ("unicode.CaseRanges", Rows.laid_unicode_CaseRanges), ("unicode/utf8.first", Rows.laid_unicode_utf8_first)]
def laid13 : List (String × DataW Unit) := [("math/bits.deBruijn32tab", Rows.laid_math_bits_deBruijn32tab), ("math/bits.deBruijn64tab", Rows.laid_math_bits_deBruijn64tab), ("internal/strconv.uint64pow10", Rows.laid_internal_strconv_uint64pow10), ("unicode/utf8.acceptRanges", Rows.laid_unicode_utf8_acceptRanges), ("tappet/schema.errObject", Rows.laid_tappet_schema_errObject), ("tappet/schema.errAttr", Rows.laid_tappet_schema_errAttr), ("tappet/schema.errKind", Rows.laid_tappet_schema_errKind), ("tappet/schema.errRange", Rows.laid_tappet_schema_errRange), ("tappet/schema.errMissing", Rows.laid_tappet_schema_errMissing), ("tappet/schema.errRepeated", Rows.laid_tappet_schema_errRepeated), ("tappet/schema.errBraces", Rows.laid_tappet_schema_errBraces), ("unicode.CaseRanges", Rows.laid_unicode_CaseRanges), ("unicode/utf8.first", Rows.laid_unicode_utf8_first)]
theorem filt_none:(laidS.filter fun x=>x.2.handleName?.isNone)=laid13:=by kernel_rfl
theorem filt_some : (laidS.filter fun x => x.2.handleName?.isSome) = [("errors.errorType", Rows.laid_errors_errorType)] := by kernel_rfl
theorem laid_parts {W : World} (h : laidMetH Tryz.prog laidS W) : laidMet Tryz.prog laid13 W ∧ handlesMet Tryz.prog [("errors.errorType", Rows.laid_errors_errorType)] W := by
 unfold laidMetH at h;rw [filt_some,filt_none] at h;exact h
theorem et_named : Tryz.prog.globalNamed "errors.errorType" = some 4 := by kernel_rfl
theorem rt_type : (Tryz.prog.cutTypes.find? (·.1 == "internal/reflectlite.rtype")).map (·.2) = some 226 := by kernel_rfl
theorem et_row:((List.range Tryz.prog.types.size).filter fun t=>Tryz.prog.rowNamed t [101,114,114,111,114])=[84]:=by kernel_rfl
theorem handle_cell {W : World} (h : handlesMet Tryz.prog [("errors.errorType", Rows.laid_errors_errorType)] W) : W.cell? ⟨4, 0, none⟩ = some (.iface 226 (.agg #[.pointer (some ⟨15, 84, none⟩)])) := by
 obtain ⟨name,u,ty,e1,e2,e3,e4,e5⟩:=h _ (List.mem_singleton.2 rfl);have en:name=[101,114,114,111,114]:=(Option.some.inj e1).symm;subst en;obtain rfl:=Option.some.inj (rt_type.symm.trans e2);have hm:ty ∈ (List.range Tryz.prog.types.size).filter fun t=>Tryz.prog.rowNamed t [101,114,114,111,114]:=List.mem_filter.2 ⟨List.mem_range.2 e3,e4⟩;rw [et_row] at hm;obtain rfl:=List.mem_singleton.1 hm;have hh:typeHandle Tryz.prog 84=.pointer (some ⟨15,84,none⟩):=by kernel_rfl
 rw [hh] at e5
 simpa using World.var?_cell et_named e5 0
def deB64:List Int:=[0,1,56,2,57,49,28,3,61,58,42,50,38,29,17,4,62,47,59,36,45,43,51,22,53,39,33,30,24,18,12,5,63,55,48,27,60,41,37,16,46,35,44,21,52,32,23,11,54,26,40,15,34,20,31,10,25,14,19,9,13,8,7,6]
theorem deB64_eq:(Rows.laid_math_bits_deBruijn64tab:DataW Unit)=Lib.tabData .u8 deB64:=by kernel_rfl
theorem pow10_eq:(Rows.laid_internal_strconv_uint64pow10:DataW Unit)=Lib.tabData .u64 Lib.pow10Tab:=by kernel_rfl
theorem glob_of_laid {W:World} (h:laidMetH Tryz.prog laidS W) (hS:W.ShapedOpen Tryz.prog):Glob W:=by
 obtain ⟨h8,hh⟩:=laid_parts h;have h8' : laidMet Tryz.prog (("math/bits.deBruijn32tab", Rows.laid_math_bits_deBruijn32tab) :: ("math/bits.deBruijn64tab", Rows.laid_math_bits_deBruijn64tab) :: ("internal/strconv.uint64pow10", Rows.laid_internal_strconv_uint64pow10) :: laid13.drop 3) W := h8;have t1:=h8'.tail;rw [deB64_eq] at t1;have t2:=h8'.tail.tail;rw [pow10_eq] at t2
 refine ⟨hS,?_,?_,handle_cell hh⟩
 ·exact Lib.tabIs_of_head (g:=10) (t:=283) (e:=213) (n:=20) (by kernel_rfl) (by kernel_rfl) (by kernel_rfl) (by kernel_rfl) (by kernel_rfl) (by kernel_rfl) t2
 ·exact (Lib.tabIs_of_head (g:=14) (t:=327) (e:=5) (n:=64) (by kernel_rfl) (by kernel_rfl) (by kernel_rfl) (by kernel_rfl) (by kernel_rfl) (by kernel_rfl) t1).cell (by kernel_rfl) 15 (by decide)
theorem err_star : "*" ++ "errors.errorString" = "*errors.errorString" := by decide
theorem err_row (u : TypeId) (h : Tryz.prog.typeName? 3 u = some "*errors.errorString") : u = 341 :=
 typeName_ptr_named (nm := "errors.errorString") (by rw [err_star]; kernel_rfl) (by kernel_rfl) (by decide) u (by rw [err_star]; exact h)
theorem err_cells:Tryz.prog.cellsOf 376=1:=by kernel_rfl
theorem str_cells:Tryz.prog.cellsOf 9=1:=by kernel_rfl
theorem sent_head {n:String} {text:List UInt8} {r:List (String × DataW Unit)} {W:World} {g:Nat}
  (h : laidMet Tryz.prog ((n, .iface "*errors.errorString" (.ptr (.agg [.lit (.string text)]))) :: r) W)
  (hg:Tryz.prog.globalNamed n=some g) (ht:(Tryz.prog.globals[g]?).map (·.type)=some 84) :
  ∃ (a:Addr) (s:ByteArray),W.cell? ⟨g,0,none⟩=some (.iface 341 (.pointer (some a)))/\W.cell? a=some (.string s)/\s.data.toList=text/\∃ c t,W.heap[a.block]?=some (.cells c t (0,0)):=by
 obtain ⟨ps,⟨g0,t0,cs0,f0,p0,q0,hg0,ht0,hv0,hd0,_,e0⟩,_,hrows⟩:=h;obtain rfl:=Option.some.inj (hg.symm.trans hg0);obtain rfl:=Option.some.inj (ht.symm.trans ht0);subst e0;obtain ⟨l0⟩:=cs0
 have ok0:∀ u v,l0=[.iface u v]->Value.okWide Tryz.prog W .any 0 u v:=fun u v e=>by
  subst e;exact (hrows g 0 (by simp [MemPlace.row])).2 u v (by simpa using World.var?_cell hg0 hv0 0)
 obtain ⟨a0,s0,rfl,hc0,hs0,hz0,rfl⟩:=errorString_of_trod Tryz.underlying84 err_row Tryz.underlying341 Tryz.underlying376 rfl rfl Tryz.underlying9 err_cells str_cells hd0 ok0;exact ⟨a0,s0,by simpa using World.var?_cell hg0 hv0 0,hc0,hs0,(hrows a0.block a0.off (by simp [MemPlace.row])).1⟩
def errX (i:Int):List UInt8:=if i=50 then [110,111,32,115,117,99,104,32,107,105,110,100,32,111,102,32,111,98,106,101,99,116] else if i=51 then [110,111,32,115,117,99,104,32,97,116,116,114,105,98,117,116,101,32,116,104,101,114,101] else if i=52 then [97,32,118,97,108,117,101,32,111,102,32,97,110,111,116,104,101,114,32,107,105,110,100] else if i=53 then [97,32,110,117,109,98,101,114,32,111,117,116,32,111,102,32,105,116,115,32,114,97,110,103,101] else if i=54 then [97,110,32,97,116,116,114,105,98,117,116,101,32,105,115,32,109,105,115,115,105,110,103] else if i=55 then [97,110,32,97,116,116,114,105,98,117,116,101,32,115,116,97,110,100,115,32,116,119,105,99,101] else if i=56 then [98,114,97,99,101,115] else []
theorem errX_inj (i j:Int) (hi:50<=i) (hi2:i<=56) (hj:50<=j) (hj2:j<=56) (h:errX i=errX j):i=j:=by
 have h1:i=50∨i=51∨i=52∨i=53∨i=54∨i=55∨i=56:=by omega
 have h2:j=50∨j=51∨j=52∨j=53∨j=54∨j=55∨j=56:=by omega
 rcases h1 with rfl | rfl | rfl | rfl | rfl | rfl | rfl <;> rcases h2 with rfl | rfl | rfl | rfl | rfl | rfl | rfl <;> first | rfl | exact absurd h (by decide)
theorem err_cell_parts {W : World} (h : laidMet Tryz.prog (([("tappet/schema.errObject", Rows.laid_tappet_schema_errObject), ("tappet/schema.errAttr", Rows.laid_tappet_schema_errAttr), ("tappet/schema.errKind", Rows.laid_tappet_schema_errKind), ("tappet/schema.errRange", Rows.laid_tappet_schema_errRange), ("tappet/schema.errMissing", Rows.laid_tappet_schema_errMissing), ("tappet/schema.errRepeated", Rows.laid_tappet_schema_errRepeated), ("tappet/schema.errBraces", Rows.laid_tappet_schema_errBraces)]) ++ [("unicode.CaseRanges", Rows.laid_unicode_CaseRanges), ("unicode/utf8.first", Rows.laid_unicode_utf8_first)]) W) : ∃ eb, EGlob eb W := by
 obtain ⟨a0, s0, v0, c0, x0, k0⟩ := sent_head h (show Tryz.prog.globalNamed "tappet/schema.errObject" = some 0 by kernel_rfl) (by kernel_rfl);obtain ⟨a1, s1, v1, c1, x1, k1⟩ := sent_head h.tail (show Tryz.prog.globalNamed "tappet/schema.errAttr" = some 1 by kernel_rfl) (by kernel_rfl);obtain ⟨a2, s2, v2, c2, x2, k2⟩ := sent_head h.tail.tail (show Tryz.prog.globalNamed "tappet/schema.errKind" = some 5 by kernel_rfl) (by kernel_rfl);obtain ⟨a3, s3, v3, c3, x3, k3⟩ := sent_head h.tail.tail.tail (show Tryz.prog.globalNamed "tappet/schema.errRange" = some 6 by kernel_rfl) (by kernel_rfl);obtain ⟨a4, s4, v4, c4, x4, k4⟩ := sent_head h.tail.tail.tail.tail (show Tryz.prog.globalNamed "tappet/schema.errMissing" = some 3 by kernel_rfl) (by kernel_rfl);obtain ⟨a5, s5, v5, c5, x5, k5⟩ := sent_head h.tail.tail.tail.tail.tail (show Tryz.prog.globalNamed "tappet/schema.errRepeated" = some 2 by kernel_rfl) (by kernel_rfl);obtain ⟨a6, s6, v6, c6, x6, k6⟩ := sent_head h.tail.tail.tail.tail.tail.tail (show Tryz.prog.globalNamed "tappet/schema.errBraces" = some 7 by kernel_rfl) (by kernel_rfl)
 have key:∀ i:Int,50<=i->i<=56->∃ s:ByteArray,W.cell? ((fun i:Int=>if i=50 then a0 else if i=51 then a1 else if i=52 then a2 else if i=53 then a3 else if i=54 then a4 else if i=55 then a5 else a6) i)=some (.string s)/\s.data.toList=errX i/\∃ c t,W.heap[((fun i:Int=>if i=50 then a0 else if i=51 then a1 else if i=52 then a2 else if i=53 then a3 else if i=54 then a4 else if i=55 then a5 else a6) i).block]?=some (.cells c t (0,0)):=by
  intro i hi hi2;have h1:i=50∨i=51∨i=52∨i=53∨i=54∨i=55∨i=56:=by omega
  rcases h1 with rfl | rfl | rfl | rfl | rfl | rfl | rfl
  ·exact ⟨s0,c0,x0,k0⟩
  ·exact ⟨s1,c1,x1,k1⟩
  ·exact ⟨s2,c2,x2,k2⟩
  ·exact ⟨s3,c3,x3,k3⟩
  ·exact ⟨s4,c4,x4,k4⟩
  ·exact ⟨s5,c5,x5,k5⟩
  ·exact ⟨s6,c6,x6,k6⟩
 refine ⟨fun i:Int=>if i=50 then a0 else if i=51 then a1 else if i=52 then a2 else if i=53 then a3 else if i=54 then a4 else if i=55 then a5 else a6,v0,v1,v2,v3,v4,v5,v6,fun i j hi hi2 hj hj2 he=>?_,fun i hi hi2=>?_⟩
 ·obtain ⟨s,e1,e2,_⟩:=key i hi hi2
  obtain ⟨s',e3,e4,_⟩:=key j hj hj2;have he':((fun i:Int=>if i=50 then a0 else if i=51 then a1 else if i=52 then a2 else if i=53 then a3 else if i=54 then a4 else if i=55 then a5 else a6) i)=((fun i:Int=>if i=50 then a0 else if i=51 then a1 else if i=52 then a2 else if i=53 then a3 else if i=54 then a4 else if i=55 then a5 else a6) j):=he;rw [he',e3] at e1;injection e1 with e1
  injection e1 with e1
  subst e1;exact errX_inj i j hi hi2 hj hj2 (e2.symm.trans e4)
 ·obtain ⟨s,_,_,e⟩:=key i hi hi2
  exact e
theorem eglob_of_laid {W:World} (h:laidMetH Tryz.prog laidS W):∃ eb,EGlob eb W :=
 err_cell_parts (laid_parts h).1.tail.tail.tail.tail
theorem type_of_laid {W:World} (h:laidMetH Tryz.prog laidS W):W.cell? ⟨4,0,none⟩=some (.iface 226 (.agg #[.pointer (some ⟨15,84,none⟩)])):=handle_cell (laid_parts h).2
open Go.Lib Go.Shelf
set_option maxRecDepth 1000000
def deB32:List Int:=[0,1,28,2,29,14,24,3,30,22,20,15,25,17,4,8,31,27,13,23,21,19,16,7,26,12,18,6,11,5,10,9]
noncomputable def laidWorld (os:Os):World :=
 let N:=(World.settled Tryz.prog os).heap.size
 let w0:=World.holding Tryz.prog os ⟨#[.cells Lib.caseCells5 325,.cells #[.string ⟨#[110,111,32,115,117,99,104,32,107,105,110,100,32,111,102,32,111,98,106,101,99,116]⟩] 376,.cells #[.string ⟨#[110,111,32,115,117,99,104,32,97,116,116,114,105,98,117,116,101,32,116,104,101,114,101]⟩] 376,.cells #[.string ⟨#[97,32,118,97,108,117,101,32,111,102,32,97,110,111,116,104,101,114,32,107,105,110,100]⟩] 376,.cells #[.string ⟨#[97,32,110,117,109,98,101,114,32,111,117,116,32,111,102,32,105,116,115,32,114,97,110,103,101]⟩] 376,.cells #[.string ⟨#[97,110,32,97,116,116,114,105,98,117,116,101,32,105,115,32,109,105,115,115,105,110,103]⟩] 376,.cells #[.string ⟨#[97,110,32,97,116,116,114,105,98,117,116,101,32,115,116,97,110,100,115,32,116,119,105,99,101]⟩] 376,.cells #[.string ⟨#[98,114,97,99,101,115]⟩] 376],#[],[]⟩
 let put (h:Array Obj) (g:Nat) (cs:Array Value):Array Obj:=h.modify g fun
  | .cells _ t frozen=>.cells cs t frozen
  | o=>o
 let h1:=put w0.heap 4 #[.iface 226 (.agg #[.pointer (some ⟨15,84,none⟩)])]
 let h2:=put h1 9 #[.slice (some ⟨N,0,none⟩) caseA.size caseA.size]
 let h3:=put h2 10 (Lib.pow10Tab.map fun z=>Value.int .u64 z).toArray
 let h4:=put h3 11 (Lib.firstTab.map fun z=>Value.int .u8 z).toArray
 let h5:=put h4 12 ((List.range 16).flatMap fun i=>[Value.int .u8 (Lib.accLo i),Value.int .u8 (Lib.accHi i)]).toArray
 let h6:=put h5 13 (deB32.map fun z=>Value.int .u8 z).toArray
 let h7:=put h6 14 (deB64.map fun z=>Value.int .u8 z).toArray
 let h8:=put h7 0 #[.iface 341 (.pointer (some ⟨N + 1,0,none⟩))]
 let h9:=put h8 1 #[.iface 341 (.pointer (some ⟨N + 2,0,none⟩))]
 let h10:=put h9 5 #[.iface 341 (.pointer (some ⟨N + 3,0,none⟩))]
 let h11:=put h10 6 #[.iface 341 (.pointer (some ⟨N + 4,0,none⟩))]
 let h12:=put h11 3 #[.iface 341 (.pointer (some ⟨N + 5,0,none⟩))]
 let h13:=put h12 2 #[.iface 341 (.pointer (some ⟨N + 6,0,none⟩))]
 let h14:=put h13 7 #[.iface 341 (.pointer (some ⟨N + 7,0,none⟩))]
 { w0 with heap:=h14 }
noncomputable abbrev N0:Nat:=(World.settled Tryz.prog default).heap.size
noncomputable def wit (os:Os) (args:Array Value):World:=((laidWorld os).forCall (fun _ _=>0) ⟨#[],args,[]⟩).memory
theorem pieceA (os : Os) (args : Array Value) : LaidIn Tryz.prog (wit os args) [("math/bits.deBruijn32tab", Rows.laid_math_bits_deBruijn32tab), ("math/bits.deBruijn64tab", Rows.laid_math_bits_deBruijn64tab), ("internal/strconv.uint64pow10", Rows.laid_internal_strconv_uint64pow10), ("unicode/utf8.acceptRanges", Rows.laid_unicode_utf8_acceptRanges)] [13, 14, 10, 12] :=
 LaidIn.of_run _ 8 (by kernel_rfl) (by kernel_rfl) (by kernel_rfl) (by kernel_rfl)
theorem pieceD (os : Os) (args : Array Value) : LaidIn Tryz.prog (wit os args) [("unicode/utf8.first", Rows.laid_unicode_utf8_first)] [11] :=
 LaidIn.of_run _ 8 (by kernel_rfl) (by kernel_rfl) (by kernel_rfl) (by kernel_rfl)
theorem pieceE (os : Os) (args : Array Value) : LaidIn Tryz.prog (wit os args) [("tappet/schema.errObject", Rows.laid_tappet_schema_errObject), ("tappet/schema.errAttr", Rows.laid_tappet_schema_errAttr), ("tappet/schema.errKind", Rows.laid_tappet_schema_errKind), ("tappet/schema.errRange", Rows.laid_tappet_schema_errRange), ("tappet/schema.errMissing", Rows.laid_tappet_schema_errMissing), ("tappet/schema.errRepeated", Rows.laid_tappet_schema_errRepeated), ("tappet/schema.errBraces", Rows.laid_tappet_schema_errBraces)] [0, N0 + 1, 1, N0 + 2, 5, N0 + 3, 6, N0 + 4, 3, N0 + 5, 2, N0 + 6, 7, N0 + 7] :=
 LaidIn.of_run _ 8 (by kernel_rfl) (by kernel_rfl) (by kernel_rfl) (by kernel_rfl)
theorem cs_s:Tryz.prog.cellsOf 325=5:=by kernel_rfl
theorem cs_u:Tryz.prog.cellsOf 46=1:=by kernel_rfl
theorem cs_i:Tryz.prog.cellsOf 21=1:=by kernel_rfl
theorem cs_d:Tryz.prog.cellsOf 323=3:=by kernel_rfl
theorem ucase_row {H:Type} {enc:TypeId × Value->H} {w:World} {base:Nat} {sp:Nat->Bool} {held:Bool} (x:CaseRow) (hw:rowWf x=true) (fuel:Nat) :
  DataW.trod enc Tryz.prog w base sp held (fuel + 3) 325 (cells5 x)=some (rowData x,[]):=by
 simp only [rowWf,Bool.and_eq_true] at hw;obtain ⟨⟨⟨⟨w0,w1⟩,w2⟩,w3⟩,w4⟩:=hw;have r3:List.range 3=[0,1,2]:=rfl;simp [DataW.trod,Tryz.underlying325,Tryz.underlying46,Tryz.underlying21,Tryz.underlying323,cs_s,cs_u,cs_i,cs_d,cells5,rowData,w0,w1,w2,w3,w4,r3]
theorem ucase_slice {w:World} {R:Nat} (hT:CaseTab R 0 caseA w) :
  DataW.trod (fun _=>()) Tryz.prog w 0 (fun _=>true) false 4 280 [.slice (some ⟨R,0,none⟩) caseA.size caseA.size] =
   some (caseData,MemPlace.row ⟨R,0,none⟩ (caseA.size*5)):=by
 have hn:caseA.size<=maxLen:=by rw [caseA_size];unfold maxLen;omega
 have helem:∀ i ∈ List.range caseA.size,(w.cells? 0 ((⟨R,0,none⟩:Addr).add (i*5)) 5).bind (DataW.trod (fun _=>()) Tryz.prog w 0 (fun _=>true) false 3 325)=some ((fun i=>((rowData (caseA.getD i (0,0,0,0,0)):DataW Unit),([]:List MemPlace))) i):=by
  intro i hi;have hi':=List.mem_range.1 hi;rw [case_cells5 hT i hi'];exact ucase_row _ (caseA_wf i hi') 0
 have h1:DataW.trod (fun _=>()) Tryz.prog w 0 (fun _=>true) false 4 280 [.slice (some ⟨R,0,none⟩) caseA.size caseA.size] =
   some (.slice ((List.range caseA.size).map fun i=>rowData (caseA.getD i (0,0,0,0,0))) [],MemPlace.row ⟨R,0,none⟩ (caseA.size*5)):=by
  show DataW.trod _ _ _ _ _ _ (3 + 1) _ _=_;unfold DataW.trod;simp only [Tryz.underlying280,cs_s];rw [if_pos ⟨Nat.zero_le _,Nat.le_refl _,hn⟩,mapM_some _ _ _ helem];simp [Function.comp_def]
 rw [h1,case_rows_data]
 rfl
theorem pieceC (os : Os) (args : Array Value) : LaidIn Tryz.prog (wit os args) [("unicode.CaseRanges", caseData)] [9, N0] := by
 have hvar:(wit os args).heap[9]?=some (.cells #[.slice (some ⟨N0,0,none⟩) caseA.size caseA.size] 280 (0,0)):=by kernel_rfl
 have hblk:(wit os args).heap[N0]?=some (.cells caseCells5 325 (0,0)):=by kernel_rfl
 have hgR:(9:Nat)≠N0:=of_decide_eq_true (by kernel_rfl);generalize wit os args=w at hvar hblk;generalize N0=R at hvar hblk hgR;have hT:=caseTab_of_block hblk;have hread:=ucase_slice hT;have hnamed : Tryz.prog.globalNamed "unicode.CaseRanges" = some 9 := by kernel_rfl
 have hv : w.var? Tryz.prog "unicode.CaseRanges" = some #[.slice (some ⟨R, 0, none⟩) caseA.size caseA.size] := by simp [World.var?, hnamed, hvar]
 refine LaidIn.one (fuel:=4) _ hnamed (by kernel_rfl:(Tryz.prog.globals[9]?).map (·.type)=some 280) hv hread ?_ ?_ ?_
 ·refine List.nodup_append.2 ⟨row_nodup _ _,row_nodup _ _,?_⟩
  intro a ha b hb e;obtain ⟨i,_,rfl⟩:=MemPlace.mem_row.1 ha;obtain ⟨j,_,rfl⟩:=MemPlace.mem_row.1 hb;simp at e;exact hgR e.1
 ·intro b off hp
  rcases List.mem_append.1 hp with hp | hp
  ·obtain ⟨i,hi,e⟩:=MemPlace.mem_row.1 hp
   cases e
   refine ⟨⟨_,_,hvar⟩,fun u v hc=>?_⟩
   obtain rfl:i=0:=by simpa using hi
   rw [Lib.cell_of_heap hvar] at hc;simp at hc
  ·obtain ⟨i,hi,e⟩:=MemPlace.mem_row.1 hp
   cases e
   refine ⟨⟨_,_,hblk⟩,fun u v hc=>?_⟩
   obtain ⟨c0,c1,c2,c3,c4⟩:=hT (i / 5) (by omega);have hi5:0 + i=0 + i / 5*5 + i % 5:=by omega
   simp only at hc;rw [hi5] at hc;have hm:i % 5<5:=Nat.mod_lt _ (by omega)
   match hk:i % 5,hm with
   | 0,_=>rw [hk,Nat.add_zero,c0] at hc;cases hc
   | 1,_=>rw [hk,c1] at hc;cases hc
   | 2,_=>rw [hk,c2] at hc;cases hc
   | 3,_=>rw [hk,c3] at hc;cases hc
   | 4,_=>rw [hk,c4] at hc;cases hc
 ·intro x hx
  rcases List.mem_append.1 hx with hx | hx
  ·obtain ⟨i,_,rfl⟩:=MemPlace.mem_row.1 hx;exact List.mem_cons_self
  ·obtain ⟨i,_,rfl⟩:=MemPlace.mem_row.1 hx;exact List.mem_cons_of_mem _ List.mem_cons_self
theorem wit_laid (os:Os) (args:Array Value):laidMetH Tryz.prog laidS (wit os args):=by
 refine laidMetH_of_parts ?_ ?_
 ·rw [filt_none]
  have h:=(((pieceA os args).append (pieceE os args) (by kernel_rfl)).append (pieceC os args) (by kernel_rfl)).append (pieceD os args) (by kernel_rfl);have h2:=h.met;have e:caseData=Rows.laid_unicode_CaseRanges:=Pinned.caseRanges_eq.symm;rw [e] at h2;exact h2
 ·rw [filt_some]
  kernel_rfl
end Go.Proofs.YtmfejjlmflgnbaaGreatDoor.Sc

/- CONTRACTS: errors.Is of package schema's flaw and one of the package's errors. -/
import Derived.Test.YtmfejjlmflgnbaaGreatDoorVSc5
import Derived.LaidEql
import Derived.Stop.Asserts
import Derived.RowKitTokens
set_option linter.unusedVariables false
set_option linter.unusedSimpArgs false
set_option maxRecDepth 100000
set_option maxHeartbeats 64000000
namespace Go.Proofs.YtmfejjlmflgnbaaGreatDoor.Sc
open RowKit Go.Extern.Stop Go.Stop Go.Extern PA YtmfejjlmflgnbaaGreatDoorW.PrintWords Sp Tr Tok
theorem err_eql (eb:Int->Addr) (i j:Int) (hi:50<=i) (hi2:i<=56) (hj:50<=j) (hj2:j<=56) (w:World) (hG:EGlob eb w):(binOp .eql 84 (errI eb i) (errI eb j)).run Tryz.prog w=.ok (.bool (i == j)) w:=by
 have hc:(Tryz.prog.info? 341).map (·.comparable)=some true:=by kernel_rfl
 obtain ⟨q,hq,hq2⟩:=Option.map_eq_some_iff.1 hc;have hs:(Tryz.prog.info? 376).map (·.size)=some 1:=by kernel_rfl
 obtain ⟨u,hu,hu2⟩:=Option.map_eq_some_iff.1 hs
 by_cases h:i=j
 ·subst h
  rw [show (i == i)=true from by simp];exact run_eql_iface_ptr_same w (eb i) Tryz.underlying84 Tryz.underlying341 hq hq2 hu
 ·obtain ⟨c1,t1,e1⟩:=hG.blk i hi hi2
  obtain ⟨c2,t2,e2⟩:=hG.blk j hj hj2;rw [show (i == j)=false from by simp [h]];exact run_eql_iface_ptr_other w Tryz.underlying84 Tryz.underlying341 hq hq2 hu (by rw [hu2];decide) (fun he=>h (hG.apart i j hi hi2 hj hj2 he)) e1 e2
theorem Tsi.typeOf (v:Value) (w:World):(Extern.ReflectliteType.typeOf #[.iface 341 v]).run Tryz.prog w=.ok (.iface 226 (.agg #[.pointer (some ⟨15,341,none⟩)])) w:=by kernel_rfl
theorem Tsi.comparable (w:World):(callFunc 238 #[.agg #[.pointer (some ⟨15,341,none⟩)]]).run Tryz.prog w=.ok (.value (.bool true)) w:=by
 have h := @run_callFunc_extern Tryz.prog 238 _ (Extern.ReflectliteType.method fun t => do Rtype.noPackHeld "Comparable" t; pure (.bool (← typeInfo t).comparable)) Tryz.func238 (by kernel_rfl) (by kernel_rfl) (by kernel_rfl) (by kernel_rfl);rw [h];have h2 : ((Extern.ReflectliteType.method fun t => do Rtype.noPackHeld "Comparable" t; pure (.bool (← typeInfo t).comparable)) #[.agg #[.pointer (some ⟨15, 341, none⟩)]]).run Tryz.prog w = .ok (.bool true) w := by kernel_rfl
 rw [h2]
 rfl
theorem Tsi.methodComparable (v : Value) (w : World) : (Go.method 488 226 v "Comparable").run Tryz.prog w = .ok (238, v) w := by kernel_rfl
theorem Tsi.noIsE (v:Value) (xT:TypeId) (w:World):(Instr.typeAssert (.iface 341 v) xT 238 true).run Tryz.prog w=.ok (.tuple #[.nilIface,.bool false]) w:=run_typeAssert_lacksB Tryz.underlying238 (by kernel_rfl) (by kernel_rfl) v xT w
theorem Tsi.noUnwrapE (v:Value) (xT:TypeId) (w:World):(Instr.typeAssert (.iface 341 v) xT 233 true).run Tryz.prog w=.ok (.tuple #[.nilIface,.bool false]) w:=run_typeAssert_lacksB Tryz.underlying233 (by kernel_rfl) (by kernel_rfl) v xT w
theorem Tsi.noUnwrapsE (v:Value) (xT:TypeId) (w:World):(Instr.typeAssert (.iface 341 v) xT 235 true).run Tryz.prog w=.ok (.tuple #[.nilIface,.bool false]) w:=run_typeAssert_lacksB Tryz.underlying235 (by kernel_rfl) (by kernel_rfl) v xT w
theorem Tsi.noIsW (v:Value) (xT:TypeId) (w:World):(Instr.typeAssert (.iface 129 v) xT 238 true).run Tryz.prog w=.ok (.tuple #[.nilIface,.bool false]) w:=run_typeAssert_lacksB Tryz.underlying238 (by kernel_rfl) (by kernel_rfl) v xT w
theorem Tsi.hasUnwrapW (v:Value) (xT:TypeId) (w:World):(Instr.typeAssert (.iface 129 v) xT 233 true).run Tryz.prog w=.ok (.tuple #[.iface 129 v,.bool true]) w:=run_typeAssert_hasB Tryz.underlying233 (by kernel_rfl) v xT w
theorem Tsi.methodUnwrap (v : Value) (w : World) : (Go.method 488 129 v "Unwrap").run Tryz.prog w = .ok (232, v) w := by kernel_rfl
theorem sis_calls (eb:Int->Addr) (b:Nat) (c c':Int) (hc:50<=c) (hc2:c<=56) (hd:50<=c') (hd2:c'<=56) (w:World) (hG:EGlob eb w) (h1:w.cell? ⟨b,0,none⟩=some (errI eb c')) (r:Bool) (hr:(c' == c)=r) :
  Calls Tryz.prog 82 #[.iface 129 (.pointer (some ⟨b,0,none⟩)),errI eb c] w fun e w'=>e=.returned (.bool r)/\w=w':=by
 have h8:=@run_callFunc_extern Tryz.prog 117 _ Extern.ReflectliteType.typeOf Tryz.func117 (by kernel_rfl) (by kernel_rfl) (by kernel_rfl) (by kernel_rfl);have tT:=Tsi.typeOf;have cT:=Tsi.comparable;have mR:=Tsi.methodComparable;have nE:=Tsi.noIsE;have uE:=Tsi.noUnwrapE;have vE:=Tsi.noUnwrapsE;have nW:=Tsi.noIsW;have uW:=Tsi.hasUnwrapW;have mU:=Tsi.methodUnwrap;have heq:=err_eql eb c' c hd hd2 hc hc2 w hG;rw [hr] at heq;clear hr hG hc hc2 hd hd2;have hty:=run_eql_iface_types (P:=Tryz.prog) 129 341 (.pointer (some ⟨b,0,none⟩)) (.pointer (some (eb c))) Tryz.underlying84 (by decide) w;unfold errI at heq h1 ⊢;generalize eb c=bc at *;generalize eb c'=bd at *;cases r
 all_goals
  go_enter Tryz.func82,Tryz.ntmps82
  go_wp2
  refine wp_loop_rounds 2 ?_
  rw [rounds_succ]
  go_wp2
  rw [rounds_succ]
  go_wp2
  go_ret
  exact ⟨rfl,rfl⟩
end Go.Proofs.YtmfejjlmflgnbaaGreatDoor.Sc
namespace Go.Proofs.YtmfejjlmflgnbaaGreatDoor.Sc
open RowKit PA YtmfejjlmflgnbaaGreatDoorW.PrintWords Sp Tr Tok
theorem code_calls (eb:Int->Addr) (b B:Nat) (f:SF) (w:World) (hF:FlawS eb w B b f) (hc:50<=f.code/\f.code<=56) (hG:EGlob eb w) :
  Calls Tryz.prog 69 #[flawP b] w fun e w'=>e=.returned (.int .i64 f.code)/\w=w':=by
 have h1:w.cell? ⟨b,0,none⟩=some (errI eb f.code):=(cell_row hF.2 0).trans rfl;have g50:=hG.g50;have g51:=hG.g51;have g52:=hG.g52;have g53:=hG.g53;have g54:=hG.g54;have g55:=hG.g55;have h7:f.code=50∨f.code=51∨f.code=52∨f.code=53∨f.code=54∨f.code=55∨f.code=56:=by omega
 clear hF hc;rcases h7 with h | h | h | h | h | h | h
 ·rw [h] at h1 ⊢
  go_enter Tryz.func69,Tryz.ntmps69
  go_wp2_with (first
   | (go_at_call 82;with_reducible refine (sis_calls eb b 50 50 (by omega) (by omega) (by omega) (by omega) w hG h1 true (by decide)).mono ?_;rintro e w2 ⟨rfl,rfl⟩)
   | (go_at_call 82;with_reducible refine (sis_calls eb b 51 50 (by omega) (by omega) (by omega) (by omega) w hG h1 false (by decide)).mono ?_;rintro e w2 ⟨rfl,rfl⟩)
   | (go_at_call 82;with_reducible refine (sis_calls eb b 52 50 (by omega) (by omega) (by omega) (by omega) w hG h1 false (by decide)).mono ?_;rintro e w2 ⟨rfl,rfl⟩)
   | (go_at_call 82;with_reducible refine (sis_calls eb b 53 50 (by omega) (by omega) (by omega) (by omega) w hG h1 false (by decide)).mono ?_;rintro e w2 ⟨rfl,rfl⟩)
   | (go_at_call 82;with_reducible refine (sis_calls eb b 54 50 (by omega) (by omega) (by omega) (by omega) w hG h1 false (by decide)).mono ?_;rintro e w2 ⟨rfl,rfl⟩)
   | (go_at_call 82;with_reducible refine (sis_calls eb b 55 50 (by omega) (by omega) (by omega) (by omega) w hG h1 false (by decide)).mono ?_;rintro e w2 ⟨rfl,rfl⟩))
  go_ret
  exact ⟨rfl,rfl⟩
 ·rw [h] at h1 ⊢
  go_enter Tryz.func69,Tryz.ntmps69
  go_wp2_with (first
   | (go_at_call 82;with_reducible refine (sis_calls eb b 50 51 (by omega) (by omega) (by omega) (by omega) w hG h1 false (by decide)).mono ?_;rintro e w2 ⟨rfl,rfl⟩)
   | (go_at_call 82;with_reducible refine (sis_calls eb b 51 51 (by omega) (by omega) (by omega) (by omega) w hG h1 true (by decide)).mono ?_;rintro e w2 ⟨rfl,rfl⟩)
   | (go_at_call 82;with_reducible refine (sis_calls eb b 52 51 (by omega) (by omega) (by omega) (by omega) w hG h1 false (by decide)).mono ?_;rintro e w2 ⟨rfl,rfl⟩)
   | (go_at_call 82;with_reducible refine (sis_calls eb b 53 51 (by omega) (by omega) (by omega) (by omega) w hG h1 false (by decide)).mono ?_;rintro e w2 ⟨rfl,rfl⟩)
   | (go_at_call 82;with_reducible refine (sis_calls eb b 54 51 (by omega) (by omega) (by omega) (by omega) w hG h1 false (by decide)).mono ?_;rintro e w2 ⟨rfl,rfl⟩)
   | (go_at_call 82;with_reducible refine (sis_calls eb b 55 51 (by omega) (by omega) (by omega) (by omega) w hG h1 false (by decide)).mono ?_;rintro e w2 ⟨rfl,rfl⟩))
  go_ret
  exact ⟨rfl,rfl⟩
 ·rw [h] at h1 ⊢
  go_enter Tryz.func69,Tryz.ntmps69
  go_wp2_with (first
   | (go_at_call 82;with_reducible refine (sis_calls eb b 50 52 (by omega) (by omega) (by omega) (by omega) w hG h1 false (by decide)).mono ?_;rintro e w2 ⟨rfl,rfl⟩)
   | (go_at_call 82;with_reducible refine (sis_calls eb b 51 52 (by omega) (by omega) (by omega) (by omega) w hG h1 false (by decide)).mono ?_;rintro e w2 ⟨rfl,rfl⟩)
   | (go_at_call 82;with_reducible refine (sis_calls eb b 52 52 (by omega) (by omega) (by omega) (by omega) w hG h1 true (by decide)).mono ?_;rintro e w2 ⟨rfl,rfl⟩)
   | (go_at_call 82;with_reducible refine (sis_calls eb b 53 52 (by omega) (by omega) (by omega) (by omega) w hG h1 false (by decide)).mono ?_;rintro e w2 ⟨rfl,rfl⟩)
   | (go_at_call 82;with_reducible refine (sis_calls eb b 54 52 (by omega) (by omega) (by omega) (by omega) w hG h1 false (by decide)).mono ?_;rintro e w2 ⟨rfl,rfl⟩)
   | (go_at_call 82;with_reducible refine (sis_calls eb b 55 52 (by omega) (by omega) (by omega) (by omega) w hG h1 false (by decide)).mono ?_;rintro e w2 ⟨rfl,rfl⟩))
  go_ret
  exact ⟨rfl,rfl⟩
 ·rw [h] at h1 ⊢
  go_enter Tryz.func69,Tryz.ntmps69
  go_wp2_with (first
   | (go_at_call 82;with_reducible refine (sis_calls eb b 50 53 (by omega) (by omega) (by omega) (by omega) w hG h1 false (by decide)).mono ?_;rintro e w2 ⟨rfl,rfl⟩)
   | (go_at_call 82;with_reducible refine (sis_calls eb b 51 53 (by omega) (by omega) (by omega) (by omega) w hG h1 false (by decide)).mono ?_;rintro e w2 ⟨rfl,rfl⟩)
   | (go_at_call 82;with_reducible refine (sis_calls eb b 52 53 (by omega) (by omega) (by omega) (by omega) w hG h1 false (by decide)).mono ?_;rintro e w2 ⟨rfl,rfl⟩)
   | (go_at_call 82;with_reducible refine (sis_calls eb b 53 53 (by omega) (by omega) (by omega) (by omega) w hG h1 true (by decide)).mono ?_;rintro e w2 ⟨rfl,rfl⟩)
   | (go_at_call 82;with_reducible refine (sis_calls eb b 54 53 (by omega) (by omega) (by omega) (by omega) w hG h1 false (by decide)).mono ?_;rintro e w2 ⟨rfl,rfl⟩)
   | (go_at_call 82;with_reducible refine (sis_calls eb b 55 53 (by omega) (by omega) (by omega) (by omega) w hG h1 false (by decide)).mono ?_;rintro e w2 ⟨rfl,rfl⟩))
  go_ret
  exact ⟨rfl,rfl⟩
 ·rw [h] at h1 ⊢
  go_enter Tryz.func69,Tryz.ntmps69
  go_wp2_with (first
   | (go_at_call 82;with_reducible refine (sis_calls eb b 50 54 (by omega) (by omega) (by omega) (by omega) w hG h1 false (by decide)).mono ?_;rintro e w2 ⟨rfl,rfl⟩)
   | (go_at_call 82;with_reducible refine (sis_calls eb b 51 54 (by omega) (by omega) (by omega) (by omega) w hG h1 false (by decide)).mono ?_;rintro e w2 ⟨rfl,rfl⟩)
   | (go_at_call 82;with_reducible refine (sis_calls eb b 52 54 (by omega) (by omega) (by omega) (by omega) w hG h1 false (by decide)).mono ?_;rintro e w2 ⟨rfl,rfl⟩)
   | (go_at_call 82;with_reducible refine (sis_calls eb b 53 54 (by omega) (by omega) (by omega) (by omega) w hG h1 false (by decide)).mono ?_;rintro e w2 ⟨rfl,rfl⟩)
   | (go_at_call 82;with_reducible refine (sis_calls eb b 54 54 (by omega) (by omega) (by omega) (by omega) w hG h1 true (by decide)).mono ?_;rintro e w2 ⟨rfl,rfl⟩)
   | (go_at_call 82;with_reducible refine (sis_calls eb b 55 54 (by omega) (by omega) (by omega) (by omega) w hG h1 false (by decide)).mono ?_;rintro e w2 ⟨rfl,rfl⟩))
  go_ret
  exact ⟨rfl,rfl⟩
 ·rw [h] at h1 ⊢
  go_enter Tryz.func69,Tryz.ntmps69
  go_wp2_with (first
   | (go_at_call 82;with_reducible refine (sis_calls eb b 50 55 (by omega) (by omega) (by omega) (by omega) w hG h1 false (by decide)).mono ?_;rintro e w2 ⟨rfl,rfl⟩)
   | (go_at_call 82;with_reducible refine (sis_calls eb b 51 55 (by omega) (by omega) (by omega) (by omega) w hG h1 false (by decide)).mono ?_;rintro e w2 ⟨rfl,rfl⟩)
   | (go_at_call 82;with_reducible refine (sis_calls eb b 52 55 (by omega) (by omega) (by omega) (by omega) w hG h1 false (by decide)).mono ?_;rintro e w2 ⟨rfl,rfl⟩)
   | (go_at_call 82;with_reducible refine (sis_calls eb b 53 55 (by omega) (by omega) (by omega) (by omega) w hG h1 false (by decide)).mono ?_;rintro e w2 ⟨rfl,rfl⟩)
   | (go_at_call 82;with_reducible refine (sis_calls eb b 54 55 (by omega) (by omega) (by omega) (by omega) w hG h1 false (by decide)).mono ?_;rintro e w2 ⟨rfl,rfl⟩)
   | (go_at_call 82;with_reducible refine (sis_calls eb b 55 55 (by omega) (by omega) (by omega) (by omega) w hG h1 true (by decide)).mono ?_;rintro e w2 ⟨rfl,rfl⟩))
  go_ret
  exact ⟨rfl,rfl⟩
 ·rw [h] at h1 ⊢
  go_enter Tryz.func69,Tryz.ntmps69
  go_wp2_with (first
   | (go_at_call 82;with_reducible refine (sis_calls eb b 50 56 (by omega) (by omega) (by omega) (by omega) w hG h1 false (by decide)).mono ?_;rintro e w2 ⟨rfl,rfl⟩)
   | (go_at_call 82;with_reducible refine (sis_calls eb b 51 56 (by omega) (by omega) (by omega) (by omega) w hG h1 false (by decide)).mono ?_;rintro e w2 ⟨rfl,rfl⟩)
   | (go_at_call 82;with_reducible refine (sis_calls eb b 52 56 (by omega) (by omega) (by omega) (by omega) w hG h1 false (by decide)).mono ?_;rintro e w2 ⟨rfl,rfl⟩)
   | (go_at_call 82;with_reducible refine (sis_calls eb b 53 56 (by omega) (by omega) (by omega) (by omega) w hG h1 false (by decide)).mono ?_;rintro e w2 ⟨rfl,rfl⟩)
   | (go_at_call 82;with_reducible refine (sis_calls eb b 54 56 (by omega) (by omega) (by omega) (by omega) w hG h1 false (by decide)).mono ?_;rintro e w2 ⟨rfl,rfl⟩)
   | (go_at_call 82;with_reducible refine (sis_calls eb b 55 56 (by omega) (by omega) (by omega) (by omega) w hG h1 false (by decide)).mono ?_;rintro e w2 ⟨rfl,rfl⟩))
  go_ret
  exact ⟨rfl,rfl⟩
end Go.Proofs.YtmfejjlmflgnbaaGreatDoor.Sc
namespace Go.Proofs.YtmfejjlmflgnbaaGreatDoor.Sc
open Tok RowKit Go.Extern.Stop Go.Stop Go.Extern
theorem Tsa.valueOf27 (t:Addr) (w:World):(ReflectliteValue.unpack (.iface 137 (.pointer (some t)))).run Tryz.prog w
  = .ok (.agg #[.pointer (some ⟨15,137,none⟩),.pointer (some ⟨w.heap.size,0,none⟩),.int .u64 150]) (w.alloc (.cells #[.pointer (some t)] 137)):=by kernel_rfl
theorem Tsa.type27 (a : Addr) (w : World) : (ReflectliteValue.methodAny (ReflectliteValue.valueError "reflectlite.Value.Type" 0) (fun t _ _ _ => ReflectliteType.toType t) #[.agg #[.pointer (some ⟨15, 137, none⟩), .pointer (some a), .int .u64 150]]).run Tryz.prog w
  = .ok (.iface 226 (.agg #[.pointer (some ⟨15,137,none⟩)])) w:=by kernel_rfl
theorem Tsa.methodKind (h : Value) (w : World) : (Go.method 488 226 (.agg #[h]) "Kind").run Tryz.prog w = .ok (224, h) w := by kernel_rfl
theorem Tsa.kind27 (w:World):((ReflectliteType.abiMethod fun t=>(fun a:Nat=>Value.int IntKind.u8 (a:Int)) <$> Rtype.kind t) #[.pointer (some ⟨15,137,none⟩)]).run Tryz.prog w=.ok (.int .u8 22) w:=by kernel_rfl
theorem Tsa.kind25 (w:World):((ReflectliteType.abiMethod fun t=>(fun a:Nat=>Value.int IntKind.u8 (a:Int)) <$> Rtype.kind t) #[.pointer (some ⟨15,129,none⟩)]).run Tryz.prog w=.ok (.int .u8 22) w:=by kernel_rfl
theorem rlm2 (z:Sem Value) (f:TypeId->Addr->Nat->Nat->Sem Value) (v:Value) :
  ReflectliteValue.method z f #[v]=(do match <- ReflectliteValue.parts v with | none=>z | some (t,a,fl)=>f t a fl (fl % 32)):=rfl
theorem Tsa.parts27 (a:Addr) (w:World):(ReflectliteValue.parts (.agg #[.pointer (some ⟨15,137,none⟩),.pointer (some a),.int .u64 150])).run Tryz.prog w=.ok (some (137,a,150)) w:=by kernel_rfl
theorem Tsa.isNil27 (a p:Addr) (W:World) (ha:W.cell? a=some (.pointer (some p))) :
  (ReflectliteValue.method (ReflectliteValue.valueError "reflectlite.Value.IsNil" 0) ReflectliteValue.isNil #[.agg #[.pointer (some ⟨15, 137, none⟩), .pointer (some a), .int .u64 150]]).run Tryz.prog W = .ok (.bool false) W := by
 rw [rlm2];simp only [Sem.run_bind,Tsa.parts27,Result.andThen];simp [ReflectliteValue.isNil,loadVar,isAgg,underlying,Tryz.underlying137,ha,Result.andThen]
theorem Tsa.methodElem (h : Value) (w : World) : (Go.method 488 226 (.agg #[h]) "Elem").run Tryz.prog w = .ok (239, .agg #[h]) w := by kernel_rfl
theorem Tsa.methodImplements (h : Value) (w : World) : (Go.method 488 226 (.agg #[h]) "Implements").run Tryz.prog w = .ok (240, .agg #[h]) w := by kernel_rfl
theorem Tsa.methodAssignableTo (h : Value) (w : World) : (Go.method 488 226 (.agg #[h]) "AssignableTo").run Tryz.prog w = .ok (237, .agg #[h]) w := by kernel_rfl
theorem Tsa.elem27 (w:World):(ReflectliteType.method ReflectliteType.elem #[.agg #[.pointer (some ⟨15,137,none⟩)]]).run Tryz.prog w=.ok (.iface 226 (.agg #[.pointer (some ⟨15,129,none⟩)])) w:=by kernel_rfl
theorem Tsa.implements25 (w : World) : (ReflectliteType.relation "Implements" ReflectliteType.implements_ #[.agg #[.pointer (some ⟨15, 129, none⟩)], .iface 226 (.agg #[.pointer (some ⟨15, 84, none⟩)])]).run Tryz.prog w = .ok (.bool true) w := by kernel_rfl
theorem Tsa.typeOf25 (v:Value) (w:World):(ReflectliteType.typeOf #[.iface 129 v]).run Tryz.prog w=.ok (.iface 226 (.agg #[.pointer (some ⟨15,129,none⟩)])) w:=by kernel_rfl
theorem Tsa.assignable25 (w : World) : (ReflectliteType.relation "AssignableTo" ReflectliteType.assignableTo #[.agg #[.pointer (some ⟨15, 129, none⟩)], .iface 226 (.agg #[.pointer (some ⟨15, 129, none⟩)])]).run Tryz.prog w = .ok (.bool true) w := by kernel_rfl
theorem Tsa.valueOf25 (e:Addr) (w:World):(ReflectliteValue.unpack (.iface 129 (.pointer (some e)))).run Tryz.prog w
  = .ok (.agg #[.pointer (some ⟨15,129,none⟩),.pointer (some ⟨w.heap.size,0,none⟩),.int .u64 150]) (w.alloc (.cells #[.pointer (some e)] 129)):=by kernel_rfl
theorem Tsa.elemOf27 (w:World):(Rtype.elem? 137).run Tryz.prog w=.ok (some 129) w:=by kernel_rfl
theorem Tsa.mk25 (p:Addr) (w:World):(ReflectliteValue.mk 129 p ReflectliteValue.flagAddr).run Tryz.prog w=.ok (.agg #[.pointer (some ⟨15,129,none⟩),.pointer (some p),.int .u64 406]) w:=by kernel_rfl
theorem Tsa.elemV27 (a p:Addr) (W:World) (ha:W.cell? a=some (.pointer (some p))) :
  (ReflectliteValue.method (ReflectliteValue.valueError "reflectlite.Value.Elem" 0) ReflectliteValue.elem #[.agg #[.pointer (some ⟨15, 137, none⟩), .pointer (some a), .int .u64 150]]).run Tryz.prog W
   = .ok (.agg #[.pointer (some ⟨15,129,none⟩),.pointer (some p),.int .u64 406]) W:=by
 rw [rlm2];simp only [Sem.run_bind,Tsa.parts27,Result.andThen];simp [ReflectliteValue.elem,loadVar,isAgg,underlying,Tryz.underlying137,ha,Result.andThen,Tsa.elemOf27,Tsa.mk25]
theorem rls2 (v x:Value):ReflectliteValue.set #[v,x]=(do
  let (some (dst,a,fl),some (src,b,_)):=(<- ReflectliteValue.parts v,<- ReflectliteValue.parts x)
   | unsupported (.noEntry "extern/(internal/reflectlite.Value).Set.zeroValue")
  if fl / ReflectliteValue.flagAddr % 2 == 0 then unsupported (.noEntry "extern/(internal/reflectlite.Value).Set.unaddressable")
  let val <- loadVar src b
  if <- Rtype.directlyAssignable dst src then storeVar dst a val
  else if <- Rtype.implements dst src then
   if (<- Rtype.kind src) == 20 then
    match val with
    | .nilIface => unsupported (.noEntry "extern/reflectlite: a nil value of one interface type handed on as a value of another")
    | _=>storeVar dst a val
   else storeVar dst a (.iface src val)
  else panicString ("reflectlite.Set: value of type " ++ (← Rtype.spelt src) ++ " is not assignable to type " ++ (← Rtype.spelt dst))
  pure (.tuple #[])):=rfl
theorem Tsa.parts25a (a:Addr) (w:World):(ReflectliteValue.parts (.agg #[.pointer (some ⟨15,129,none⟩),.pointer (some a),.int .u64 406])).run Tryz.prog w=.ok (some (129,a,406)) w:=by kernel_rfl
theorem Tsa.parts25 (a:Addr) (w:World):(ReflectliteValue.parts (.agg #[.pointer (some ⟨15,129,none⟩),.pointer (some a),.int .u64 150])).run Tryz.prog w=.ok (some (129,a,150)) w:=by kernel_rfl
theorem Tsa.direct25 (w:World):(Rtype.directlyAssignable 129 129).run Tryz.prog w=.ok true w:=by kernel_rfl
theorem Tsa.set25 (ta b e:Addr) (old:Value) (W:World) (hb:W.cell? b=some (.pointer (some e))) (ht:W.cell? ta=some old) (hf:W.frozen? ta=false) :
  (ReflectliteValue.set #[.agg #[.pointer (some ⟨15,129,none⟩),.pointer (some ta),.int .u64 406],.agg #[.pointer (some ⟨15,129,none⟩),.pointer (some b),.int .u64 150]]).run Tryz.prog W
   = .ok (.tuple #[]) (W.setCell ta (.pointer (some e))):=by
 rw [rls2];simp only [Sem.run_bind,Tsa.parts25a,Tsa.parts25,Result.andThen];simp [ReflectliteValue.flagAddr,loadVar,isAgg,underlying,Tryz.underlying129,hb,Result.andThen,Tsa.direct25,storeVar,Value.cells,storeCells,Addr.add];rw [run_store Tryz.prog W ta _ _ (by rfl)];simp [ht,hf]
theorem sas_hit (e t:Addr) (old:Value) (w:World) (hg:w.cell? ⟨4,0,none⟩=some (.iface 226 (.agg #[.pointer (some ⟨15,84,none⟩)]))) (ht0:w.cell? t=some old) (hf0:w.frozen? t=false) :
  Calls Tryz.prog 68 #[.iface 129 (.pointer (some e)),.iface 137 (.pointer (some t))] w fun ev w'=>ev=.returned (.bool true)/\w'=((((w.alloc (.cells #[.pointer (some t)] 137)).alloc (.cells #[.pointer (some ⟨15,137,none⟩),.pointer (some ⟨w.heap.size,0,none⟩),.int .u64 150] 189)).alloc (.cells #[.pointer (some ⟨15,137,none⟩),.pointer (some ⟨w.heap.size,0,none⟩),.int .u64 150] 189)).alloc (.cells #[.pointer (some e)] 129)).setCell t (.pointer (some e)):=by
 have h6:=@run_callFunc_extern Tryz.prog 107 _ (fun args=>ReflectliteValue.unpack (args.getD 0 (.tuple #[]))) Tryz.func107 (by kernel_rfl) (by kernel_rfl) (by kernel_rfl) (by kernel_rfl);have h7 := @run_callFunc_extern Tryz.prog 108 _ (ReflectliteValue.methodAny (ReflectliteValue.valueError "reflectlite.Value.Type" 0) (fun t _ _ _ => ReflectliteType.toType t)) Tryz.func108 (by kernel_rfl) (by kernel_rfl) (by kernel_rfl) (by kernel_rfl);have h8 := @run_callFunc_extern Tryz.prog 109 _ (ReflectliteValue.method (ReflectliteValue.valueError "reflectlite.Value.IsNil" 0) ReflectliteValue.isNil) Tryz.func109 (by kernel_rfl) (by kernel_rfl) (by kernel_rfl) (by kernel_rfl);have h27:=@run_callFunc_extern Tryz.prog 224 _ (ReflectliteType.abiMethod fun t=>do pure (.int .u8 (← Rtype.kind t))) Tryz.func224 (by kernel_rfl) (by kernel_rfl) (by kernel_rfl) (by kernel_rfl);have h37:=@run_callFunc_extern Tryz.prog 239 _ (ReflectliteType.method ReflectliteType.elem) Tryz.func239 (by kernel_rfl) (by kernel_rfl) (by kernel_rfl) (by kernel_rfl);have h38 := @run_callFunc_extern Tryz.prog 240 _ (ReflectliteType.relation "Implements" ReflectliteType.implements_) Tryz.func240 (by kernel_rfl) (by kernel_rfl) (by kernel_rfl) (by kernel_rfl);have h10:=@run_callFunc_extern Tryz.prog 117 _ ReflectliteType.typeOf Tryz.func117 (by kernel_rfl) (by kernel_rfl) (by kernel_rfl) (by kernel_rfl);have h35 := @run_callFunc_extern Tryz.prog 237 _ (ReflectliteType.relation "AssignableTo" ReflectliteType.assignableTo) Tryz.func237 (by kernel_rfl) (by kernel_rfl) (by kernel_rfl) (by kernel_rfl);have h11 := @run_callFunc_extern Tryz.prog 140 _ (ReflectliteValue.method (ReflectliteValue.valueError "reflectlite.Value.Elem" 0) ReflectliteValue.elem) Tryz.func140 (by kernel_rfl) (by kernel_rfl) (by kernel_rfl) (by kernel_rfl);have h12:=@run_callFunc_extern Tryz.prog 141 _ ReflectliteValue.set Tryz.func141 (by kernel_rfl) (by kernel_rfl) (by kernel_rfl) (by kernel_rfl);have tO:=Tsa.typeOf25;have mA:=Tsa.methodAssignableTo;have a25:=Tsa.assignable25;have v25:=Tsa.valueOf25;have f6:=Tsa.valueOf27;have f7:=Tsa.type27;have mK:=Tsa.methodKind;have mE:=Tsa.methodElem;have mI:=Tsa.methodImplements;have k27:=Tsa.kind27;have k25:=Tsa.kind25;have e27:=Tsa.elem27;have i25:=Tsa.implements25;have n8:=Tsa.isNil27 ⟨w.heap.size,0,none⟩ t ((w.alloc (.cells #[.pointer (some t)] 137)).alloc (.cells #[.pointer (some ⟨15,137,none⟩),.pointer (some ⟨w.heap.size,0,none⟩),.int .u64 150] 189)) (by simp);have hlt:4<w.heap.size:=lC w _ hg
 have hg2:((w.alloc (.cells #[.pointer (some t)] 137)).alloc (.cells #[.pointer (some ⟨15,137,none⟩),.pointer (some ⟨w.heap.size,0,none⟩),.int .u64 150] 189)).cell? ⟨4,0,none⟩=some (.iface 226 (.agg #[.pointer (some ⟨15,84,none⟩)])):=by
  rw [World.cell?_alloc_lt _ _ ⟨4,0,none⟩ (by simp;omega),World.cell?_alloc_lt _ _ ⟨4,0,none⟩ hlt];exact hg
 have htl:t.block<w.heap.size:=by
  rcases Nat.lt_or_ge t.block w.heap.size with h | h
  ·exact h
  ·simp [World.cell?,Array.getElem?_eq_none h] at ht0
 have el:=Tsa.elemV27 ⟨w.heap.size,0,none⟩ t (((w.alloc (.cells #[.pointer (some t)] 137)).alloc (.cells #[.pointer (some ⟨15,137,none⟩),.pointer (some ⟨w.heap.size,0,none⟩),.int .u64 150] 189)).alloc (.cells #[.pointer (some ⟨15,137,none⟩),.pointer (some ⟨w.heap.size,0,none⟩),.int .u64 150] 189)) (by rw [World.cell?_alloc_lt _ _ ⟨w.heap.size,0,none⟩ (by simp;omega)];simp)
 have st:=Tsa.set25 t ⟨w.heap.size + 1 + 1 + 1,0,none⟩ e old ((((w.alloc (.cells #[.pointer (some t)] 137)).alloc (.cells #[.pointer (some ⟨15,137,none⟩),.pointer (some ⟨w.heap.size,0,none⟩),.int .u64 150] 189)).alloc (.cells #[.pointer (some ⟨15,137,none⟩),.pointer (some ⟨w.heap.size,0,none⟩),.int .u64 150] 189)).alloc (.cells #[.pointer (some e)] 129))
  (by rw [World.cell?_alloc_at _ _ _ _ (by simp)];rfl)
  (by rw [World.cell?_alloc_lt _ _ t (by simp;omega),World.cell?_alloc_lt _ _ t (by simp;omega),World.cell?_alloc_lt _ _ t (by simp;omega),World.cell?_alloc_lt _ _ t htl];exact ht0)
  (by rw [World.frozen?_alloc_old _ _ t (by simp;omega),World.frozen?_alloc_old _ _ t (by simp;omega),World.frozen?_alloc_old _ _ t (by simp;omega),World.frozen?_alloc_old _ _ t (Nat.ne_of_lt htl)];exact hf0)
 go_enter Tryz.func68,Tryz.ntmps68
 go_wp2
 refine wp_loop_rounds 1 ?_
 rw [rounds_succ]
 go_wp2
 go_ret
 exact ⟨rfl,rfl⟩
end Go.Proofs.YtmfejjlmflgnbaaGreatDoor.Sc

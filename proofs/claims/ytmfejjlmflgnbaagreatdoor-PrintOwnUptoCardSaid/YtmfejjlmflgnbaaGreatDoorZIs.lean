/- CONTRACT: errors.Is of package token's error and a number of its own kind: are the numbers the same? After the guide's worked text SentryIs, turned to this program. -/
import Derived.Test.YtmfejjlmflgnbaaGreatDoorZAs
namespace Go.Proofs.YtmfejjlmflgnbaaGreatDoor.Tok
open Go.RowKit Go.Extern.Stop Go.Stop Go.Extern
set_option linter.unusedVariables false
set_option linter.unusedSimpArgs false
set_option maxRecDepth 100000

theorem why_equalIn (d : Nat) {P : Program} {ti tn : TypeId} {ms : Array (String × TypeId)} {i : TypeInfo} {k : IntKind} (a b : Int) (w : World) (hi : P.underlying ti = some (.interface ms)) (hn : P.underlying tn = some (.int k)) (hinfo : P.info? tn = some i) (hcomp : i.comparable = true) :
    (Op.equalIn (d + 2) ti (.iface tn (.int k a)) (.iface tn (.int k b))).run P w = .ok (a == b) w := by
  simp [Op.equalIn, run_underlying hi, run_underlying hn, typeInfo, hinfo, hcomp]
theorem why_eql' {P : Program} {ti tn : TypeId} {ms : Array (String × TypeId)} {i : TypeInfo} {k : IntKind} (a b : Int) (w : World) (hi : P.underlying ti = some (.interface ms)) (hn : P.underlying tn = some (.int k)) (hinfo : P.info? tn = some i) (hcomp : i.comparable = true) :
    (binOp .eql ti (.iface tn (.int k a)) (.iface tn (.int k b))).run P w = .ok (.bool (a == b)) w := by
  simp only [binOp]
  simp [Op.equal, Op.maxDepth, why_equalIn 9998 a b w hi hn hinfo hcomp]
theorem why_eql (a b : Int) (w : World) : (binOp .eql 84 (.iface 109 (.int .i64 a)) (.iface 109 (.int .i64 b))).run Tryz.prog w = .ok (.bool (a == b)) w := by
  have hc : (Tryz.prog.info? 109).map (·.comparable) = some true := by kernel_rfl
  obtain ⟨i, hi, hcmp⟩ := Option.map_eq_some_iff.1 hc
  exact why_eql' a b w Tryz.underlying84 Tryz.underlying109 hi hcmp
theorem Ti.typeOf (v : Value) (w : World) : (Extern.ReflectliteType.typeOf #[.iface 109 v]).run Tryz.prog w = .ok (.iface 226 (.agg #[.pointer (some ⟨15, 109, none⟩)])) w := by kernel_rfl
theorem Ti.comparable (w : World) : (callFunc 238 #[.agg #[.pointer (some ⟨15, 109, none⟩)]]).run Tryz.prog w = .ok (.value (.bool true)) w := by
  have h := @run_callFunc_extern Tryz.prog 238 _ (Extern.ReflectliteType.method fun t => do Rtype.noPackHeld "Comparable" t; pure (.bool (← typeInfo t).comparable)) Tryz.func238 (by kernel_rfl) (by kernel_rfl) (by kernel_rfl) (by kernel_rfl)
  rw [h]
  have h2 : ((Extern.ReflectliteType.method fun t => do Rtype.noPackHeld "Comparable" t; pure (.bool (← typeInfo t).comparable)) #[.agg #[.pointer (some ⟨15, 109, none⟩)]]).run Tryz.prog w = .ok (.bool true) w := by kernel_rfl
  rw [h2]
  rfl
theorem Ti.methodComparable (v : Value) (w : World) : (Go.method 488 226 v "Comparable").run Tryz.prog w = .ok (238, v) w := by kernel_rfl
theorem Ti.noIsE (v : Value) (xT : TypeId) (w : World) : (Instr.typeAssert (.iface 109 v) xT 238 true).run Tryz.prog w = .ok (.tuple #[.nilIface, .bool false]) w := run_typeAssert_lacksB Tryz.underlying238 (by kernel_rfl) (by kernel_rfl) v xT w
theorem Ti.noUnwrapE (v : Value) (xT : TypeId) (w : World) : (Instr.typeAssert (.iface 109 v) xT 233 true).run Tryz.prog w = .ok (.tuple #[.nilIface, .bool false]) w := run_typeAssert_lacksB Tryz.underlying233 (by kernel_rfl) (by kernel_rfl) v xT w
theorem Ti.noUnwrapsE (v : Value) (xT : TypeId) (w : World) : (Instr.typeAssert (.iface 109 v) xT 235 true).run Tryz.prog w = .ok (.tuple #[.nilIface, .bool false]) w := run_typeAssert_lacksB Tryz.underlying235 (by kernel_rfl) (by kernel_rfl) v xT w
theorem Ti.noIsW (v : Value) (xT : TypeId) (w : World) : (Instr.typeAssert (.iface 108 v) xT 238 true).run Tryz.prog w = .ok (.tuple #[.nilIface, .bool false]) w := run_typeAssert_lacksB Tryz.underlying238 (by kernel_rfl) (by kernel_rfl) v xT w
theorem Ti.hasUnwrapW (v : Value) (xT : TypeId) (w : World) : (Instr.typeAssert (.iface 108 v) xT 233 true).run Tryz.prog w = .ok (.tuple #[.iface 108 v, .bool true]) w := run_typeAssert_hasB Tryz.underlying233 (by kernel_rfl) v xT w
theorem Ti.methodUnwrap (v : Value) (w : World) : (Go.method 488 108 v "Unwrap").run Tryz.prog w = .ok (229, v) w := by kernel_rfl
theorem is_calls (b : Nat) (c c' : Int) (w : World) (h1 : w.cell? ⟨b, 1, none⟩ = some (.iface 109 (.int .i64 c'))) (r : Bool) (hr : (c' == c) = r) :
    Calls Tryz.prog 82 #[.iface 108 (.pointer (some ⟨b, 0, none⟩)), .iface 109 (.int .i64 c)] w fun e w' => e = .returned (.bool r) ∧ w = w' := by
  have h8 := @run_callFunc_extern Tryz.prog 117 _ Extern.ReflectliteType.typeOf Tryz.func117 (by kernel_rfl) (by kernel_rfl) (by kernel_rfl) (by kernel_rfl)
  have tT := Ti.typeOf
  have cT := Ti.comparable
  have mR := Ti.methodComparable
  have nE := Ti.noIsE
  have uE := Ti.noUnwrapE
  have vE := Ti.noUnwrapsE
  have nW := Ti.noIsW
  have uW := Ti.hasUnwrapW
  have mU := Ti.methodUnwrap
  have heq := fun w => why_eql c' c w
  rw [hr] at heq
  clear hr
  have hty := run_eql_iface_types (P := Tryz.prog) 108 109 (.pointer (some ⟨b, 0, none⟩)) (.int .i64 c) Tryz.underlying84 (by decide) w
  cases r
  all_goals
    go_enter Tryz.func82, Tryz.ntmps82
    go_wp2
    refine wp_loop_rounds 2 ?_
    rw [rounds_succ]
    go_wp2
    rw [rounds_succ]
    go_wp2
    go_ret
    exact ⟨rfl, rfl⟩
end Go.Proofs.YtmfejjlmflgnbaaGreatDoor.Tok

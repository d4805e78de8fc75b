/- CONTRACT: errors.Is of package token's error and a number of its own kind: are the numbers the same? After the guide's worked text SentryIs, turned to this program. -/
import Derived.Test.YtpecmmicndcgjaaGreatDoorAs
namespace Go.Proofs.YtpecmmicndcgjaaGreatDoor.Tok
open Go.RowKit Go.Extern.Stop Go.Stop Go.Extern
set_option linter.unusedVariables false
set_option linter.unusedSimpArgs false
set_option maxRecDepth 100000

theorem why_equalIn (d : Nat) {P : Program} {ti tn : TypeId} {ms : Array (String × TypeId)} {i : TypeInfo} {k : IntKind} (a b : Int) (w : World) (hi : P.underlying ti = some (.interface ms)) (hn : P.underlying tn = some (.int k)) (hinfo : P.info? tn = some i) (hcomp : i.comparable = true) :
    (Op.equalIn (d + 2) ti (.iface tn (.int k a)) (.iface tn (.int k b))).run P w = .ok (a == b) w := by
  simp [Op.equalIn, run_underlying hi, run_underlying hn, typeInfo, hinfo, hcomp]
theorem why_eql' {P : Program} {ti tn : TypeId} {ms : Array (String × TypeId)} {i : TypeInfo} {k : IntKind} (a b : Int) (w : World) (hi : P.underlying ti = some (.interface ms)) (hn : P.underlying tn = some (.int k)) (hinfo : P.info? tn = some i) (hcomp : i.comparable = true) :
    (binOp .eql ti (.iface tn (.int k a)) (.iface tn (.int k b))).run P w = .ok (.bool (a == b)) w := by
  simp only [binOp]
  simp [Op.equal, Op.maxDepth, why_equalIn 9998 a b w hi hn hinfo hcomp]
theorem why_eql (a b : Int) (w : World) : (binOp .eql 52 (.iface 62 (.int .i64 a)) (.iface 62 (.int .i64 b))).run Tryz.prog w = .ok (.bool (a == b)) w := by
  have hc : (Tryz.prog.info? 62).map (·.comparable) = some true := by kernel_rfl
  obtain ⟨i, hi, hcmp⟩ := Option.map_eq_some_iff.1 hc
  exact why_eql' a b w Tryz.underlying52 Tryz.underlying62 hi hcmp
theorem Ti.typeOf (v : Value) (w : World) : (Extern.ReflectliteType.typeOf #[.iface 62 v]).run Tryz.prog w = .ok (.iface 143 (.agg #[.pointer (some ⟨10, 62, none⟩)])) w := by kernel_rfl
theorem Ti.comparable (w : World) : (callFunc 196 #[.agg #[.pointer (some ⟨10, 62, none⟩)]]).run Tryz.prog w = .ok (.value (.bool true)) w := by
  have h := @run_callFunc_extern Tryz.prog 196 _ (Extern.ReflectliteType.method fun t => do Rtype.noPackHeld "Comparable" t; pure (.bool (← typeInfo t).comparable)) Tryz.func196 (by kernel_rfl) (by kernel_rfl) (by kernel_rfl) (by kernel_rfl)
  rw [h]
  have h2 : ((Extern.ReflectliteType.method fun t => do Rtype.noPackHeld "Comparable" t; pure (.bool (← typeInfo t).comparable)) #[.agg #[.pointer (some ⟨10, 62, none⟩)]]).run Tryz.prog w = .ok (.bool true) w := by kernel_rfl
  rw [h2]
  rfl
theorem Ti.methodComparable (v : Value) (w : World) : (Go.method 410 143 v "Comparable").run Tryz.prog w = .ok (196, v) w := by kernel_rfl
theorem Ti.noIsE (v : Value) (xT : TypeId) (w : World) : (Instr.typeAssert (.iface 62 v) xT 155 true).run Tryz.prog w = .ok (.tuple #[.nilIface, .bool false]) w := run_typeAssert_lacksB Tryz.underlying155 (by kernel_rfl) (by kernel_rfl) v xT w
theorem Ti.noUnwrapE (v : Value) (xT : TypeId) (w : World) : (Instr.typeAssert (.iface 62 v) xT 150 true).run Tryz.prog w = .ok (.tuple #[.nilIface, .bool false]) w := run_typeAssert_lacksB Tryz.underlying150 (by kernel_rfl) (by kernel_rfl) v xT w
theorem Ti.noUnwrapsE (v : Value) (xT : TypeId) (w : World) : (Instr.typeAssert (.iface 62 v) xT 152 true).run Tryz.prog w = .ok (.tuple #[.nilIface, .bool false]) w := run_typeAssert_lacksB Tryz.underlying152 (by kernel_rfl) (by kernel_rfl) v xT w
theorem Ti.noIsW (v : Value) (xT : TypeId) (w : World) : (Instr.typeAssert (.iface 55 v) xT 155 true).run Tryz.prog w = .ok (.tuple #[.nilIface, .bool false]) w := run_typeAssert_lacksB Tryz.underlying155 (by kernel_rfl) (by kernel_rfl) v xT w
theorem Ti.hasUnwrapW (v : Value) (xT : TypeId) (w : World) : (Instr.typeAssert (.iface 55 v) xT 150 true).run Tryz.prog w = .ok (.tuple #[.iface 55 v, .bool true]) w := run_typeAssert_hasB Tryz.underlying150 (by kernel_rfl) v xT w
theorem Ti.methodUnwrap (v : Value) (w : World) : (Go.method 410 55 v "Unwrap").run Tryz.prog w = .ok (188, v) w := by kernel_rfl
theorem is_calls (b : Nat) (c c' : Int) (w : World) (h1 : w.cell? ⟨b, 1, none⟩ = some (.iface 62 (.int .i64 c'))) (r : Bool) (hr : (c' == c) = r) :
    Calls Tryz.prog 25 #[.iface 55 (.pointer (some ⟨b, 0, none⟩)), .iface 62 (.int .i64 c)] w fun e w' => e = .returned (.bool r) ∧ w = w' := by
  have h8 := @run_callFunc_extern Tryz.prog 52 _ Extern.ReflectliteType.typeOf Tryz.func52 (by kernel_rfl) (by kernel_rfl) (by kernel_rfl) (by kernel_rfl)
  have tT := Ti.typeOf
  have cT := Ti.comparable
  have mR := Ti.methodComparable
  have nE := Ti.noIsE
  have uE := Ti.noUnwrapE
  have vE := Ti.noUnwrapsE
  have nW := Ti.noIsW
  have uW := Ti.hasUnwrapW
  have mU := Ti.methodUnwrap
  have heq := fun w => why_eql c' c w
  rw [hr] at heq
  clear hr
  have hty := run_eql_iface_types (P := Tryz.prog) 55 62 (.pointer (some ⟨b, 0, none⟩)) (.int .i64 c) Tryz.underlying52 (by decide) w
  cases r
  all_goals
    go_enter Tryz.func25, Tryz.ntmps25
    go_wp2
    refine wp_loop_rounds 2 ?_
    rw [rounds_succ]
    go_wp2
    rw [rounds_succ]
    go_wp2
    go_ret
    exact ⟨rfl, rfl⟩
end Go.Proofs.YtpecmmicndcgjaaGreatDoor.Tok

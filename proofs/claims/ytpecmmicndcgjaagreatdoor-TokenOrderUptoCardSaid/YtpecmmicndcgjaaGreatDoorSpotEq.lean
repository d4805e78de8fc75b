/- Two spots with the same numbers are equal: the run of '==' and '!=' on them. -/
import Derived.Test.YtpecmmicndcgjaaGreatDoorLive
import Derived.Laws.StructEq
namespace Go.Proofs.YtpecmmicndcgjaaGreatDoor.Tok
open Go.RowKit
set_option linter.unusedVariables false
set_option linter.unusedSimpArgs false
set_option maxRecDepth 100000
theorem spot_eqIn (a b c a' b' c' : Int) (w : World) : (Op.equalIn 10000 25 (.agg #[.int .i64 a, .int .i64 b, .int .i64 c]) (.agg #[.int .i64 a', .int .i64 b', .int .i64 c'])).run Tryz.prog w = .ok (a == a' && (b == b' && c == c')) w := by
  have hf : Tryz.prog.fieldsOf 25 = #[{ name := "Off", type := 3, offset := 0, embedded := false, tag := "", pkgPath := "", byteOffset := 0 }, { name := "Line", type := 3, offset := 1, embedded := false, tag := "", pkgPath := "", byteOffset := 8 }, { name := "Col", type := 3, offset := 2, embedded := false, tag := "", pkgPath := "", byteOffset := 16 }] := by
    simp [Program.fieldsOf, Tryz.underlying25]
  have hu : Tryz.prog.underlying 25 = some (.struct (Tryz.prog.fieldsOf 25)) := by rw [hf]; exact Tryz.underlying25
  rw [show (10000 : Nat) = 9999 + 1 from rfl, run_equalIn_struct w 9999 25 _ _ hu (by kernel_rfl), hf]
  have u3 := Tryz.underlying3
  go_simp
  by_cases h1 : a = a' <;> by_cases h2 : b = b' <;> by_cases h3 : c = c' <;> simp [h1, h2, h3]
theorem spot_neq (a b c : Int) (W : World) : (binOp .neq 25 (.agg #[.int .i64 a, .int .i64 b, .int .i64 c]) (.agg #[.int .i64 a, .int .i64 b, .int .i64 c])).run Tryz.prog W = .ok (.bool false) W := by
  simp only [go_sem, binOp, Op.equal, Sem.run_bind]
  rw [show Op.maxDepth = 10000 from rfl, spot_eqIn]
  simp [go_sem]
theorem int_gtr (a b : Int) (h : a ≤ b) (W : World) : (binOp .gtr 3 (.int .i64 a) (.int .i64 b)).run Tryz.prog W = .ok (.bool false) W := by
  have u3 := Tryz.underlying3
  have d : decide (b < a) = false := decide_eq_false (by omega)
  simp [go_sem, binOp, d]
  try omega
theorem int_leq (a b : Int) (h : a ≤ b) (W : World) : (binOp .leq 3 (.int .i64 a) (.int .i64 b)).run Tryz.prog W = .ok (.bool true) W := by
  have u3 := Tryz.underlying3
  simp [go_sem, binOp]
  try omega
theorem int_leq_f (a b : Int) (h : b < a) (W : World) : (binOp .leq 3 (.int .i64 a) (.int .i64 b)).run Tryz.prog W = .ok (.bool false) W := by
  have u3 := Tryz.underlying3
  simp [go_sem, binOp]
  try omega
end Go.Proofs.YtpecmmicndcgjaaGreatDoor.Tok

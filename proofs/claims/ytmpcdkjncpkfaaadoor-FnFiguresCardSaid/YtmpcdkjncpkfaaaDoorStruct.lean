/-
  The model's == and != at the program's structs of ints. Conditions: none.
-/
import Derived.Test.YtmpcdkjncpkfaaaDoorKit
import Derived.Laws.StructEq
namespace Go.Proofs.YtmpcdkjncpkfaaaDoor
open Go.RowKit
set_option linter.unusedVariables false

set_option maxHeartbeats 1600000 in
theorem equalIn_Stamp (d : Nat) (a b c e : Int) (w : World) : (Op.equalIn (d + 2) 33 (.agg #[.int .i64 a, .int .i64 b]) (.agg #[.int .i64 c, .int .i64 e])).run Tryd.prog w = .ok (decide (a = c ∧ b = e)) w := by
  have hS0 : Tryd.prog.underlying 33 = some (.struct (Tryd.prog.fieldsOf 33)) := by kernel_rfl
  have hp0 : Tryd.prog.stoodInHeld 33 = false := by kernel_rfl
  have u3 := Tryd.underlying3
  have a3 := Tryd.isAgg3
  have z3 := Tryd.sizeOf3
  rw [run_equalIn_agg w (d + 1) 33 _ _ hS0 hp0]
  simp only [Program.fieldsOf, Tryd.underlying33]
  go_simp
  by_cases h0 : a = c <;> by_cases h1 : b = e <;> simp [h0, h1]
theorem neq_Stamp (a b c e : Int) (w : World) : (binOp .neq 33 (.agg #[.int .i64 a, .int .i64 b]) (.agg #[.int .i64 c, .int .i64 e])).run Tryd.prog w = .ok (.bool (!decide (a = c ∧ b = e))) w := by
  rw [run_neq_struct]
  have h := equalIn_Stamp 9998 a b c e w
  rw [show (9998 + 2 : Nat) = 10000 from rfl] at h
  rw [h]
  rfl
theorem eql_Stamp (a b c e : Int) (w : World) : (binOp .eql 33 (.agg #[.int .i64 a, .int .i64 b]) (.agg #[.int .i64 c, .int .i64 e])).run Tryd.prog w = .ok (.bool (decide (a = c ∧ b = e))) w := by
  rw [run_eql_struct]
  have h := equalIn_Stamp 9998 a b c e w
  rw [show (9998 + 2 : Nat) = 10000 from rfl] at h
  rw [h]
  rfl
theorem guard_Stamp (op : BinOp) (x y : Operand) (xs ys : Array Value) (w : World) : (eqGuard op 33 x y (.agg xs) (.agg ys)).run Tryd.prog w = .ok () w := run_eqGuard_agg w op _ _ _ _ _ (by kernel_rfl)
attribute [go_sem] neq_Stamp eql_Stamp guard_Stamp
end Go.Proofs.YtmpcdkjncpkfaaaDoor

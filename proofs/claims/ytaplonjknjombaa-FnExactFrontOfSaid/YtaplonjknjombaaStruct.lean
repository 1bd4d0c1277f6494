/-
  The model's == and != at the program's structs of ints. Conditions: none.
-/
import Derived.Test.YtaplonjknjombaaKit
import Derived.Laws.StructEq
namespace Go.Proofs.Ytaplonjknjombaa
open Go.RowKit
set_option linter.unusedVariables false

set_option maxHeartbeats 1600000 in
theorem equalIn_Stamp (d : Nat) (a b c e : Int) (w : World) : (Op.equalIn (d + 2) 42 (.agg #[.int .i64 a, .int .i64 b]) (.agg #[.int .i64 c, .int .i64 e])).run Try.prog w = .ok (decide (a = c ∧ b = e)) w := by
  have hS0 : Try.prog.underlying 42 = some (.struct (Try.prog.fieldsOf 42)) := by kernel_rfl
  have hp0 : Try.prog.stoodInHeld 42 = false := by kernel_rfl
  have u3 := Try.underlying3
  have a3 := Try.isAgg3
  have z3 := Try.sizeOf3
  rw [run_equalIn_agg w (d + 1) 42 _ _ hS0 hp0]
  simp only [Program.fieldsOf, Try.underlying42]
  go_simp
  by_cases h0 : a = c <;> by_cases h1 : b = e <;> simp [h0, h1]
theorem neq_Stamp (a b c e : Int) (w : World) : (binOp .neq 42 (.agg #[.int .i64 a, .int .i64 b]) (.agg #[.int .i64 c, .int .i64 e])).run Try.prog w = .ok (.bool (!decide (a = c ∧ b = e))) w := by
  rw [run_neq_struct]
  have h := equalIn_Stamp 9998 a b c e w
  rw [show (9998 + 2 : Nat) = 10000 from rfl] at h
  rw [h]
  rfl
theorem eql_Stamp (a b c e : Int) (w : World) : (binOp .eql 42 (.agg #[.int .i64 a, .int .i64 b]) (.agg #[.int .i64 c, .int .i64 e])).run Try.prog w = .ok (.bool (decide (a = c ∧ b = e))) w := by
  rw [run_eql_struct]
  have h := equalIn_Stamp 9998 a b c e w
  rw [show (9998 + 2 : Nat) = 10000 from rfl] at h
  rw [h]
  rfl
theorem guard_Stamp (op : BinOp) (x y : Operand) (xs ys : Array Value) (w : World) : (eqGuard op 42 x y (.agg xs) (.agg ys)).run Try.prog w = .ok () w := run_eqGuard_agg w op _ _ _ _ _ (by kernel_rfl)
attribute [go_sem] neq_Stamp eql_Stamp guard_Stamp
set_option maxHeartbeats 1600000 in
theorem equalIn_Count (d : Nat) (a b n c e m : Int) (w : World) : (Op.equalIn (d + 3) 52 (.agg #[.int .i64 a, .int .i64 b, .int .i64 n]) (.agg #[.int .i64 c, .int .i64 e, .int .i64 m])).run Try.prog w = .ok (decide (a = c ∧ b = e ∧ n = m)) w := by
  have hS0 : Try.prog.underlying 52 = some (.struct (Try.prog.fieldsOf 52)) := by kernel_rfl
  have hp0 : Try.prog.stoodInHeld 52 = false := by kernel_rfl
  have u3 := Try.underlying3
  have a3 := Try.isAgg3
  have z3 := Try.sizeOf3
  have a30 := Try.isAgg42
  have z30 := Try.sizeOf42
  have hn0 := fun (u : World) (a b c d' : Int) => equalIn_Stamp d a b c d' u
  rw [run_equalIn_agg w (d + 2) 52 _ _ hS0 hp0]
  simp only [Program.fieldsOf, Try.underlying52]
  go_simp
  by_cases h0 : a = c <;> by_cases h1 : b = e <;> by_cases h2 : n = m <;> simp [h0, h1, h2]
theorem neq_Count (a b n c e m : Int) (w : World) : (binOp .neq 52 (.agg #[.int .i64 a, .int .i64 b, .int .i64 n]) (.agg #[.int .i64 c, .int .i64 e, .int .i64 m])).run Try.prog w = .ok (.bool (!decide (a = c ∧ b = e ∧ n = m))) w := by
  rw [run_neq_struct]
  have h := equalIn_Count 9997 a b n c e m w
  rw [show (9997 + 3 : Nat) = 10000 from rfl] at h
  rw [h]
  rfl
theorem eql_Count (a b n c e m : Int) (w : World) : (binOp .eql 52 (.agg #[.int .i64 a, .int .i64 b, .int .i64 n]) (.agg #[.int .i64 c, .int .i64 e, .int .i64 m])).run Try.prog w = .ok (.bool (decide (a = c ∧ b = e ∧ n = m))) w := by
  rw [run_eql_struct]
  have h := equalIn_Count 9997 a b n c e m w
  rw [show (9997 + 3 : Nat) = 10000 from rfl] at h
  rw [h]
  rfl
theorem guard_Count (op : BinOp) (x y : Operand) (xs ys : Array Value) (w : World) : (eqGuard op 52 x y (.agg xs) (.agg ys)).run Try.prog w = .ok () w := run_eqGuard_agg w op _ _ _ _ _ (by kernel_rfl)
attribute [go_sem] neq_Count eql_Count guard_Count
end Go.Proofs.Ytaplonjknjombaa

/-
  The model's == and != at the program's structs of ints. Conditions: none.
-/
import Derived.Test.YthnemjaipdheoaaKit
import Derived.Laws.StructEq
namespace Go.Proofs.Ythnemjaipdheoaa
open Go.RowKit
set_option linter.unusedVariables false

set_option maxHeartbeats 1600000 in
theorem equalIn_Stamp (d : Nat) (a b c e : Int) (w : World) : (Op.equalIn (d + 2) 26 (.agg #[.int .i64 a, .int .i64 b]) (.agg #[.int .i64 c, .int .i64 e])).run Try.prog w = .ok (decide (a = c ∧ b = e)) w := by
  have hS0 : Try.prog.underlying 26 = some (.struct (Try.prog.fieldsOf 26)) := by kernel_rfl
  have hp0 : Try.prog.stoodInHeld 26 = false := by kernel_rfl
  have u3 := Try.underlying3
  have a3 := Try.isAgg3
  have z3 := Try.sizeOf3
  rw [run_equalIn_agg w (d + 1) 26 _ _ hS0 hp0]
  simp only [Program.fieldsOf, Try.underlying26]
  go_simp
  by_cases h0 : a = c <;> by_cases h1 : b = e <;> simp [h0, h1]
theorem neq_Stamp (a b c e : Int) (w : World) : (binOp .neq 26 (.agg #[.int .i64 a, .int .i64 b]) (.agg #[.int .i64 c, .int .i64 e])).run Try.prog w = .ok (.bool (!decide (a = c ∧ b = e))) w := by
  rw [run_neq_struct]
  have h := equalIn_Stamp 9998 a b c e w
  rw [show (9998 + 2 : Nat) = 10000 from rfl] at h
  rw [h]
  rfl
theorem eql_Stamp (a b c e : Int) (w : World) : (binOp .eql 26 (.agg #[.int .i64 a, .int .i64 b]) (.agg #[.int .i64 c, .int .i64 e])).run Try.prog w = .ok (.bool (decide (a = c ∧ b = e))) w := by
  rw [run_eql_struct]
  have h := equalIn_Stamp 9998 a b c e w
  rw [show (9998 + 2 : Nat) = 10000 from rfl] at h
  rw [h]
  rfl
theorem guard_Stamp (op : BinOp) (x y : Operand) (xs ys : Array Value) (w : World) : (eqGuard op 26 x y (.agg xs) (.agg ys)).run Try.prog w = .ok () w := run_eqGuard_agg w op _ _ _ _ _ (by kernel_rfl)
attribute [go_sem] neq_Stamp eql_Stamp guard_Stamp
set_option maxHeartbeats 1600000 in
theorem equalIn_Count (d : Nat) (a b n c e m : Int) (w : World) : (Op.equalIn (d + 3) 51 (.agg #[.int .i64 a, .int .i64 b, .int .i64 n]) (.agg #[.int .i64 c, .int .i64 e, .int .i64 m])).run Try.prog w = .ok (decide (a = c ∧ b = e ∧ n = m)) w := by
  have hS0 : Try.prog.underlying 51 = some (.struct (Try.prog.fieldsOf 51)) := by kernel_rfl
  have hp0 : Try.prog.stoodInHeld 51 = false := by kernel_rfl
  have u3 := Try.underlying3
  have a3 := Try.isAgg3
  have z3 := Try.sizeOf3
  have a30 := Try.isAgg26
  have z30 := Try.sizeOf26
  have hn0 := fun (u : World) (a b c d' : Int) => equalIn_Stamp d a b c d' u
  rw [run_equalIn_agg w (d + 2) 51 _ _ hS0 hp0]
  simp only [Program.fieldsOf, Try.underlying51]
  go_simp
  by_cases h0 : a = c <;> by_cases h1 : b = e <;> by_cases h2 : n = m <;> simp [h0, h1, h2]
theorem neq_Count (a b n c e m : Int) (w : World) : (binOp .neq 51 (.agg #[.int .i64 a, .int .i64 b, .int .i64 n]) (.agg #[.int .i64 c, .int .i64 e, .int .i64 m])).run Try.prog w = .ok (.bool (!decide (a = c ∧ b = e ∧ n = m))) w := by
  rw [run_neq_struct]
  have h := equalIn_Count 9997 a b n c e m w
  rw [show (9997 + 3 : Nat) = 10000 from rfl] at h
  rw [h]
  rfl
theorem eql_Count (a b n c e m : Int) (w : World) : (binOp .eql 51 (.agg #[.int .i64 a, .int .i64 b, .int .i64 n]) (.agg #[.int .i64 c, .int .i64 e, .int .i64 m])).run Try.prog w = .ok (.bool (decide (a = c ∧ b = e ∧ n = m))) w := by
  rw [run_eql_struct]
  have h := equalIn_Count 9997 a b n c e m w
  rw [show (9997 + 3 : Nat) = 10000 from rfl] at h
  rw [h]
  rfl
theorem guard_Count (op : BinOp) (x y : Operand) (xs ys : Array Value) (w : World) : (eqGuard op 51 x y (.agg xs) (.agg ys)).run Try.prog w = .ok () w := run_eqGuard_agg w op _ _ _ _ _ (by kernel_rfl)
attribute [go_sem] neq_Count eql_Count guard_Count
end Go.Proofs.Ythnemjaipdheoaa

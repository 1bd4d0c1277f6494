/-
  The model's == and != at the program's structs of ints. Conditions: none.
-/
import Derived.Test.YtcmhmdccfihhiaaKit
import Derived.Laws.StructEq
namespace Go.Proofs.Ytcmhmdccfihhiaa
open Go.RowKit
set_option linter.unusedVariables false

set_option maxHeartbeats 1600000 in
theorem equalIn_Stamp (d : Nat) (a b c e : Int) (w : World) : (Op.equalIn (d + 2) 31 (.agg #[.int .i64 a, .int .i64 b]) (.agg #[.int .i64 c, .int .i64 e])).run Try.prog w = .ok (decide (a = c ∧ b = e)) w := by
  have hS0 : Try.prog.underlying 31 = some (.struct (Try.prog.fieldsOf 31)) := by kernel_rfl
  have hp0 : Try.prog.stoodInHeld 31 = false := by kernel_rfl
  have u3 := Try.underlying3
  have a3 := Try.isAgg3
  have z3 := Try.sizeOf3
  rw [run_equalIn_agg w (d + 1) 31 _ _ hS0 hp0]
  simp only [Program.fieldsOf, Try.underlying31]
  go_simp
  by_cases h0 : a = c <;> by_cases h1 : b = e <;> simp [h0, h1]
theorem neq_Stamp (a b c e : Int) (w : World) : (binOp .neq 31 (.agg #[.int .i64 a, .int .i64 b]) (.agg #[.int .i64 c, .int .i64 e])).run Try.prog w = .ok (.bool (!decide (a = c ∧ b = e))) w := by
  rw [run_neq_struct]
  have h := equalIn_Stamp 9998 a b c e w
  rw [show (9998 + 2 : Nat) = 10000 from rfl] at h
  rw [h]
  rfl
theorem eql_Stamp (a b c e : Int) (w : World) : (binOp .eql 31 (.agg #[.int .i64 a, .int .i64 b]) (.agg #[.int .i64 c, .int .i64 e])).run Try.prog w = .ok (.bool (decide (a = c ∧ b = e))) w := by
  rw [run_eql_struct]
  have h := equalIn_Stamp 9998 a b c e w
  rw [show (9998 + 2 : Nat) = 10000 from rfl] at h
  rw [h]
  rfl
theorem guard_Stamp (op : BinOp) (x y : Operand) (xs ys : Array Value) (w : World) : (eqGuard op 31 x y (.agg xs) (.agg ys)).run Try.prog w = .ok () w := run_eqGuard_agg w op _ _ _ _ _ (by kernel_rfl)
attribute [go_sem] neq_Stamp eql_Stamp guard_Stamp
set_option maxHeartbeats 1600000 in
theorem equalIn_Record (d : Nat) (o a b k v o' c e k' v' : Int) (w : World) : (Op.equalIn (d + 3) 33 (.agg #[.int .i64 o, .int .i64 a, .int .i64 b, .int .i64 k, .int .i64 v]) (.agg #[.int .i64 o', .int .i64 c, .int .i64 e, .int .i64 k', .int .i64 v'])).run Try.prog w = .ok (decide (o = o' ∧ a = c ∧ b = e ∧ k = k' ∧ v = v')) w := by
  have hS0 : Try.prog.underlying 33 = some (.struct (Try.prog.fieldsOf 33)) := by kernel_rfl
  have hp0 : Try.prog.stoodInHeld 33 = false := by kernel_rfl
  have u3 := Try.underlying3
  have a3 := Try.isAgg3
  have z3 := Try.sizeOf3
  have a30 := Try.isAgg31
  have z30 := Try.sizeOf31
  have hn0 := fun (u : World) (a b c d' : Int) => equalIn_Stamp d a b c d' u
  rw [run_equalIn_agg w (d + 2) 33 _ _ hS0 hp0]
  simp only [Program.fieldsOf, Try.underlying33]
  go_simp
  by_cases h0 : o = o' <;> by_cases h1 : a = c <;> by_cases h2 : b = e <;> by_cases h3 : k = k' <;> by_cases h4 : v = v' <;> simp [h0, h1, h2, h3, h4]
theorem neq_Record (o a b k v o' c e k' v' : Int) (w : World) : (binOp .neq 33 (.agg #[.int .i64 o, .int .i64 a, .int .i64 b, .int .i64 k, .int .i64 v]) (.agg #[.int .i64 o', .int .i64 c, .int .i64 e, .int .i64 k', .int .i64 v'])).run Try.prog w = .ok (.bool (!decide (o = o' ∧ a = c ∧ b = e ∧ k = k' ∧ v = v'))) w := by
  rw [run_neq_struct]
  have h := equalIn_Record 9997 o a b k v o' c e k' v' w
  rw [show (9997 + 3 : Nat) = 10000 from rfl] at h
  rw [h]
  rfl
theorem eql_Record (o a b k v o' c e k' v' : Int) (w : World) : (binOp .eql 33 (.agg #[.int .i64 o, .int .i64 a, .int .i64 b, .int .i64 k, .int .i64 v]) (.agg #[.int .i64 o', .int .i64 c, .int .i64 e, .int .i64 k', .int .i64 v'])).run Try.prog w = .ok (.bool (decide (o = o' ∧ a = c ∧ b = e ∧ k = k' ∧ v = v'))) w := by
  rw [run_eql_struct]
  have h := equalIn_Record 9997 o a b k v o' c e k' v' w
  rw [show (9997 + 3 : Nat) = 10000 from rfl] at h
  rw [h]
  rfl
theorem guard_Record (op : BinOp) (x y : Operand) (xs ys : Array Value) (w : World) : (eqGuard op 33 x y (.agg xs) (.agg ys)).run Try.prog w = .ok () w := run_eqGuard_agg w op _ _ _ _ _ (by kernel_rfl)
attribute [go_sem] neq_Record eql_Record guard_Record
end Go.Proofs.Ytcmhmdccfihhiaa

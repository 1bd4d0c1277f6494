/-
  The model's == and != at the program's structs of ints. Conditions: none.
-/
import Derived.Test.YtcjdfecajlgcmaaDoorKit
import Derived.Laws.StructEq
namespace Go.Proofs.YtcjdfecajlgcmaaDoor
open Go.RowKit
set_option linter.unusedVariables false

set_option maxHeartbeats 1600000 in
theorem equalIn_Stamp (d : Nat) (a b c e : Int) (w : World) : (Op.equalIn (d + 2) 30 (.agg #[.int .i64 a, .int .i64 b]) (.agg #[.int .i64 c, .int .i64 e])).run Tryd.prog w = .ok (decide (a = c ∧ b = e)) w := by
  have hS0 : Tryd.prog.underlying 30 = some (.struct (Tryd.prog.fieldsOf 30)) := by kernel_rfl
  have hp0 : Tryd.prog.stoodInHeld 30 = false := by kernel_rfl
  have u3 := Tryd.underlying3
  have a3 := Tryd.isAgg3
  have z3 := Tryd.sizeOf3
  rw [run_equalIn_agg w (d + 1) 30 _ _ hS0 hp0]
  simp only [Program.fieldsOf, Tryd.underlying30]
  go_simp
  by_cases h0 : a = c <;> by_cases h1 : b = e <;> simp [h0, h1]
theorem neq_Stamp (a b c e : Int) (w : World) : (binOp .neq 30 (.agg #[.int .i64 a, .int .i64 b]) (.agg #[.int .i64 c, .int .i64 e])).run Tryd.prog w = .ok (.bool (!decide (a = c ∧ b = e))) w := by
  rw [run_neq_struct]
  have h := equalIn_Stamp 9998 a b c e w
  rw [show (9998 + 2 : Nat) = 10000 from rfl] at h
  rw [h]
  rfl
theorem eql_Stamp (a b c e : Int) (w : World) : (binOp .eql 30 (.agg #[.int .i64 a, .int .i64 b]) (.agg #[.int .i64 c, .int .i64 e])).run Tryd.prog w = .ok (.bool (decide (a = c ∧ b = e))) w := by
  rw [run_eql_struct]
  have h := equalIn_Stamp 9998 a b c e w
  rw [show (9998 + 2 : Nat) = 10000 from rfl] at h
  rw [h]
  rfl
theorem guard_Stamp (op : BinOp) (x y : Operand) (xs ys : Array Value) (w : World) : (eqGuard op 30 x y (.agg xs) (.agg ys)).run Tryd.prog w = .ok () w := run_eqGuard_agg w op _ _ _ _ _ (by kernel_rfl)
attribute [go_sem] neq_Stamp eql_Stamp guard_Stamp
set_option maxHeartbeats 1600000 in
theorem equalIn_Count (d : Nat) (a b n c e m : Int) (w : World) : (Op.equalIn (d + 3) 62 (.agg #[.int .i64 a, .int .i64 b, .int .i64 n]) (.agg #[.int .i64 c, .int .i64 e, .int .i64 m])).run Tryd.prog w = .ok (decide (a = c ∧ b = e ∧ n = m)) w := by
  have hS0 : Tryd.prog.underlying 62 = some (.struct (Tryd.prog.fieldsOf 62)) := by kernel_rfl
  have hp0 : Tryd.prog.stoodInHeld 62 = false := by kernel_rfl
  have u3 := Tryd.underlying3
  have a3 := Tryd.isAgg3
  have z3 := Tryd.sizeOf3
  have a30 := Tryd.isAgg30
  have z30 := Tryd.sizeOf30
  have hn0 := fun (u : World) (a b c d' : Int) => equalIn_Stamp d a b c d' u
  rw [run_equalIn_agg w (d + 2) 62 _ _ hS0 hp0]
  simp only [Program.fieldsOf, Tryd.underlying62]
  go_simp
  by_cases h0 : a = c <;> by_cases h1 : b = e <;> by_cases h2 : n = m <;> simp [h0, h1, h2]
theorem neq_Count (a b n c e m : Int) (w : World) : (binOp .neq 62 (.agg #[.int .i64 a, .int .i64 b, .int .i64 n]) (.agg #[.int .i64 c, .int .i64 e, .int .i64 m])).run Tryd.prog w = .ok (.bool (!decide (a = c ∧ b = e ∧ n = m))) w := by
  rw [run_neq_struct]
  have h := equalIn_Count 9997 a b n c e m w
  rw [show (9997 + 3 : Nat) = 10000 from rfl] at h
  rw [h]
  rfl
theorem eql_Count (a b n c e m : Int) (w : World) : (binOp .eql 62 (.agg #[.int .i64 a, .int .i64 b, .int .i64 n]) (.agg #[.int .i64 c, .int .i64 e, .int .i64 m])).run Tryd.prog w = .ok (.bool (decide (a = c ∧ b = e ∧ n = m))) w := by
  rw [run_eql_struct]
  have h := equalIn_Count 9997 a b n c e m w
  rw [show (9997 + 3 : Nat) = 10000 from rfl] at h
  rw [h]
  rfl
theorem guard_Count (op : BinOp) (x y : Operand) (xs ys : Array Value) (w : World) : (eqGuard op 62 x y (.agg xs) (.agg ys)).run Tryd.prog w = .ok () w := run_eqGuard_agg w op _ _ _ _ _ (by kernel_rfl)
attribute [go_sem] neq_Count eql_Count guard_Count
set_option maxHeartbeats 1600000 in
theorem equalIn_Record (d : Nat) (o a b k v o' c e k' v' : Int) (w : World) : (Op.equalIn (d + 3) 32 (.agg #[.int .i64 o, .int .i64 a, .int .i64 b, .int .i64 k, .int .i64 v]) (.agg #[.int .i64 o', .int .i64 c, .int .i64 e, .int .i64 k', .int .i64 v'])).run Tryd.prog w = .ok (decide (o = o' ∧ a = c ∧ b = e ∧ k = k' ∧ v = v')) w := by
  have hS0 : Tryd.prog.underlying 32 = some (.struct (Tryd.prog.fieldsOf 32)) := by kernel_rfl
  have hp0 : Tryd.prog.stoodInHeld 32 = false := by kernel_rfl
  have u3 := Tryd.underlying3
  have a3 := Tryd.isAgg3
  have z3 := Tryd.sizeOf3
  have a30 := Tryd.isAgg30
  have z30 := Tryd.sizeOf30
  have hn0 := fun (u : World) (a b c d' : Int) => equalIn_Stamp d a b c d' u
  rw [run_equalIn_agg w (d + 2) 32 _ _ hS0 hp0]
  simp only [Program.fieldsOf, Tryd.underlying32]
  go_simp
  by_cases h0 : o = o' <;> by_cases h1 : a = c <;> by_cases h2 : b = e <;> by_cases h3 : k = k' <;> by_cases h4 : v = v' <;> simp [h0, h1, h2, h3, h4]
theorem neq_Record (o a b k v o' c e k' v' : Int) (w : World) : (binOp .neq 32 (.agg #[.int .i64 o, .int .i64 a, .int .i64 b, .int .i64 k, .int .i64 v]) (.agg #[.int .i64 o', .int .i64 c, .int .i64 e, .int .i64 k', .int .i64 v'])).run Tryd.prog w = .ok (.bool (!decide (o = o' ∧ a = c ∧ b = e ∧ k = k' ∧ v = v'))) w := by
  rw [run_neq_struct]
  have h := equalIn_Record 9997 o a b k v o' c e k' v' w
  rw [show (9997 + 3 : Nat) = 10000 from rfl] at h
  rw [h]
  rfl
theorem eql_Record (o a b k v o' c e k' v' : Int) (w : World) : (binOp .eql 32 (.agg #[.int .i64 o, .int .i64 a, .int .i64 b, .int .i64 k, .int .i64 v]) (.agg #[.int .i64 o', .int .i64 c, .int .i64 e, .int .i64 k', .int .i64 v'])).run Tryd.prog w = .ok (.bool (decide (o = o' ∧ a = c ∧ b = e ∧ k = k' ∧ v = v'))) w := by
  rw [run_eql_struct]
  have h := equalIn_Record 9997 o a b k v o' c e k' v' w
  rw [show (9997 + 3 : Nat) = 10000 from rfl] at h
  rw [h]
  rfl
theorem guard_Record (op : BinOp) (x y : Operand) (xs ys : Array Value) (w : World) : (eqGuard op 32 x y (.agg xs) (.agg ys)).run Tryd.prog w = .ok () w := run_eqGuard_agg w op _ _ _ _ _ (by kernel_rfl)
attribute [go_sem] neq_Record eql_Record guard_Record
end Go.Proofs.YtcjdfecajlgcmaaDoor

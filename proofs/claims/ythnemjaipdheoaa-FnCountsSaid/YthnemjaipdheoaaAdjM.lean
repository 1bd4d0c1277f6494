/-
  Adjust of the program and of the reference, in one contract each. Conditions: the length is at most 2^40.
-/
import Derived.Test.YthnemjaipdheoaaAdjI
import Derived.Test.YthnemjaipdheoaaAdjS
namespace Go.Proofs.Ythnemjaipdheoaa
open Go.RowKit
set_option linter.unusedVariables false

theorem m_iAdjust (A : Option Addr) (n c : Nat) (xs : List ((Int × Int) × Int)) (a b m : Int) (w : World) (R : List ((Int × Int) × Int)) (K : Bool) (hn : xs.length = n) (hn2 : n ≤ 1099511627776) (hm : I64 m) (hR : (adjust xs a b m).1 = R) (hK : (adjust xs a b m).2 = K)
    (ha : Row encC 3 w A xs) : Calls Try.prog 6 #[.slice A n c, .agg #[.int .i64 a, .int .i64 b], .int .i64 m] w (MadeOwn encC 3 (fun v => .tuple #[v, .bool K]) R w) := by
  subst hR hK
  unfold adjust
  cases hgo : adjGo xs a b m
  · exact c_iAdjust_no A n c xs a b m w hn hn2 hm ha hgo
  · exact c_iAdjust_yes A n c xs a b m w hn hn2 hm ha hgo
theorem m_sAdjust (A : Option Addr) (n c : Nat) (xs : List ((Int × Int) × Int)) (a b m : Int) (w : World) (R : List ((Int × Int) × Int)) (K : Bool) (hn : xs.length = n) (hn2 : n ≤ 1099511627776) (hm : I64 m) (hR : (adjust xs a b m).1 = R) (hK : (adjust xs a b m).2 = K)
    (ha : Row encC 3 w A xs) : Calls Try.prog 7 #[.slice A n c, .agg #[.int .i64 a, .int .i64 b], .int .i64 m] w (MadeOwn encC 3 (fun v => .tuple #[v, .bool K]) R w) := by
  subst hR hK
  unfold adjust
  cases hgo : adjGo xs a b m
  · exact c_sAdjust_no A n c xs a b m w hn hn2 hm ha hgo
  · exact c_sAdjust_yes A n c xs a b m w hn hn2 hm ha hgo
end Go.Proofs.Ythnemjaipdheoaa

/-
  AddCounts of the program and of the reference, in one contract each. Conditions: the lengths are at most 2^32.
-/
import Derived.Test.YthnemjaipdheoaaAddI
import Derived.Test.YthnemjaipdheoaaAddS
namespace Go.Proofs.Ythnemjaipdheoaa
open Go.RowKit
set_option linter.unusedVariables false
theorem m_iAddCounts (A : Option Addr) (n c : Nat) (xs : List ((Int × Int) × Int)) (B : Option Addr) (m d : Nat) (ys : List ((Int × Int) × Int)) (w : World) (R : List ((Int × Int) × Int)) (K : Bool) (hn : xs.length = n) (hn2 : n ≤ 4294967296) (hm : ys.length = m) (hm2 : m ≤ 4294967296) (hR : (addCounts xs ys).1 = R) (hK : (addCounts xs ys).2 = K)
    (ha : Row encC 3 w A xs) (hb : Row encC 3 w B ys) : Calls Try.prog 12 #[.slice A n c, .slice B m d] w (MadeOwn encC 3 (fun v => .tuple #[v, .bool K]) R w) := by
  subst hR hK
  exact c_iAddCounts A n c xs B m d ys w hn hn2 hm hm2 ha hb
theorem m_sAddCounts (A : Option Addr) (n c : Nat) (xs : List ((Int × Int) × Int)) (B : Option Addr) (m d : Nat) (ys : List ((Int × Int) × Int)) (w : World) (R : List ((Int × Int) × Int)) (K : Bool) (hn : xs.length = n) (hn2 : n ≤ 4294967296) (hm : ys.length = m) (hm2 : m ≤ 4294967296) (hR : (addCounts xs ys).1 = R) (hK : (addCounts xs ys).2 = K)
    (ha : Row encC 3 w A xs) (hb : Row encC 3 w B ys) : Calls Try.prog 13 #[.slice A n c, .slice B m d] w (MadeOwn encC 3 (fun v => .tuple #[v, .bool K]) R w) := by
  subst hR hK
  exact c_sAddCounts A n c xs B m d ys w hn hn2 hm hm2 ha hb
end Go.Proofs.Ythnemjaipdheoaa

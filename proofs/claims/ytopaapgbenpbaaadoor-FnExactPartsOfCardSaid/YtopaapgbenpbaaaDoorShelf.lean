/-
  Contracts of Go's library at this program, laid by the kit's command in plain words. Conditions: as each says.
-/
import Derived.Shelf.Strings.Fields
import Derived.Test.YtopaapgbenpbaaaDoorProg
namespace Go.Proofs
open Go.Shelf
def Tryd.lays157_ren : Go.Shelf.Ren := ⟨fun | 157 => 10 | 229 => 12 | 199 => 13 | 261 => 14 | 311 => 15 | 312 => 16 | n => n, fun | 9 => 9 | 31 => 22 | 3 => 3 | 5 => 5 | 4 => 4 | 119 => 31 | 0 => 0 | 40 => 33 | 152 => 35 | 21 => 21 | 154 => 37 | 51 => 38 | 141 => 40 | 196 => 44 | 193 => 41 | 198 => 47 | 49 => 45 | 194 => 42 | 201 => 50 | 226 => 52 | 46 => 53 | 227 => 54 | n => n, fun | 0 => 0 | 6 => 1 | n => n⟩
theorem Tryd.lays157 : Go.Proofs.Lays.n157 Tryd.prog Tryd.lays157_ren := {
  mixed := by kernel_rfl
  f157 := Tryd.func10.trans (congrArg some (by kernel_rfl))
  f199 := Tryd.func13.trans (congrArg some (by kernel_rfl))
  f229 := Tryd.func12.trans (congrArg some (by kernel_rfl))
  f261 := Tryd.func14.trans (congrArg some (by kernel_rfl))
  f311 := Tryd.func15.trans (congrArg some (by kernel_rfl))
  f312 := Tryd.func16.trans (congrArg some (by kernel_rfl))
  t0 := Tryd.underlying0
  a0 := Tryd.isAgg0
  z0 := Tryd.sizeOf0
  v0 := Tryd.zeroValue0
  t3 := Tryd.underlying3
  a3 := Tryd.isAgg3
  z3 := Tryd.sizeOf3
  v3 := Tryd.zeroValue3
  t4 := Tryd.underlying4
  a4 := Tryd.isAgg4
  z4 := Tryd.sizeOf4
  v4 := Tryd.zeroValue4
  t5 := Tryd.underlying5
  a5 := Tryd.isAgg5
  z5 := Tryd.sizeOf5
  v5 := Tryd.zeroValue5
  t9 := Tryd.underlying9
  a9 := Tryd.isAgg9
  z9 := Tryd.sizeOf9
  v9 := Tryd.zeroValue9
  t21 := Tryd.underlying21
  a21 := Tryd.isAgg21
  z21 := Tryd.sizeOf21
  v21 := Tryd.zeroValue21
  t31 := Tryd.underlying22
  a31 := Tryd.isAgg22
  z31 := Tryd.sizeOf22
  v31 := Tryd.zeroValue22
  t40 := Tryd.underlying33
  a40 := Tryd.isAgg33
  z40 := Tryd.sizeOf33
  v40 := Tryd.zeroValue33
  t46 := Tryd.underlying53
  a46 := Tryd.isAgg53
  z46 := Tryd.sizeOf53
  v46 := Tryd.zeroValue53
  t49 := Tryd.underlying45
  a49 := Tryd.isAgg45
  z49 := Tryd.sizeOf45
  v49 := Tryd.zeroValue45
  t51 := Tryd.underlying38
  a51 := Tryd.isAgg38
  z51 := Tryd.sizeOf38
  v51 := Tryd.zeroValue38
  t119 := Tryd.underlying31
  a119 := Tryd.isAgg31
  z119 := Tryd.sizeOf31
  t141 := Tryd.underlying40
  a141 := Tryd.isAgg40
  z141 := Tryd.sizeOf40
  v141 := Tryd.zeroValue40
  t152 := Tryd.underlying35
  a152 := Tryd.isAgg35
  z152 := Tryd.sizeOf35
  v152 := Tryd.zeroValue35
  t154 := Tryd.underlying37
  a154 := Tryd.isAgg37
  z154 := Tryd.sizeOf37
  v154 := Tryd.zeroValue37
  t193 := Tryd.underlying41
  a193 := Tryd.isAgg41
  z193 := Tryd.sizeOf41
  v193 := Tryd.zeroValue41
  t194 := Tryd.underlying42
  a194 := Tryd.isAgg42
  z194 := Tryd.sizeOf42
  v194 := Tryd.zeroValue42
  t196 := Tryd.underlying44
  a196 := Tryd.isAgg44
  z196 := Tryd.sizeOf44
  v196 := Tryd.zeroValue44
  t198 := Tryd.underlying47
  a198 := Tryd.isAgg47
  z198 := Tryd.sizeOf47
  v198 := Tryd.zeroValue47
  t201 := Tryd.underlying50
  a201 := Tryd.isAgg50
  z201 := Tryd.sizeOf50
  v201 := Tryd.zeroValue50
  t226 := Tryd.underlying52
  a226 := Tryd.isAgg52
  z226 := Tryd.sizeOf52
  v226 := Tryd.zeroValue52
  t227 := Tryd.underlying54
  a227 := Tryd.isAgg54
  z227 := Tryd.sizeOf54
  v227 := Tryd.zeroValue54
  g0 := by kernel_rfl
  g6 := by kernel_rfl }
open Go.RowKit Go.Lib in
theorem Tryd.strings_Fields (s : ByteArray) (w : World) (hs : s.size < 4294967281) (hascii : ∀ (j : Nat) b, s.data.toList[j]? = some b → b.toNat < 128) (htab : Lib.TabIs Tryd.prog w "strings.asciiSpace" .u8 Lib.asciiSpaceTab) :
    Calls Tryd.prog 10 #[.string s] w fun e w' =>
      e = .returned (.slice (some ⟨w.heap.size, 0, none⟩) (Lib.fields s.data.toList).length (Lib.fields s.data.toList).length) ∧ w' = w.alloc (.cells ((Lib.fields s.data.toList).map fun l => Value.string ⟨l.toArray⟩).toArray 9) := Any.strings_Fields Tryd.lays157 (by kernel_rfl) (by kernel_rfl) s w hs hascii htab

end Go.Proofs

/- The data of the program as plain data. -/
import Derived.Test.YthemaodhckmnkaaProg
import Derived.Test.YthemaodhckmnkaaAvd
import Derived.Test.YthemaodhckmnkaaIns
set_option linter.unusedVariables false
set_option linter.unusedSimpArgs false
namespace Go.Proofs.Ythemaodhckmnkaa
open Go.RowKit Go.Bv
structure GFile where
  gName : ByteArray
  gText : ByteArray
def GFile.c (x : GFile) : List AV := [.str x.gName, .str x.gText]
theorem GFile.c_eq (x : GFile) : GFile.c x = [.str x.gName, .str x.gText] := rfl
def GFile.ok (x : GFile) : Prop := okFs x.gName ∧ okFs x.gText
theorem GFile.c_len (x : GFile) : (GFile.c x).length = 2 := by rw [GFile.c_eq]; rfl
theorem GFile.c_leaf (x : GFile) : (GFile.c x).all AV.leaf = true := by rw [GFile.c_eq]; rfl
theorem GFile.c_scal (x : GFile) : (GFile.c x).all scal1 = true := by rw [GFile.c_eq]; rfl
structure GL01Cur where
  gB : List Int
  gI : Int
  gH : Int
def GL01Cur.c (x : GL01Cur) : List AV := [.sl (List.map cI.u8 x.gB), .int .i64 x.gI, .int .i64 x.gH]
theorem GL01Cur.c_eq (x : GL01Cur) : GL01Cur.c x = [.sl (List.map cI.u8 x.gB), .int .i64 x.gI, .int .i64 x.gH] := rfl
def GL01Cur.ok (x : GL01Cur) : Prop := okL (okI .u8) x.gB ∧ okI .i64 x.gI ∧ okI .i64 x.gH
theorem GL01Cur.c_len (x : GL01Cur) : (GL01Cur.c x).length = 3 := by rw [GL01Cur.c_eq]; rfl
theorem GL01Cur.c_leaf (x : GL01Cur) : (GL01Cur.c x).all AV.leaf = true := by rw [GL01Cur.c_eq]; rfl
theorem hmix : Try.prog.follows .mixedOrders = true := by kernel_rfl
end Go.Proofs.Ythemaodhckmnkaa

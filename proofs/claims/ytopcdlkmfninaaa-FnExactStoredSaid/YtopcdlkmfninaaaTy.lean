/- The data of the program as plain data. -/
import Derived.Test.YtopcdlkmfninaaaProg
import Derived.Test.YtopcdlkmfninaaaAvd
import Derived.Test.YtopcdlkmfninaaaIns
set_option linter.unusedVariables false
set_option linter.unusedSimpArgs false
namespace Go.Proofs.Ytopcdlkmfninaaa
open Go.RowKit Go.Bv
structure GFile where
  gName : ByteArray
  gText : ByteArray
def GFile.c (x : GFile) : List AV := [.str x.gName, .str x.gText]
theorem GFile.c_eq (x : GFile) : GFile.c x = [.str x.gName, .str x.gText] := rfl
def GFile.ok (x : GFile) : Prop := okFs x.gName ∧ okFs x.gText
theorem GFile.c_len (x : GFile) : (GFile.c x).length = 2 := by rw [GFile.c_eq]; rfl
theorem GFile.c_leaf (x : GFile) : (GFile.c x).all AV.leaf = true := by rw [GFile.c_eq]; rfl
theorem GFile.c_scal (x : GFile) : (GFile.c x).all scal1 = true := by rw [GFile.c_eq]; rfl
theorem hmix : Try.prog.follows .mixedOrders = true := by kernel_rfl
end Go.Proofs.Ytopcdlkmfninaaa

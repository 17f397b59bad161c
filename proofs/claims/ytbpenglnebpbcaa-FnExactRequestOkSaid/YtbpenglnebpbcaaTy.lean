/- The data of the program as plain data. -/
import Derived.Test.YtbpenglnebpbcaaProg
import Derived.Test.YtbpenglnebpbcaaAvb
set_option linter.unusedVariables false
set_option linter.unusedSimpArgs false
namespace Go.Proofs.Ytbpenglnebpbcaa
open Go.RowKit Go.Av
structure GRequest where
  gKind : Int
  gName : ByteArray
  gText : ByteArray
def GRequest.c (x : GRequest) : List AV := [.int .i64 x.gKind, .str x.gName, .str x.gText]
theorem GRequest.c_eq (x : GRequest) : GRequest.c x = [.int .i64 x.gKind, .str x.gName, .str x.gText] := rfl
def GRequest.ok (x : GRequest) : Prop := okI .i64 x.gKind ∧ okS x.gName ∧ okS x.gText
theorem GRequest.c_len (x : GRequest) : (GRequest.c x).length = 3 := by rw [GRequest.c_eq]; rfl
theorem GRequest.c_leaf (x : GRequest) : (GRequest.c x).all AV.leaf = true := by rw [GRequest.c_eq]; rfl
theorem hmix : Try.prog.follows .mixedOrders = true := by kernel_rfl
end Go.Proofs.Ytbpenglnebpbcaa

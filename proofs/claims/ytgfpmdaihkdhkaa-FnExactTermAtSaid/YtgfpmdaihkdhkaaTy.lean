/- The data of the program as plain data. -/
import Derived.Test.YtgfpmdaihkdhkaaProg
import Derived.Test.YtgfpmdaihkdhkaaAvc
set_option linter.unusedVariables false
set_option linter.unusedSimpArgs false
namespace Go.Proofs.Ytgfpmdaihkdhkaa
open Go.RowKit Go.Bv
structure GCell where
  gKind : Int
  gName : ByteArray
  gNum : Int
  gTo : Int
  gKids : List Int
def GCell.c (x : GCell) : List AV := [.int .i64 x.gKind, .str x.gName, .int .i64 x.gNum, .int .i64 x.gTo, .sl (List.map cI.i64 x.gKids)]
theorem GCell.c_eq (x : GCell) : GCell.c x = [.int .i64 x.gKind, .str x.gName, .int .i64 x.gNum, .int .i64 x.gTo, .sl (List.map cI.i64 x.gKids)] := rfl
def GCell.ok (x : GCell) : Prop := okI .i64 x.gKind ∧ okFs x.gName ∧ okI .i64 x.gNum ∧ okI .i64 x.gTo ∧ okL (okI .i64) x.gKids
theorem GCell.c_len (x : GCell) : (GCell.c x).length = 5 := by rw [GCell.c_eq]; rfl
theorem GCell.c_leaf (x : GCell) : (GCell.c x).all AV.leaf = true := by rw [GCell.c_eq]; rfl
structure GHeap where
  gCells : List GCell
  gTrail : List Int
def GHeap.c (x : GHeap) : List AV := [.sl (List.map GCell.c x.gCells), .sl (List.map cI.i64 x.gTrail)]
theorem GHeap.c_eq (x : GHeap) : GHeap.c x = [.sl (List.map GCell.c x.gCells), .sl (List.map cI.i64 x.gTrail)] := rfl
def GHeap.ok (x : GHeap) : Prop := okL GCell.ok x.gCells ∧ okL (okI .i64) x.gTrail
theorem GHeap.c_len (x : GHeap) : (GHeap.c x).length = 2 := by rw [GHeap.c_eq]; rfl
theorem GHeap.c_leaf (x : GHeap) : (GHeap.c x).all AV.leaf = true := by rw [GHeap.c_eq]; rfl
inductive GTerm where
  | mk (gKind : Int) (gName : ByteArray) (gNum : Int) (gKids : List GTerm)
def GTerm.gKind : GTerm → Int | .mk x _ _ _ => x
def GTerm.gName : GTerm → ByteArray | .mk _ x _ _ => x
def GTerm.gNum : GTerm → Int | .mk _ _ x _ => x
def GTerm.gKids : GTerm → List GTerm | .mk _ _ _ x => x
mutual
def GTerm.c : GTerm → List AV
  | .mk gKind gName gNum gKids => [.int .i64 gKind, .str gName, .int .i64 gNum, .sl (GTerm.cs gKids)]
def GTerm.cs : List GTerm → List (List AV)
  | [] => []
  | x :: l => GTerm.c x :: GTerm.cs l
end
theorem GTerm.cs_eq : ∀ l : List GTerm, GTerm.cs l = l.map GTerm.c
  | [] => by rw [GTerm.cs]; rfl
  | x :: l => by rw [GTerm.cs, GTerm.cs_eq l]; rfl
theorem GTerm.c_eq (x : GTerm) : GTerm.c x = [.int .i64 x.gKind, .str x.gName, .int .i64 x.gNum, .sl (List.map GTerm.c x.gKids)] := by
  cases x
  rw [GTerm.c, GTerm.cs_eq]
  rfl
inductive GTerm.ok : GTerm → Prop where
  | mk (gKind : Int) (gName : ByteArray) (gNum : Int) (gKids : List GTerm) : (okI .i64) gKind → okFs gName → (okI .i64) gNum → gKids.length ≤ maxLen → (∀ x ∈ gKids, GTerm.ok x) → GTerm.ok (.mk gKind gName gNum gKids)
theorem GTerm.c_len (x : GTerm) : (GTerm.c x).length = 4 := by rw [GTerm.c_eq]; rfl
theorem GTerm.c_leaf (x : GTerm) : (GTerm.c x).all AV.leaf = true := by rw [GTerm.c_eq]; rfl
structure GL13Read where
  gCells : List GCell
  gLeft : Int
  gBad : Bool
def GL13Read.c (x : GL13Read) : List AV := [.sl (List.map GCell.c x.gCells), .int .i64 x.gLeft, .bool x.gBad]
theorem GL13Read.c_eq (x : GL13Read) : GL13Read.c x = [.sl (List.map GCell.c x.gCells), .int .i64 x.gLeft, .bool x.gBad] := rfl
def GL13Read.ok (x : GL13Read) : Prop := okL GCell.ok x.gCells ∧ okI .i64 x.gLeft ∧ okFb x.gBad
theorem GL13Read.c_len (x : GL13Read) : (GL13Read.c x).length = 3 := by rw [GL13Read.c_eq]; rfl
theorem GL13Read.c_leaf (x : GL13Read) : (GL13Read.c x).all AV.leaf = true := by rw [GL13Read.c_eq]; rfl
theorem hmix : Try.prog.follows .mixedOrders = true := by kernel_rfl
end Go.Proofs.Ytgfpmdaihkdhkaa

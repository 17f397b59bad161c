/- The data of the program as plain data. -/
import Derived.Test.YtbfkmgenokhkgaaProg
import Derived.Test.YtbfkmgenokhkgaaAvd
set_option linter.unusedVariables false
set_option linter.unusedSimpArgs false
namespace Go.Proofs.Ytbfkmgenokhkgaa
open Go.RowKit Go.Bv
structure GCell where
  gKind : Int
  gName : ByteArray
  gNum : Int
  gTo : Int
  gKids : List Int
def GCell.c (x : GCell) : List AV := [.int .i64 x.gKind, .str x.gName, .int .i64 x.gNum, .int .i64 x.gTo, .sl (List.map cI.i64 x.gKids)]
theorem GCell.c_eq (x : GCell) : GCell.c x = [.int .i64 x.gKind, .str x.gName, .int .i64 x.gNum, .int .i64 x.gTo, .sl (List.map cI.i64 x.gKids)] := rfl
def GCell.ok (x : GCell) : Prop := okI .i64 x.gKind ∧ okFs x.gName ∧ okI .i64 x.gNum ∧ okI .i64 x.gTo ∧ okL (okI .i64) x.gKids
theorem GCell.c_len (x : GCell) : (GCell.c x).length = 5 := by rw [GCell.c_eq]; rfl
theorem GCell.c_leaf (x : GCell) : (GCell.c x).all AV.leaf = true := by rw [GCell.c_eq]; rfl
structure GHeap where
  gCells : List GCell
  gTrail : List Int
def GHeap.c (x : GHeap) : List AV := [.sl (List.map GCell.c x.gCells), .sl (List.map cI.i64 x.gTrail)]
theorem GHeap.c_eq (x : GHeap) : GHeap.c x = [.sl (List.map GCell.c x.gCells), .sl (List.map cI.i64 x.gTrail)] := rfl
def GHeap.ok (x : GHeap) : Prop := okL GCell.ok x.gCells ∧ okL (okI .i64) x.gTrail
theorem GHeap.c_len (x : GHeap) : (GHeap.c x).length = 2 := by rw [GHeap.c_eq]; rfl
theorem GHeap.c_leaf (x : GHeap) : (GHeap.c x).all AV.leaf = true := by rw [GHeap.c_eq]; rfl
structure GL13Heap where
  gCells : List GCell
  gTrail : List Int
  gRefs : List Int
  gPairs : Int
def GL13Heap.c (x : GL13Heap) : List AV := [.sl (List.map GCell.c x.gCells), .sl (List.map cI.i64 x.gTrail), .sl (List.map cI.i64 x.gRefs), .int .i64 x.gPairs]
theorem GL13Heap.c_eq (x : GL13Heap) : GL13Heap.c x = [.sl (List.map GCell.c x.gCells), .sl (List.map cI.i64 x.gTrail), .sl (List.map cI.i64 x.gRefs), .int .i64 x.gPairs] := rfl
def GL13Heap.ok (x : GL13Heap) : Prop := okL GCell.ok x.gCells ∧ okL (okI .i64) x.gTrail ∧ okL (okI .i64) x.gRefs ∧ okI .i64 x.gPairs
theorem GL13Heap.c_len (x : GL13Heap) : (GL13Heap.c x).length = 4 := by rw [GL13Heap.c_eq]; rfl
theorem GL13Heap.c_leaf (x : GL13Heap) : (GL13Heap.c x).all AV.leaf = true := by rw [GL13Heap.c_eq]; rfl
theorem hmix : Try.prog.follows .mixedOrders = true := by kernel_rfl
end Go.Proofs.Ytbfkmgenokhkgaa

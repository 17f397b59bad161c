/- The data of the program as plain data. -/
import Derived.Test.YtbfkmgenokhkgaaProg
import Derived.Test.YtbfkmgenokhkgaaAvd
set_option linter.unusedVariables false
set_option linter.unusedSimpArgs false
namespace Go.Proofs.Ytbfkmgenokhkgaa
open Go.RowKit Go.Bv
inductive GTerm where
  | mk (gKind : Int) (gName : ByteArray) (gNum : Int) (gKids : List GTerm)
def GTerm.gKind : GTerm → Int | .mk x _ _ _ => x
def GTerm.gName : GTerm → ByteArray | .mk _ x _ _ => x
def GTerm.gNum : GTerm → Int | .mk _ _ x _ => x
def GTerm.gKids : GTerm → List GTerm | .mk _ _ _ x => x
mutual
def GTerm.c : GTerm → List AV
  | .mk gKind gName gNum gKids => [.int .i64 gKind, .str gName, .int .i64 gNum, .sl (GTerm.cs gKids)]
def GTerm.cs : List GTerm → List (List AV)
  | [] => []
  | x :: l => GTerm.c x :: GTerm.cs l
end
theorem GTerm.cs_eq : ∀ l : List GTerm, GTerm.cs l = l.map GTerm.c
  | [] => by rw [GTerm.cs]; rfl
  | x :: l => by rw [GTerm.cs, GTerm.cs_eq l]; rfl
theorem GTerm.c_eq (x : GTerm) : GTerm.c x = [.int .i64 x.gKind, .str x.gName, .int .i64 x.gNum, .sl (List.map GTerm.c x.gKids)] := by
  cases x
  rw [GTerm.c, GTerm.cs_eq]
  rfl
inductive GTerm.ok : GTerm → Prop where
  | mk (gKind : Int) (gName : ByteArray) (gNum : Int) (gKids : List GTerm) : (okI .i64) gKind → okFs gName → (okI .i64) gNum → gKids.length ≤ maxLen → (∀ x ∈ gKids, GTerm.ok x) → GTerm.ok (.mk gKind gName gNum gKids)
theorem GTerm.c_len (x : GTerm) : (GTerm.c x).length = 4 := by rw [GTerm.c_eq]; rfl
theorem GTerm.c_leaf (x : GTerm) : (GTerm.c x).all AV.leaf = true := by rw [GTerm.c_eq]; rfl
structure GIns where
  gOp : Int
  gName : ByteArray
  gNum : Int
  gMany : Int
def GIns.c (x : GIns) : List AV := [.int .i64 x.gOp, .str x.gName, .int .i64 x.gNum, .int .i64 x.gMany]
theorem GIns.c_eq (x : GIns) : GIns.c x = [.int .i64 x.gOp, .str x.gName, .int .i64 x.gNum, .int .i64 x.gMany] := rfl
def GIns.ok (x : GIns) : Prop := okI .i64 x.gOp ∧ okFs x.gName ∧ okI .i64 x.gNum ∧ okI .i64 x.gMany
theorem GIns.c_len (x : GIns) : (GIns.c x).length = 4 := by rw [GIns.c_eq]; rfl
theorem GIns.c_leaf (x : GIns) : (GIns.c x).all AV.leaf = true := by rw [GIns.c_eq]; rfl
theorem GIns.c_scal (x : GIns) : (GIns.c x).all scal1 = true := by rw [GIns.c_eq]; rfl
theorem hmix : Try.prog.follows .mixedOrders = true := by kernel_rfl
end Go.Proofs.Ytbfkmgenokhkgaa

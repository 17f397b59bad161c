/- The data of the program as plain data. -/
import Derived.Test.YtkmifafdenblcaaProg
import Derived.Test.YtkmifafdenblcaaAvd
import Derived.Test.YtkmifafdenblcaaIns
set_option linter.unusedVariables false
set_option linter.unusedSimpArgs false
namespace Go.Proofs.Ytkmifafdenblcaa
open Go.RowKit Go.Bv
inductive GTerm where
  | mk (gKind : Int) (gName : ByteArray) (gNum : Int) (gKids : List GTerm)
def GTerm.gKind : GTerm → Int | .mk x _ _ _ => x
def GTerm.gName : GTerm → ByteArray | .mk _ x _ _ => x
def GTerm.gNum : GTerm → Int | .mk _ _ x _ => x
def GTerm.gKids : GTerm → List GTerm | .mk _ _ _ x => x
mutual
def GTerm.c : GTerm → List AV
  | .mk gKind gName gNum gKids => [.int .i64 gKind, .str gName, .int .i64 gNum, .sl (GTerm.cs gKids)]
def GTerm.cs : List GTerm → List (List AV)
  | [] => []
  | x :: l => GTerm.c x :: GTerm.cs l
end
theorem GTerm.cs_eq : ∀ l : List GTerm, GTerm.cs l = l.map GTerm.c
  | [] => by rw [GTerm.cs]; rfl
  | x :: l => by rw [GTerm.cs, GTerm.cs_eq l]; rfl
theorem GTerm.c_eq (x : GTerm) : GTerm.c x = [.int .i64 x.gKind, .str x.gName, .int .i64 x.gNum, .sl (List.map GTerm.c x.gKids)] := by
  cases x
  rw [GTerm.c, GTerm.cs_eq]
  rfl
inductive GTerm.ok : GTerm → Prop where
  | mk (gKind : Int) (gName : ByteArray) (gNum : Int) (gKids : List GTerm) : (okI .i64) gKind → okFs gName → (okI .i64) gNum → gKids.length ≤ maxLen → (∀ x ∈ gKids, GTerm.ok x) → GTerm.ok (.mk gKind gName gNum gKids)
theorem GTerm.c_len (x : GTerm) : (GTerm.c x).length = 4 := by rw [GTerm.c_eq]; rfl
theorem GTerm.c_leaf (x : GTerm) : (GTerm.c x).all AV.leaf = true := by rw [GTerm.c_eq]; rfl
structure GClause where
  gHead : GTerm
  gBody : GTerm
  gFile : ByteArray
def GClause.c (x : GClause) : List AV := [.int .i64 x.gHead.gKind, .str x.gHead.gName, .int .i64 x.gHead.gNum, .sl (List.map GTerm.c x.gHead.gKids), .int .i64 x.gBody.gKind, .str x.gBody.gName, .int .i64 x.gBody.gNum, .sl (List.map GTerm.c x.gBody.gKids), .str x.gFile]
theorem GClause.c_eq (x : GClause) : GClause.c x = [.int .i64 x.gHead.gKind, .str x.gHead.gName, .int .i64 x.gHead.gNum, .sl (List.map GTerm.c x.gHead.gKids), .int .i64 x.gBody.gKind, .str x.gBody.gName, .int .i64 x.gBody.gNum, .sl (List.map GTerm.c x.gBody.gKids), .str x.gFile] := rfl
def GClause.ok (x : GClause) : Prop := GTerm.ok x.gHead ∧ GTerm.ok x.gBody ∧ okFs x.gFile
theorem GClause.c_len (x : GClause) : (GClause.c x).length = 9 := by rw [GClause.c_eq]; rfl
theorem GClause.c_leaf (x : GClause) : (GClause.c x).all AV.leaf = true := by rw [GClause.c_eq]; rfl
structure GDb where
  gClauses : List GClause
  gOpen : List ByteArray
def GDb.c (x : GDb) : List AV := [.sl (List.map GClause.c x.gClauses), .sl (List.map cS x.gOpen)]
theorem GDb.c_eq (x : GDb) : GDb.c x = [.sl (List.map GClause.c x.gClauses), .sl (List.map cS x.gOpen)] := rfl
def GDb.ok (x : GDb) : Prop := okL GClause.ok x.gClauses ∧ okL okFs x.gOpen
theorem GDb.c_len (x : GDb) : (GDb.c x).length = 2 := by rw [GDb.c_eq]; rfl
theorem GDb.c_leaf (x : GDb) : (GDb.c x).all AV.leaf = true := by rw [GDb.c_eq]; rfl
theorem hmix : Try.prog.follows .mixedOrders = true := by kernel_rfl
end Go.Proofs.Ytkmifafdenblcaa

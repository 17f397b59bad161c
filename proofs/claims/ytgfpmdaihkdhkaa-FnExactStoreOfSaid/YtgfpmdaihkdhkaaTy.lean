/- The data of the program as plain data. -/
import Derived.Test.YtgfpmdaihkdhkaaProg
import Derived.Test.YtgfpmdaihkdhkaaAvc
set_option linter.unusedVariables false
set_option linter.unusedSimpArgs false
namespace Go.Proofs.Ytgfpmdaihkdhkaa
open Go.RowKit Go.Bv
inductive GTerm where
  | mk (gKind : Int) (gName : ByteArray) (gNum : Int) (gKids : List GTerm)
def GTerm.gKind : GTerm → Int | .mk x _ _ _ => x
def GTerm.gName : GTerm → ByteArray | .mk _ x _ _ => x
def GTerm.gNum : GTerm → Int | .mk _ _ x _ => x
def GTerm.gKids : GTerm → List GTerm | .mk _ _ _ x => x
mutual
def GTerm.c : GTerm → List AV
  | .mk gKind gName gNum gKids => [.int .i64 gKind, .str gName, .int .i64 gNum, .sl (GTerm.cs gKids)]
def GTerm.cs : List GTerm → List (List AV)
  | [] => []
  | x :: l => GTerm.c x :: GTerm.cs l
end
theorem GTerm.cs_eq : ∀ l : List GTerm, GTerm.cs l = l.map GTerm.c
  | [] => by rw [GTerm.cs]; rfl
  | x :: l => by rw [GTerm.cs, GTerm.cs_eq l]; rfl
theorem GTerm.c_eq (x : GTerm) : GTerm.c x = [.int .i64 x.gKind, .str x.gName, .int .i64 x.gNum, .sl (List.map GTerm.c x.gKids)] := by
  cases x
  rw [GTerm.c, GTerm.cs_eq]
  rfl
inductive GTerm.ok : GTerm → Prop where
  | mk (gKind : Int) (gName : ByteArray) (gNum : Int) (gKids : List GTerm) : (okI .i64) gKind → okFs gName → (okI .i64) gNum → gKids.length ≤ maxLen → (∀ x ∈ gKids, GTerm.ok x) → GTerm.ok (.mk gKind gName gNum gKids)
theorem GTerm.c_len (x : GTerm) : (GTerm.c x).length = 4 := by rw [GTerm.c_eq]; rfl
theorem GTerm.c_leaf (x : GTerm) : (GTerm.c x).all AV.leaf = true := by rw [GTerm.c_eq]; rfl
structure GClause where
  gHead : GTerm
  gBody : GTerm
  gFile : ByteArray
def GClause.c (x : GClause) : List AV := [.int .i64 x.gHead.gKind, .str x.gHead.gName, .int .i64 x.gHead.gNum, .sl (List.map GTerm.c x.gHead.gKids), .int .i64 x.gBody.gKind, .str x.gBody.gName, .int .i64 x.gBody.gNum, .sl (List.map GTerm.c x.gBody.gKids), .str x.gFile]
theorem GClause.c_eq (x : GClause) : GClause.c x = [.int .i64 x.gHead.gKind, .str x.gHead.gName, .int .i64 x.gHead.gNum, .sl (List.map GTerm.c x.gHead.gKids), .int .i64 x.gBody.gKind, .str x.gBody.gName, .int .i64 x.gBody.gNum, .sl (List.map GTerm.c x.gBody.gKids), .str x.gFile] := rfl
def GClause.ok (x : GClause) : Prop := GTerm.ok x.gHead ∧ GTerm.ok x.gBody ∧ okFs x.gFile
theorem GClause.c_len (x : GClause) : (GClause.c x).length = 9 := by rw [GClause.c_eq]; rfl
theorem GClause.c_leaf (x : GClause) : (GClause.c x).all AV.leaf = true := by rw [GClause.c_eq]; rfl
structure GDb where
  gClauses : List GClause
  gOpen : List ByteArray
def GDb.c (x : GDb) : List AV := [.sl (List.map GClause.c x.gClauses), .sl (List.map cS x.gOpen)]
theorem GDb.c_eq (x : GDb) : GDb.c x = [.sl (List.map GClause.c x.gClauses), .sl (List.map cS x.gOpen)] := rfl
def GDb.ok (x : GDb) : Prop := okL GClause.ok x.gClauses ∧ okL okFs x.gOpen
theorem GDb.c_len (x : GDb) : (GDb.c x).length = 2 := by rw [GDb.c_eq]; rfl
theorem GDb.c_leaf (x : GDb) : (GDb.c x).all AV.leaf = true := by rw [GDb.c_eq]; rfl
structure GIns where
  gOp : Int
  gName : ByteArray
  gNum : Int
  gMany : Int
def GIns.c (x : GIns) : List AV := [.int .i64 x.gOp, .str x.gName, .int .i64 x.gNum, .int .i64 x.gMany]
theorem GIns.c_eq (x : GIns) : GIns.c x = [.int .i64 x.gOp, .str x.gName, .int .i64 x.gNum, .int .i64 x.gMany] := rfl
def GIns.ok (x : GIns) : Prop := okI .i64 x.gOp ∧ okFs x.gName ∧ okI .i64 x.gNum ∧ okI .i64 x.gMany
theorem GIns.c_len (x : GIns) : (GIns.c x).length = 4 := by rw [GIns.c_eq]; rfl
theorem GIns.c_leaf (x : GIns) : (GIns.c x).all AV.leaf = true := by rw [GIns.c_eq]; rfl
theorem GIns.c_scal (x : GIns) : (GIns.c x).all scal1 = true := by rw [GIns.c_eq]; rfl
structure GCode where
  gHead : List GIns
  gBody : List GIns
  gVars : Int
def GCode.c (x : GCode) : List AV := [.sl (List.map GIns.c x.gHead), .sl (List.map GIns.c x.gBody), .int .i64 x.gVars]
theorem GCode.c_eq (x : GCode) : GCode.c x = [.sl (List.map GIns.c x.gHead), .sl (List.map GIns.c x.gBody), .int .i64 x.gVars] := rfl
def GCode.ok (x : GCode) : Prop := okL GIns.ok x.gHead ∧ okL GIns.ok x.gBody ∧ okI .i64 x.gVars
theorem GCode.c_len (x : GCode) : (GCode.c x).length = 3 := by rw [GCode.c_eq]; rfl
theorem GCode.c_leaf (x : GCode) : (GCode.c x).all AV.leaf = true := by rw [GCode.c_eq]; rfl
structure GKept where
  gClause : GClause
  gCode : GCode
  gBorn : Int
  gDied : Int
def GKept.c (x : GKept) : List AV := [.int .i64 x.gClause.gHead.gKind, .str x.gClause.gHead.gName, .int .i64 x.gClause.gHead.gNum, .sl (List.map GTerm.c x.gClause.gHead.gKids), .int .i64 x.gClause.gBody.gKind, .str x.gClause.gBody.gName, .int .i64 x.gClause.gBody.gNum, .sl (List.map GTerm.c x.gClause.gBody.gKids), .str x.gClause.gFile, .sl (List.map GIns.c x.gCode.gHead), .sl (List.map GIns.c x.gCode.gBody), .int .i64 x.gCode.gVars, .int .i64 x.gBorn, .int .i64 x.gDied]
theorem GKept.c_eq (x : GKept) : GKept.c x = [.int .i64 x.gClause.gHead.gKind, .str x.gClause.gHead.gName, .int .i64 x.gClause.gHead.gNum, .sl (List.map GTerm.c x.gClause.gHead.gKids), .int .i64 x.gClause.gBody.gKind, .str x.gClause.gBody.gName, .int .i64 x.gClause.gBody.gNum, .sl (List.map GTerm.c x.gClause.gBody.gKids), .str x.gClause.gFile, .sl (List.map GIns.c x.gCode.gHead), .sl (List.map GIns.c x.gCode.gBody), .int .i64 x.gCode.gVars, .int .i64 x.gBorn, .int .i64 x.gDied] := rfl
def GKept.ok (x : GKept) : Prop := GClause.ok x.gClause ∧ GCode.ok x.gCode ∧ okI .i64 x.gBorn ∧ okI .i64 x.gDied
theorem GKept.c_len (x : GKept) : (GKept.c x).length = 14 := by rw [GKept.c_eq]; rfl
theorem GKept.c_leaf (x : GKept) : (GKept.c x).all AV.leaf = true := by rw [GKept.c_eq]; rfl
structure GStore where
  gList : List GKept
  gOpen : List ByteArray
  gNow : Int
def GStore.c (x : GStore) : List AV := [.sl (List.map GKept.c x.gList), .sl (List.map cS x.gOpen), .int .i64 x.gNow]
theorem GStore.c_eq (x : GStore) : GStore.c x = [.sl (List.map GKept.c x.gList), .sl (List.map cS x.gOpen), .int .i64 x.gNow] := rfl
def GStore.ok (x : GStore) : Prop := okL GKept.ok x.gList ∧ okL okFs x.gOpen ∧ okI .i64 x.gNow
theorem GStore.c_len (x : GStore) : (GStore.c x).length = 3 := by rw [GStore.c_eq]; rfl
theorem GStore.c_leaf (x : GStore) : (GStore.c x).all AV.leaf = true := by rw [GStore.c_eq]; rfl
abbrev GKept.q (x : GKept) : List AV := [.int .i64 x.gClause.gHead.gKind, .str x.gClause.gHead.gName, .int .i64 x.gClause.gHead.gNum, .sl (List.map GTerm.c x.gClause.gHead.gKids), .int .i64 x.gClause.gBody.gKind, .str x.gClause.gBody.gName, .int .i64 x.gClause.gBody.gNum, .sl (List.map GTerm.c x.gClause.gBody.gKids), .str x.gClause.gFile, .sl (List.map GIns.c x.gCode.gHead), .sl (List.map GIns.c x.gCode.gBody), .int .i64 x.gCode.gVars, .int .i64 x.gBorn, .int .i64 x.gDied]
abbrev GClause.q (x : GClause) : List AV := [.int .i64 x.gHead.gKind, .str x.gHead.gName, .int .i64 x.gHead.gNum, .sl (List.map GTerm.c x.gHead.gKids), .int .i64 x.gBody.gKind, .str x.gBody.gName, .int .i64 x.gBody.gNum, .sl (List.map GTerm.c x.gBody.gKids), .str x.gFile]
abbrev GClause.qx (x : GClause) : List AV := [.int .i64 x.gHead.gKind, .str x.gHead.gName, .int .i64 x.gHead.gNum, .slx, .int .i64 x.gBody.gKind, .str x.gBody.gName, .int .i64 x.gBody.gNum, .slx, .str x.gFile]
abbrev GTerm.q (x : GTerm) : List AV := [.int .i64 x.gKind, .str x.gName, .int .i64 x.gNum, .sl (List.map GTerm.c x.gKids)]
abbrev GTerm.qx (x : GTerm) : List AV := [.int .i64 x.gKind, .str x.gName, .int .i64 x.gNum, .slx]
abbrev GIns.q (x : GIns) : List AV := [.int .i64 x.gOp, .str x.gName, .int .i64 x.gNum, .int .i64 x.gMany]
abbrev GCode.q (x : GCode) : List AV := [.sl (List.map GIns.c x.gHead), .sl (List.map GIns.c x.gBody), .int .i64 x.gVars]
abbrev GStore.q (x : GStore) : List AV := [.sl (List.map GKept.c x.gList), .sl (List.map cS x.gOpen), .int .i64 x.gNow]
abbrev GDb.q (x : GDb) : List AV := [.sl (List.map GClause.c x.gClauses), .sl (List.map cS x.gOpen)]
theorem hmix : Try.prog.follows .mixedOrders = true := by kernel_rfl
end Go.Proofs.Ytgfpmdaihkdhkaa

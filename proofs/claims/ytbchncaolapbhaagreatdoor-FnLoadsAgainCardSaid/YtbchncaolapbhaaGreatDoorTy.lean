/- The data of the program as plain data. -/
import Derived.Test.YtbchncaolapbhaaGreatDoorProg
import Derived.Test.YtbchncaolapbhaaGreatDoorAve
import Derived.Test.YtbchncaolapbhaaGreatDoorItoa
import Derived.Test.YtbchncaolapbhaaGreatDoorIns
set_option linter.unusedVariables false
set_option linter.unusedSimpArgs false
namespace Go.Proofs.YtbchncaolapbhaaGreatDoor
open Go.RowKit Go.Bv
structure GL01Cur where
  gB : List Int
  gI : Int
  gH : Int
def GL01Cur.c (x : GL01Cur) : List AV := [.sl (List.map cI.u8 x.gB), .int .i64 x.gI, .int .i64 x.gH]
theorem GL01Cur.c_eq (x : GL01Cur) : GL01Cur.c x = [.sl (List.map cI.u8 x.gB), .int .i64 x.gI, .int .i64 x.gH] := rfl
def GL01Cur.ok (x : GL01Cur) : Prop := okL (okI .u8) x.gB ∧ okI .i64 x.gI ∧ okI .i64 x.gH
theorem GL01Cur.c_len (x : GL01Cur) : (GL01Cur.c x).length = 3 := by rw [GL01Cur.c_eq]; rfl
theorem GL01Cur.c_leaf (x : GL01Cur) : (GL01Cur.c x).all AV.leaf = true := by rw [GL01Cur.c_eq]; rfl
structure GFile where
  gName : ByteArray
  gText : ByteArray
def GFile.c (x : GFile) : List AV := [.str x.gName, .str x.gText]
theorem GFile.c_eq (x : GFile) : GFile.c x = [.str x.gName, .str x.gText] := rfl
def GFile.ok (x : GFile) : Prop := okFs x.gName ∧ okFs x.gText
theorem GFile.c_len (x : GFile) : (GFile.c x).length = 2 := by rw [GFile.c_eq]; rfl
theorem GFile.c_leaf (x : GFile) : (GFile.c x).all AV.leaf = true := by rw [GFile.c_eq]; rfl
theorem GFile.c_scal (x : GFile) : (GFile.c x).all scal1 = true := by rw [GFile.c_eq]; rfl
inductive GTerm where
  | mk (gKind : Int) (gName : ByteArray) (gNum : Int) (gKids : List GTerm)
def GTerm.gKind : GTerm → Int | .mk x _ _ _ => x
def GTerm.gName : GTerm → ByteArray | .mk _ x _ _ => x
def GTerm.gNum : GTerm → Int | .mk _ _ x _ => x
def GTerm.gKids : GTerm → List GTerm | .mk _ _ _ x => x
mutual
def GTerm.c : GTerm → List AV
  | .mk gKind gName gNum gKids => [.int .i64 gKind, .str gName, .int .i64 gNum, .sl (GTerm.cs gKids)]
def GTerm.cs : List GTerm → List (List AV)
  | [] => []
  | x :: l => GTerm.c x :: GTerm.cs l
end
theorem GTerm.cs_eq : ∀ l : List GTerm, GTerm.cs l = l.map GTerm.c
  | [] => by rw [GTerm.cs]; rfl
  | x :: l => by rw [GTerm.cs, GTerm.cs_eq l]; rfl
theorem GTerm.c_eq (x : GTerm) : GTerm.c x = [.int .i64 x.gKind, .str x.gName, .int .i64 x.gNum, .sl (List.map GTerm.c x.gKids)] := by
  cases x
  rw [GTerm.c, GTerm.cs_eq]
  rfl
inductive GTerm.ok : GTerm → Prop where
  | mk (gKind : Int) (gName : ByteArray) (gNum : Int) (gKids : List GTerm) : (okI .i64) gKind → okFs gName → (okI .i64) gNum → gKids.length ≤ maxLen → (∀ x ∈ gKids, GTerm.ok x) → GTerm.ok (.mk gKind gName gNum gKids)
theorem GTerm.c_len (x : GTerm) : (GTerm.c x).length = 4 := by rw [GTerm.c_eq]; rfl
theorem GTerm.c_leaf (x : GTerm) : (GTerm.c x).all AV.leaf = true := by rw [GTerm.c_eq]; rfl
structure GClause where
  gHead : GTerm
  gBody : GTerm
  gFile : ByteArray
def GClause.c (x : GClause) : List AV := [.int .i64 x.gHead.gKind, .str x.gHead.gName, .int .i64 x.gHead.gNum, .sl (List.map GTerm.c x.gHead.gKids), .int .i64 x.gBody.gKind, .str x.gBody.gName, .int .i64 x.gBody.gNum, .sl (List.map GTerm.c x.gBody.gKids), .str x.gFile]
theorem GClause.c_eq (x : GClause) : GClause.c x = [.int .i64 x.gHead.gKind, .str x.gHead.gName, .int .i64 x.gHead.gNum, .sl (List.map GTerm.c x.gHead.gKids), .int .i64 x.gBody.gKind, .str x.gBody.gName, .int .i64 x.gBody.gNum, .sl (List.map GTerm.c x.gBody.gKids), .str x.gFile] := rfl
def GClause.ok (x : GClause) : Prop := GTerm.ok x.gHead ∧ GTerm.ok x.gBody ∧ okFs x.gFile
theorem GClause.c_len (x : GClause) : (GClause.c x).length = 9 := by rw [GClause.c_eq]; rfl
theorem GClause.c_leaf (x : GClause) : (GClause.c x).all AV.leaf = true := by rw [GClause.c_eq]; rfl
structure GDb where
  gClauses : List GClause
  gOpen : List ByteArray
def GDb.c (x : GDb) : List AV := [.sl (List.map GClause.c x.gClauses), .sl (List.map cS x.gOpen)]
theorem GDb.c_eq (x : GDb) : GDb.c x = [.sl (List.map GClause.c x.gClauses), .sl (List.map cS x.gOpen)] := rfl
def GDb.ok (x : GDb) : Prop := okL GClause.ok x.gClauses ∧ okL okFs x.gOpen
theorem GDb.c_len (x : GDb) : (GDb.c x).length = 2 := by rw [GDb.c_eq]; rfl
theorem GDb.c_leaf (x : GDb) : (GDb.c x).all AV.leaf = true := by rw [GDb.c_eq]; rfl
structure GSign where
  gKind : Int
  gText : ByteArray
  gNum : Int
  gAt : Int
  gNear : Bool
def GSign.c (x : GSign) : List AV := [.int .i64 x.gKind, .str x.gText, .int .i64 x.gNum, .int .i64 x.gAt, .bool x.gNear]
theorem GSign.c_eq (x : GSign) : GSign.c x = [.int .i64 x.gKind, .str x.gText, .int .i64 x.gNum, .int .i64 x.gAt, .bool x.gNear] := rfl
def GSign.ok (x : GSign) : Prop := okI .i64 x.gKind ∧ okFs x.gText ∧ okI .i64 x.gNum ∧ okI .i64 x.gAt ∧ okFb x.gNear
theorem GSign.c_len (x : GSign) : (GSign.c x).length = 5 := by rw [GSign.c_eq]; rfl
theorem GSign.c_leaf (x : GSign) : (GSign.c x).all AV.leaf = true := by rw [GSign.c_eq]; rfl
theorem GSign.c_scal (x : GSign) : (GSign.c x).all scal1 = true := by rw [GSign.c_eq]; rfl
structure GParser where
  gList : List GSign
  gAt : Int
  gNames : List ByteArray
  gDeep : Int
  gBad : Bool
def GParser.c (x : GParser) : List AV := [.sl (List.map GSign.c x.gList), .int .i64 x.gAt, .sl (List.map cS x.gNames), .int .i64 x.gDeep, .bool x.gBad]
theorem GParser.c_eq (x : GParser) : GParser.c x = [.sl (List.map GSign.c x.gList), .int .i64 x.gAt, .sl (List.map cS x.gNames), .int .i64 x.gDeep, .bool x.gBad] := rfl
def GParser.ok (x : GParser) : Prop := okL GSign.ok x.gList ∧ okI .i64 x.gAt ∧ okL okFs x.gNames ∧ okI .i64 x.gDeep ∧ okFb x.gBad
theorem GParser.c_len (x : GParser) : (GParser.c x).length = 5 := by rw [GParser.c_eq]; rfl
theorem GParser.c_leaf (x : GParser) : (GParser.c x).all AV.leaf = true := by rw [GParser.c_eq]; rfl
structure GOp where
  gName : ByteArray
  gPrio : Int
  gLeft : Int
  gRight : Int
def GOp.c (x : GOp) : List AV := [.str x.gName, .int .i64 x.gPrio, .int .i64 x.gLeft, .int .i64 x.gRight]
theorem GOp.c_eq (x : GOp) : GOp.c x = [.str x.gName, .int .i64 x.gPrio, .int .i64 x.gLeft, .int .i64 x.gRight] := rfl
def GOp.ok (x : GOp) : Prop := okFs x.gName ∧ okI .i64 x.gPrio ∧ okI .i64 x.gLeft ∧ okI .i64 x.gRight
theorem GOp.c_len (x : GOp) : (GOp.c x).length = 4 := by rw [GOp.c_eq]; rfl
theorem GOp.c_leaf (x : GOp) : (GOp.c x).all AV.leaf = true := by rw [GOp.c_eq]; rfl
theorem GOp.c_scal (x : GOp) : (GOp.c x).all scal1 = true := by rw [GOp.c_eq]; rfl
structure GLoaded where
  gDb : GDb
  gBad : Int
  gMissing : Int
  gRefused : Int
  gRan : Int
def GLoaded.c (x : GLoaded) : List AV := [.sl (List.map GClause.c x.gDb.gClauses), .sl (List.map cS x.gDb.gOpen), .int .i64 x.gBad, .int .i64 x.gMissing, .int .i64 x.gRefused, .int .i64 x.gRan]
theorem GLoaded.c_eq (x : GLoaded) : GLoaded.c x = [.sl (List.map GClause.c x.gDb.gClauses), .sl (List.map cS x.gDb.gOpen), .int .i64 x.gBad, .int .i64 x.gMissing, .int .i64 x.gRefused, .int .i64 x.gRan] := rfl
def GLoaded.ok (x : GLoaded) : Prop := GDb.ok x.gDb ∧ okI .i64 x.gBad ∧ okI .i64 x.gMissing ∧ okI .i64 x.gRefused ∧ okI .i64 x.gRan
theorem GLoaded.c_len (x : GLoaded) : (GLoaded.c x).length = 6 := by rw [GLoaded.c_eq]; rfl
theorem GLoaded.c_leaf (x : GLoaded) : (GLoaded.c x).all AV.leaf = true := by rw [GLoaded.c_eq]; rfl
structure GChoice where
  gOver : Bool
  gDead : Bool
  gOther : Bool
def GChoice.c (x : GChoice) : List AV := [.bool x.gOver, .bool x.gDead, .bool x.gOther]
theorem GChoice.c_eq (x : GChoice) : GChoice.c x = [.bool x.gOver, .bool x.gDead, .bool x.gOther] := rfl
def GChoice.ok (x : GChoice) : Prop := okFb x.gOver ∧ okFb x.gDead ∧ okFb x.gOther
theorem GChoice.c_len (x : GChoice) : (GChoice.c x).length = 3 := by rw [GChoice.c_eq]; rfl
theorem GChoice.c_leaf (x : GChoice) : (GChoice.c x).all AV.leaf = true := by rw [GChoice.c_eq]; rfl
theorem GChoice.c_scal (x : GChoice) : (GChoice.c x).all scal1 = true := by rw [GChoice.c_eq]; rfl
structure GLoader where
  gL : GLoaded
  gFiles : List GFile
  gFile : ByteArray
  gDeep : Int
  gOpen : List GChoice
def GLoader.c (x : GLoader) : List AV := [.sl (List.map GClause.c x.gL.gDb.gClauses), .sl (List.map cS x.gL.gDb.gOpen), .int .i64 x.gL.gBad, .int .i64 x.gL.gMissing, .int .i64 x.gL.gRefused, .int .i64 x.gL.gRan, .sl (List.map GFile.c x.gFiles), .str x.gFile, .int .i64 x.gDeep, .sl (List.map GChoice.c x.gOpen)]
theorem GLoader.c_eq (x : GLoader) : GLoader.c x = [.sl (List.map GClause.c x.gL.gDb.gClauses), .sl (List.map cS x.gL.gDb.gOpen), .int .i64 x.gL.gBad, .int .i64 x.gL.gMissing, .int .i64 x.gL.gRefused, .int .i64 x.gL.gRan, .sl (List.map GFile.c x.gFiles), .str x.gFile, .int .i64 x.gDeep, .sl (List.map GChoice.c x.gOpen)] := rfl
def GLoader.ok (x : GLoader) : Prop := GLoaded.ok x.gL ∧ okL GFile.ok x.gFiles ∧ okFs x.gFile ∧ okI .i64 x.gDeep ∧ okL GChoice.ok x.gOpen
theorem GLoader.c_len (x : GLoader) : (GLoader.c x).length = 10 := by rw [GLoader.c_eq]; rfl
theorem GLoader.c_leaf (x : GLoader) : (GLoader.c x).all AV.leaf = true := by rw [GLoader.c_eq]; rfl
abbrev GLoader.q (x : GLoader) : List AV := [.sl (List.map GClause.c x.gL.gDb.gClauses), .sl (List.map cS x.gL.gDb.gOpen), .int .i64 x.gL.gBad, .int .i64 x.gL.gMissing, .int .i64 x.gL.gRefused, .int .i64 x.gL.gRan, .sl (List.map GFile.c x.gFiles), .str x.gFile, .int .i64 x.gDeep, .sl (List.map GChoice.c x.gOpen)]
abbrev GClause.q (x : GClause) : List AV := [.int .i64 x.gHead.gKind, .str x.gHead.gName, .int .i64 x.gHead.gNum, .sl (List.map GTerm.c x.gHead.gKids), .int .i64 x.gBody.gKind, .str x.gBody.gName, .int .i64 x.gBody.gNum, .sl (List.map GTerm.c x.gBody.gKids), .str x.gFile]
abbrev GClause.qx (x : GClause) : List AV := [.int .i64 x.gHead.gKind, .str x.gHead.gName, .int .i64 x.gHead.gNum, .slx, .int .i64 x.gBody.gKind, .str x.gBody.gName, .int .i64 x.gBody.gNum, .slx, .str x.gFile]
abbrev GLoaded.q (x : GLoaded) : List AV := [.sl (List.map GClause.c x.gDb.gClauses), .sl (List.map cS x.gDb.gOpen), .int .i64 x.gBad, .int .i64 x.gMissing, .int .i64 x.gRefused, .int .i64 x.gRan]
abbrev GSign.q (x : GSign) : List AV := [.int .i64 x.gKind, .str x.gText, .int .i64 x.gNum, .int .i64 x.gAt, .bool x.gNear]
abbrev GParser.q (x : GParser) : List AV := [.sl (List.map GSign.c x.gList), .int .i64 x.gAt, .sl (List.map cS x.gNames), .int .i64 x.gDeep, .bool x.gBad]
abbrev GTerm.q (x : GTerm) : List AV := [.int .i64 x.gKind, .str x.gName, .int .i64 x.gNum, .sl (List.map GTerm.c x.gKids)]
abbrev GTerm.qx (x : GTerm) : List AV := [.int .i64 x.gKind, .str x.gName, .int .i64 x.gNum, .slx]
abbrev GOp.q (x : GOp) : List AV := [.str x.gName, .int .i64 x.gPrio, .int .i64 x.gLeft, .int .i64 x.gRight]
abbrev GL01Cur.q (x : GL01Cur) : List AV := [.sl (List.map cI.u8 x.gB), .int .i64 x.gI, .int .i64 x.gH]
abbrev GChoice.q (x : GChoice) : List AV := [.bool x.gOver, .bool x.gDead, .bool x.gOther]
abbrev GDb.q (x : GDb) : List AV := [.sl (List.map GClause.c x.gClauses), .sl (List.map cS x.gOpen)]
abbrev GClause.z : List AV := [aI 0, .str (bs []), aI 0, .sl (List.map GTerm.c []), aI 0, .str (bs []), aI 0, .sl (List.map GTerm.c []), .str (bs [])]
abbrev GLoaded.z : List AV := [.sl (List.map GClause.c []), .sl (List.map cS []), aI 0, aI 0, aI 0, aI 0]
abbrev GSign.z : List AV := [aI 0, .str (bs []), aI 0, aI 0, .bool false]
abbrev GTerm.z : List AV := [aI 0, .str (bs []), aI 0, .sl (List.map GTerm.c [])]
abbrev GTerm.h3_41t (x : GTerm) : OwnL := [(3, .ex 41 true (List.map GTerm.c x.gKids))]
abbrev GOp.z : List AV := [.str (bs []), aI 0, aI 0, aI 0]
abbrev GDb.z : List AV := [.sl (List.map GClause.c []), .sl (List.map cS [])]
theorem hmix : Tryz.prog.follows .mixedOrders = true := by kernel_rfl
theorem tab_at : ∃ g, Tryz.prog.globalNamed tab10 = some g := Option.isSome_iff_exists.1 (by kernel_rfl)
end Go.Proofs.YtbchncaolapbhaaGreatDoor

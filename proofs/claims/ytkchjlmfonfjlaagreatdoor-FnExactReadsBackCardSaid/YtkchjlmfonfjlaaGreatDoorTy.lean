/- The data of the program as plain data. -/
import Derived.Test.YtkchjlmfonfjlaaGreatDoorProg
import Derived.Test.YtkchjlmfonfjlaaGreatDoorAvd
import Derived.Test.YtkchjlmfonfjlaaGreatDoorItoa
set_option linter.unusedVariables false
set_option linter.unusedSimpArgs false
namespace Go.Proofs.YtkchjlmfonfjlaaGreatDoor
open Go.RowKit Go.Bv
inductive GTerm where
  | mk (gKind : Int) (gName : ByteArray) (gNum : Int) (gKids : List GTerm)
def GTerm.gKind : GTerm → Int | .mk x _ _ _ => x
def GTerm.gName : GTerm → ByteArray | .mk _ x _ _ => x
def GTerm.gNum : GTerm → Int | .mk _ _ x _ => x
def GTerm.gKids : GTerm → List GTerm | .mk _ _ _ x => x
mutual
def GTerm.c : GTerm → List AV
  | .mk gKind gName gNum gKids => [.int .i64 gKind, .str gName, .int .i64 gNum, .sl (GTerm.cs gKids)]
def GTerm.cs : List GTerm → List (List AV)
  | [] => []
  | x :: l => GTerm.c x :: GTerm.cs l
end
theorem GTerm.cs_eq : ∀ l : List GTerm, GTerm.cs l = l.map GTerm.c
  | [] => by rw [GTerm.cs]; rfl
  | x :: l => by rw [GTerm.cs, GTerm.cs_eq l]; rfl
theorem GTerm.c_eq (x : GTerm) : GTerm.c x = [.int .i64 x.gKind, .str x.gName, .int .i64 x.gNum, .sl (List.map GTerm.c x.gKids)] := by
  cases x
  rw [GTerm.c, GTerm.cs_eq]
  rfl
inductive GTerm.ok : GTerm → Prop where
  | mk (gKind : Int) (gName : ByteArray) (gNum : Int) (gKids : List GTerm) : (okI .i64) gKind → okFs gName → (okI .i64) gNum → gKids.length ≤ maxLen → (∀ x ∈ gKids, GTerm.ok x) → GTerm.ok (.mk gKind gName gNum gKids)
theorem GTerm.c_len (x : GTerm) : (GTerm.c x).length = 4 := by rw [GTerm.c_eq]; rfl
theorem GTerm.c_leaf (x : GTerm) : (GTerm.c x).all AV.leaf = true := by rw [GTerm.c_eq]; rfl
structure GSign where
  gKind : Int
  gText : ByteArray
  gNum : Int
  gAt : Int
  gNear : Bool
def GSign.c (x : GSign) : List AV := [.int .i64 x.gKind, .str x.gText, .int .i64 x.gNum, .int .i64 x.gAt, .bool x.gNear]
theorem GSign.c_eq (x : GSign) : GSign.c x = [.int .i64 x.gKind, .str x.gText, .int .i64 x.gNum, .int .i64 x.gAt, .bool x.gNear] := rfl
def GSign.ok (x : GSign) : Prop := okI .i64 x.gKind ∧ okFs x.gText ∧ okI .i64 x.gNum ∧ okI .i64 x.gAt ∧ okFb x.gNear
theorem GSign.c_len (x : GSign) : (GSign.c x).length = 5 := by rw [GSign.c_eq]; rfl
theorem GSign.c_leaf (x : GSign) : (GSign.c x).all AV.leaf = true := by rw [GSign.c_eq]; rfl
theorem GSign.c_scal (x : GSign) : (GSign.c x).all Zdc = true := by rw [GSign.c_eq]; rfl
structure GXr where
  gList : List GSign
  gAt : Int
  gBad : Bool
  gDeep : Int
  gNames : List ByteArray
def GXr.c (x : GXr) : List AV := [.sl (List.map GSign.c x.gList), .int .i64 x.gAt, .bool x.gBad, .int .i64 x.gDeep, .sl (List.map cS x.gNames)]
theorem GXr.c_eq (x : GXr) : GXr.c x = [.sl (List.map GSign.c x.gList), .int .i64 x.gAt, .bool x.gBad, .int .i64 x.gDeep, .sl (List.map cS x.gNames)] := rfl
def GXr.ok (x : GXr) : Prop := okL GSign.ok x.gList ∧ okI .i64 x.gAt ∧ okFb x.gBad ∧ okI .i64 x.gDeep ∧ okL okFs x.gNames
theorem GXr.c_len (x : GXr) : (GXr.c x).length = 5 := by rw [GXr.c_eq]; rfl
theorem GXr.c_leaf (x : GXr) : (GXr.c x).all AV.leaf = true := by rw [GXr.c_eq]; rfl
structure GOp where
  gName : ByteArray
  gPrio : Int
  gLeft : Int
  gRight : Int
def GOp.c (x : GOp) : List AV := [.str x.gName, .int .i64 x.gPrio, .int .i64 x.gLeft, .int .i64 x.gRight]
theorem GOp.c_eq (x : GOp) : GOp.c x = [.str x.gName, .int .i64 x.gPrio, .int .i64 x.gLeft, .int .i64 x.gRight] := rfl
def GOp.ok (x : GOp) : Prop := okFs x.gName ∧ okI .i64 x.gPrio ∧ okI .i64 x.gLeft ∧ okI .i64 x.gRight
theorem GOp.c_len (x : GOp) : (GOp.c x).length = 4 := by rw [GOp.c_eq]; rfl
theorem GOp.c_leaf (x : GOp) : (GOp.c x).all AV.leaf = true := by rw [GOp.c_eq]; rfl
theorem GOp.c_scal (x : GOp) : (GOp.c x).all Zdc = true := by rw [GOp.c_eq]; rfl
structure GParser where
  gList : List GSign
  gAt : Int
  gNames : List ByteArray
  gDeep : Int
  gBad : Bool
def GParser.c (x : GParser) : List AV := [.sl (List.map GSign.c x.gList), .int .i64 x.gAt, .sl (List.map cS x.gNames), .int .i64 x.gDeep, .bool x.gBad]
theorem GParser.c_eq (x : GParser) : GParser.c x = [.sl (List.map GSign.c x.gList), .int .i64 x.gAt, .sl (List.map cS x.gNames), .int .i64 x.gDeep, .bool x.gBad] := rfl
def GParser.ok (x : GParser) : Prop := okL GSign.ok x.gList ∧ okI .i64 x.gAt ∧ okL okFs x.gNames ∧ okI .i64 x.gDeep ∧ okFb x.gBad
theorem GParser.c_len (x : GParser) : (GParser.c x).length = 5 := by rw [GParser.c_eq]; rfl
theorem GParser.c_leaf (x : GParser) : (GParser.c x).all AV.leaf = true := by rw [GParser.c_eq]; rfl
abbrev GSign.q (x : GSign) : List AV := [.int .i64 x.gKind, .str x.gText, .int .i64 x.gNum, .int .i64 x.gAt, .bool x.gNear]
abbrev GParser.q (x : GParser) : List AV := [.sl (List.map GSign.c x.gList), .int .i64 x.gAt, .sl (List.map cS x.gNames), .int .i64 x.gDeep, .bool x.gBad]
abbrev GTerm.q (x : GTerm) : List AV := [.int .i64 x.gKind, .str x.gName, .int .i64 x.gNum, .sl (List.map GTerm.c x.gKids)]
abbrev GOp.q (x : GOp) : List AV := [.str x.gName, .int .i64 x.gPrio, .int .i64 x.gLeft, .int .i64 x.gRight]
abbrev GSign.z : List AV := [aI 0, .str (bs []), aI 0, aI 0, .bool false]
abbrev GXr.k2 (x : GXr) : List AV := [.sl (List.map GSign.c x.gList), aI x.gAt, .bool x.gBad, aI x.gDeep, .slx]
abbrev GXr.h4_9f (x : GXr) : OwnL := [(4, .ex 9 false (List.map cS x.gNames))]
abbrev GParser.k2 (x : GParser) : List AV := [.sl (List.map GSign.c x.gList), aI x.gAt, .slx, aI x.gDeep, .bool x.gBad]
abbrev GParser.h2_9f (x : GParser) : OwnL := [(2, .ex 9 false (List.map cS x.gNames))]
abbrev GTerm.z : List AV := [aI 0, .str (bs []), aI 0, .sl (List.map GTerm.c [])]
abbrev GOp.z : List AV := [.str (bs []), aI 0, aI 0, aI 0]
theorem hmix : Tryz.prog.follows .mixedOrders = true := by kernel_rfl
theorem Zuo : ∃ g, Tryz.prog.globalNamed tab10 = some g := Option.isSome_iff_exists.1 (by kernel_rfl)
abbrev rT : Hint := { re := some (.bool true) }
abbrev rF : Hint := { re := some (.bool false) }
theorem cb {x y : Bool} {l : List Prop} (h : x = y) (t : AllP l) : AllP ((AV.bool x = AV.bool y) :: l) := .cons (congrArg AV.bool h) t
abbrev eX (s : ByteArray) (n : Int) : ByteArray := s.extract n.toNat (wr.i64 (n + 1)).toNat
abbrev bX0 (n : Nat) : Nat × BX := (n, .cells GTerm.z [(3, .app 29)])
end Go.Proofs.YtkchjlmfonfjlaaGreatDoor

/- The data of the program as plain data. -/
import Derived.Test.YtkmifafdenblcaaProg
import Derived.Test.YtkmifafdenblcaaAvd
import Derived.Test.YtkmifafdenblcaaIns
set_option linter.unusedVariables false
set_option linter.unusedSimpArgs false
namespace Go.Proofs.Ytkmifafdenblcaa
open Go.RowKit Go.Bv
structure GL01Cur where
  gB : List Int
  gI : Int
  gH : Int
def GL01Cur.c (x : GL01Cur) : List AV := [.sl (List.map cI.u8 x.gB), .int .i64 x.gI, .int .i64 x.gH]
theorem GL01Cur.c_eq (x : GL01Cur) : GL01Cur.c x = [.sl (List.map cI.u8 x.gB), .int .i64 x.gI, .int .i64 x.gH] := rfl
def GL01Cur.ok (x : GL01Cur) : Prop := okL (okI .u8) x.gB ∧ okI .i64 x.gI ∧ okI .i64 x.gH
theorem GL01Cur.c_len (x : GL01Cur) : (GL01Cur.c x).length = 3 := by rw [GL01Cur.c_eq]; rfl
theorem GL01Cur.c_leaf (x : GL01Cur) : (GL01Cur.c x).all AV.leaf = true := by rw [GL01Cur.c_eq]; rfl
inductive GTerm where
  | mk (gKind : Int) (gName : ByteArray) (gNum : Int) (gKids : List GTerm)
def GTerm.gKind : GTerm → Int | .mk x _ _ _ => x
def GTerm.gName : GTerm → ByteArray | .mk _ x _ _ => x
def GTerm.gNum : GTerm → Int | .mk _ _ x _ => x
def GTerm.gKids : GTerm → List GTerm | .mk _ _ _ x => x
mutual
def GTerm.c : GTerm → List AV
  | .mk gKind gName gNum gKids => [.int .i64 gKind, .str gName, .int .i64 gNum, .sl (GTerm.cs gKids)]
def GTerm.cs : List GTerm → List (List AV)
  | [] => []
  | x :: l => GTerm.c x :: GTerm.cs l
end
theorem GTerm.cs_eq : ∀ l : List GTerm, GTerm.cs l = l.map GTerm.c
  | [] => by rw [GTerm.cs]; rfl
  | x :: l => by rw [GTerm.cs, GTerm.cs_eq l]; rfl
theorem GTerm.c_eq (x : GTerm) : GTerm.c x = [.int .i64 x.gKind, .str x.gName, .int .i64 x.gNum, .sl (List.map GTerm.c x.gKids)] := by
  cases x
  rw [GTerm.c, GTerm.cs_eq]
  rfl
inductive GTerm.ok : GTerm → Prop where
  | mk (gKind : Int) (gName : ByteArray) (gNum : Int) (gKids : List GTerm) : (okI .i64) gKind → okFs gName → (okI .i64) gNum → gKids.length ≤ maxLen → (∀ x ∈ gKids, GTerm.ok x) → GTerm.ok (.mk gKind gName gNum gKids)
theorem GTerm.c_len (x : GTerm) : (GTerm.c x).length = 4 := by rw [GTerm.c_eq]; rfl
theorem GTerm.c_leaf (x : GTerm) : (GTerm.c x).all AV.leaf = true := by rw [GTerm.c_eq]; rfl
structure GBinds where
  gList : List GTerm
def GBinds.c (x : GBinds) : List AV := [.sl (List.map GTerm.c x.gList)]
theorem GBinds.c_eq (x : GBinds) : GBinds.c x = [.sl (List.map GTerm.c x.gList)] := rfl
def GBinds.ok (x : GBinds) : Prop := okL GTerm.ok x.gList
theorem GBinds.c_len (x : GBinds) : (GBinds.c x).length = 1 := by rw [GBinds.c_eq]; rfl
theorem GBinds.c_leaf (x : GBinds) : (GBinds.c x).all AV.leaf = true := by rw [GBinds.c_eq]; rfl
structure GSign where
  gKind : Int
  gText : ByteArray
  gNum : Int
  gAt : Int
  gNear : Bool
def GSign.c (x : GSign) : List AV := [.int .i64 x.gKind, .str x.gText, .int .i64 x.gNum, .int .i64 x.gAt, .bool x.gNear]
theorem GSign.c_eq (x : GSign) : GSign.c x = [.int .i64 x.gKind, .str x.gText, .int .i64 x.gNum, .int .i64 x.gAt, .bool x.gNear] := rfl
def GSign.ok (x : GSign) : Prop := okI .i64 x.gKind ∧ okFs x.gText ∧ okI .i64 x.gNum ∧ okI .i64 x.gAt ∧ okFb x.gNear
theorem GSign.c_len (x : GSign) : (GSign.c x).length = 5 := by rw [GSign.c_eq]; rfl
theorem GSign.c_leaf (x : GSign) : (GSign.c x).all AV.leaf = true := by rw [GSign.c_eq]; rfl
theorem GSign.c_scal (x : GSign) : (GSign.c x).all scal1 = true := by rw [GSign.c_eq]; rfl
structure GL06Read where
  gList : List GSign
  gAt : Int
  gBad : Bool
  gDeep : Int
  gNames : List ByteArray
def GL06Read.c (x : GL06Read) : List AV := [.sl (List.map GSign.c x.gList), .int .i64 x.gAt, .bool x.gBad, .int .i64 x.gDeep, .sl (List.map cS x.gNames)]
theorem GL06Read.c_eq (x : GL06Read) : GL06Read.c x = [.sl (List.map GSign.c x.gList), .int .i64 x.gAt, .bool x.gBad, .int .i64 x.gDeep, .sl (List.map cS x.gNames)] := rfl
def GL06Read.ok (x : GL06Read) : Prop := okL GSign.ok x.gList ∧ okI .i64 x.gAt ∧ okFb x.gBad ∧ okI .i64 x.gDeep ∧ okL okFs x.gNames
theorem GL06Read.c_len (x : GL06Read) : (GL06Read.c x).length = 5 := by rw [GL06Read.c_eq]; rfl
theorem GL06Read.c_leaf (x : GL06Read) : (GL06Read.c x).all AV.leaf = true := by rw [GL06Read.c_eq]; rfl
structure GOp where
  gName : ByteArray
  gPrio : Int
  gLeft : Int
  gRight : Int
def GOp.c (x : GOp) : List AV := [.str x.gName, .int .i64 x.gPrio, .int .i64 x.gLeft, .int .i64 x.gRight]
theorem GOp.c_eq (x : GOp) : GOp.c x = [.str x.gName, .int .i64 x.gPrio, .int .i64 x.gLeft, .int .i64 x.gRight] := rfl
def GOp.ok (x : GOp) : Prop := okFs x.gName ∧ okI .i64 x.gPrio ∧ okI .i64 x.gLeft ∧ okI .i64 x.gRight
theorem GOp.c_len (x : GOp) : (GOp.c x).length = 4 := by rw [GOp.c_eq]; rfl
theorem GOp.c_leaf (x : GOp) : (GOp.c x).all AV.leaf = true := by rw [GOp.c_eq]; rfl
theorem GOp.c_scal (x : GOp) : (GOp.c x).all scal1 = true := by rw [GOp.c_eq]; rfl
structure GL04Uni where
  gList : List GTerm
  gPairs : Int
def GL04Uni.c (x : GL04Uni) : List AV := [.sl (List.map GTerm.c x.gList), .int .i64 x.gPairs]
theorem GL04Uni.c_eq (x : GL04Uni) : GL04Uni.c x = [.sl (List.map GTerm.c x.gList), .int .i64 x.gPairs] := rfl
def GL04Uni.ok (x : GL04Uni) : Prop := okL GTerm.ok x.gList ∧ okI .i64 x.gPairs
theorem GL04Uni.c_len (x : GL04Uni) : (GL04Uni.c x).length = 2 := by rw [GL04Uni.c_eq]; rfl
theorem GL04Uni.c_leaf (x : GL04Uni) : (GL04Uni.c x).all AV.leaf = true := by rw [GL04Uni.c_eq]; rfl
structure GL04Fill where
  gList : List GTerm
  gLeft : Int
  gBad : Bool
def GL04Fill.c (x : GL04Fill) : List AV := [.sl (List.map GTerm.c x.gList), .int .i64 x.gLeft, .bool x.gBad]
theorem GL04Fill.c_eq (x : GL04Fill) : GL04Fill.c x = [.sl (List.map GTerm.c x.gList), .int .i64 x.gLeft, .bool x.gBad] := rfl
def GL04Fill.ok (x : GL04Fill) : Prop := okL GTerm.ok x.gList ∧ okI .i64 x.gLeft ∧ okFb x.gBad
theorem GL04Fill.c_len (x : GL04Fill) : (GL04Fill.c x).length = 3 := by rw [GL04Fill.c_eq]; rfl
theorem GL04Fill.c_leaf (x : GL04Fill) : (GL04Fill.c x).all AV.leaf = true := by rw [GL04Fill.c_eq]; rfl
abbrev GSign.q (x : GSign) : List AV := [.int .i64 x.gKind, .str x.gText, .int .i64 x.gNum, .int .i64 x.gAt, .bool x.gNear]
abbrev GTerm.q (x : GTerm) : List AV := [.int .i64 x.gKind, .str x.gName, .int .i64 x.gNum, .sl (List.map GTerm.c x.gKids)]
abbrev GTerm.qx (x : GTerm) : List AV := [.int .i64 x.gKind, .str x.gName, .int .i64 x.gNum, .slx]
abbrev GOp.q (x : GOp) : List AV := [.str x.gName, .int .i64 x.gPrio, .int .i64 x.gLeft, .int .i64 x.gRight]
abbrev GL01Cur.q (x : GL01Cur) : List AV := [.sl (List.map cI.u8 x.gB), .int .i64 x.gI, .int .i64 x.gH]
abbrev GL04Fill.q (x : GL04Fill) : List AV := [.sl (List.map GTerm.c x.gList), .int .i64 x.gLeft, .bool x.gBad]
abbrev GSign.z : List AV := [aI 0, .str (bs []), aI 0, aI 0, .bool false]
abbrev GL06Read.k2 (x : GL06Read) : List AV := [.sl (List.map GSign.c x.gList), aI x.gAt, .bool x.gBad, aI x.gDeep, .slx]
abbrev GL06Read.h4_9f (x : GL06Read) : OwnL := [(4, .ex 9 false (List.map cS x.gNames))]
abbrev GTerm.z : List AV := [aI 0, .str (bs []), aI 0, .sl (List.map GTerm.c [])]
abbrev GTerm.h3_41t (x : GTerm) : OwnL := [(3, .ex 41 true (List.map GTerm.c x.gKids))]
abbrev GOp.z : List AV := [.str (bs []), aI 0, aI 0, aI 0]
abbrev GL04Fill.h0_41f (x : List GTerm) : OwnL := [(0, .ex 41 false (List.map GTerm.c x))]
abbrev GL04Fill.h0_41t (x : List GTerm) : OwnL := [(0, .ex 41 true (List.map GTerm.c x))]
abbrev GBinds.z : List AV := [.sl (List.map GTerm.c [])]
theorem hmix : Try.prog.follows .mixedOrders = true := by kernel_rfl
end Go.Proofs.Ytkmifafdenblcaa

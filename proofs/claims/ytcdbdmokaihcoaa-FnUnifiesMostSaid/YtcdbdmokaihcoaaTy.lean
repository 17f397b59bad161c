/- The data of the program as plain data. -/
import Derived.Test.YtcdbdmokaihcoaaProg
import Derived.Test.YtcdbdmokaihcoaaAvd
import Derived.Test.YtcdbdmokaihcoaaIns
set_option linter.unusedVariables false
set_option linter.unusedSimpArgs false
namespace Go.Proofs.Ytcdbdmokaihcoaa
open Go.RowKit Go.Bv
structure GL01Cur where
  gB : List Int
  gI : Int
  gH : Int
def GL01Cur.c (x : GL01Cur) : List AV := [.sl (List.map cI.u8 x.gB), .int .i64 x.gI, .int .i64 x.gH]
theorem GL01Cur.c_eq (x : GL01Cur) : GL01Cur.c x = [.sl (List.map cI.u8 x.gB), .int .i64 x.gI, .int .i64 x.gH] := rfl
def GL01Cur.ok (x : GL01Cur) : Prop := okL (okI .u8) x.gB ∧ okI .i64 x.gI ∧ okI .i64 x.gH
theorem GL01Cur.c_len (x : GL01Cur) : (GL01Cur.c x).length = 3 := by rw [GL01Cur.c_eq]; rfl
theorem GL01Cur.c_leaf (x : GL01Cur) : (GL01Cur.c x).all AV.leaf = true := by rw [GL01Cur.c_eq]; rfl
inductive GTerm where
  | mk (gKind : Int) (gName : ByteArray) (gNum : Int) (gKids : List GTerm)
def GTerm.gKind : GTerm → Int | .mk x _ _ _ => x
def GTerm.gName : GTerm → ByteArray | .mk _ x _ _ => x
def GTerm.gNum : GTerm → Int | .mk _ _ x _ => x
def GTerm.gKids : GTerm → List GTerm | .mk _ _ _ x => x
mutual
def GTerm.c : GTerm → List AV
  | .mk gKind gName gNum gKids => [.int .i64 gKind, .str gName, .int .i64 gNum, .sl (GTerm.cs gKids)]
def GTerm.cs : List GTerm → List (List AV)
  | [] => []
  | x :: l => GTerm.c x :: GTerm.cs l
end
theorem GTerm.cs_eq : ∀ l : List GTerm, GTerm.cs l = l.map GTerm.c
  | [] => by rw [GTerm.cs]; rfl
  | x :: l => by rw [GTerm.cs, GTerm.cs_eq l]; rfl
theorem GTerm.c_eq (x : GTerm) : GTerm.c x = [.int .i64 x.gKind, .str x.gName, .int .i64 x.gNum, .sl (List.map GTerm.c x.gKids)] := by
  cases x
  rw [GTerm.c, GTerm.cs_eq]
  rfl
inductive GTerm.ok : GTerm → Prop where
  | mk (gKind : Int) (gName : ByteArray) (gNum : Int) (gKids : List GTerm) : (okI .i64) gKind → okFs gName → (okI .i64) gNum → gKids.length ≤ maxLen → (∀ x ∈ gKids, GTerm.ok x) → GTerm.ok (.mk gKind gName gNum gKids)
theorem GTerm.c_len (x : GTerm) : (GTerm.c x).length = 4 := by rw [GTerm.c_eq]; rfl
theorem GTerm.c_leaf (x : GTerm) : (GTerm.c x).all AV.leaf = true := by rw [GTerm.c_eq]; rfl
structure GBinds where
  gList : List GTerm
def GBinds.c (x : GBinds) : List AV := [.sl (List.map GTerm.c x.gList)]
theorem GBinds.c_eq (x : GBinds) : GBinds.c x = [.sl (List.map GTerm.c x.gList)] := rfl
def GBinds.ok (x : GBinds) : Prop := okL GTerm.ok x.gList
theorem GBinds.c_len (x : GBinds) : (GBinds.c x).length = 1 := by rw [GBinds.c_eq]; rfl
theorem GBinds.c_leaf (x : GBinds) : (GBinds.c x).all AV.leaf = true := by rw [GBinds.c_eq]; rfl
structure GUnifier where
  gList : List GTerm
  gBound : List Int
  gPairs : Int
def GUnifier.c (x : GUnifier) : List AV := [.sl (List.map GTerm.c x.gList), .sl (List.map cI.i64 x.gBound), .int .i64 x.gPairs]
theorem GUnifier.c_eq (x : GUnifier) : GUnifier.c x = [.sl (List.map GTerm.c x.gList), .sl (List.map cI.i64 x.gBound), .int .i64 x.gPairs] := rfl
def GUnifier.ok (x : GUnifier) : Prop := okL GTerm.ok x.gList ∧ okL (okI .i64) x.gBound ∧ okI .i64 x.gPairs
theorem GUnifier.c_len (x : GUnifier) : (GUnifier.c x).length = 3 := by rw [GUnifier.c_eq]; rfl
theorem GUnifier.c_leaf (x : GUnifier) : (GUnifier.c x).all AV.leaf = true := by rw [GUnifier.c_eq]; rfl
structure GL04Uni where
  gList : List GTerm
  gPairs : Int
def GL04Uni.c (x : GL04Uni) : List AV := [.sl (List.map GTerm.c x.gList), .int .i64 x.gPairs]
theorem GL04Uni.c_eq (x : GL04Uni) : GL04Uni.c x = [.sl (List.map GTerm.c x.gList), .int .i64 x.gPairs] := rfl
def GL04Uni.ok (x : GL04Uni) : Prop := okL GTerm.ok x.gList ∧ okI .i64 x.gPairs
theorem GL04Uni.c_len (x : GL04Uni) : (GL04Uni.c x).length = 2 := by rw [GL04Uni.c_eq]; rfl
theorem GL04Uni.c_leaf (x : GL04Uni) : (GL04Uni.c x).all AV.leaf = true := by rw [GL04Uni.c_eq]; rfl
structure GL04Fill where
  gList : List GTerm
  gLeft : Int
  gBad : Bool
def GL04Fill.c (x : GL04Fill) : List AV := [.sl (List.map GTerm.c x.gList), .int .i64 x.gLeft, .bool x.gBad]
theorem GL04Fill.c_eq (x : GL04Fill) : GL04Fill.c x = [.sl (List.map GTerm.c x.gList), .int .i64 x.gLeft, .bool x.gBad] := rfl
def GL04Fill.ok (x : GL04Fill) : Prop := okL GTerm.ok x.gList ∧ okI .i64 x.gLeft ∧ okFb x.gBad
theorem GL04Fill.c_len (x : GL04Fill) : (GL04Fill.c x).length = 3 := by rw [GL04Fill.c_eq]; rfl
theorem GL04Fill.c_leaf (x : GL04Fill) : (GL04Fill.c x).all AV.leaf = true := by rw [GL04Fill.c_eq]; rfl
abbrev GTerm.q (x : GTerm) : List AV := [.int .i64 x.gKind, .str x.gName, .int .i64 x.gNum, .sl (List.map GTerm.c x.gKids)]
abbrev GTerm.qx (x : GTerm) : List AV := [.int .i64 x.gKind, .str x.gName, .int .i64 x.gNum, .slx]
abbrev GL01Cur.q (x : GL01Cur) : List AV := [.sl (List.map cI.u8 x.gB), .int .i64 x.gI, .int .i64 x.gH]
abbrev GL04Fill.q (x : GL04Fill) : List AV := [.sl (List.map GTerm.c x.gList), .int .i64 x.gLeft, .bool x.gBad]
abbrev GTerm.z : List AV := [aI 0, .str (bs []), aI 0, .sl (List.map GTerm.c [])]
abbrev GTerm.h3_26t (x : GTerm) : OwnL := [(3, .ex 26 true (List.map GTerm.c x.gKids))]
abbrev GUnifier.h0_26f (x : List GTerm) : OwnL := [(0, .ex 26 false (List.map GTerm.c x))]
abbrev GUnifier.h0_26t (x : List GTerm) : OwnL := [(0, .ex 26 true (List.map GTerm.c x))]
abbrev GBinds.z : List AV := [.sl (List.map GTerm.c [])]
theorem hmix : Try.prog.follows .mixedOrders = true := by kernel_rfl
end Go.Proofs.Ytcdbdmokaihcoaa

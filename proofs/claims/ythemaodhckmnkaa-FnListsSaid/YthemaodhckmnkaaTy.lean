/- The data of the program as plain data. -/
import Derived.Test.YthemaodhckmnkaaProg
import Derived.Test.YthemaodhckmnkaaAvd
set_option linter.unusedVariables false
set_option linter.unusedSimpArgs false
namespace Go.Proofs.Ythemaodhckmnkaa
open Go.RowKit Go.Bv
structure GL01Cur where
  gB : List Int
  gI : Int
  gH : Int
def GL01Cur.c (x : GL01Cur) : List AV := [.sl (List.map cI.u8 x.gB), .int .i64 x.gI, .int .i64 x.gH]
theorem GL01Cur.c_eq (x : GL01Cur) : GL01Cur.c x = [.sl (List.map cI.u8 x.gB), .int .i64 x.gI, .int .i64 x.gH] := rfl
def GL01Cur.ok (x : GL01Cur) : Prop := okL (okI .u8) x.gB ∧ okI .i64 x.gI ∧ okI .i64 x.gH
theorem GL01Cur.c_len (x : GL01Cur) : (GL01Cur.c x).length = 3 := by rw [GL01Cur.c_eq]; rfl
theorem GL01Cur.c_leaf (x : GL01Cur) : (GL01Cur.c x).all AV.leaf = true := by rw [GL01Cur.c_eq]; rfl
inductive GTerm where
  | mk (gKind : Int) (gName : ByteArray) (gNum : Int) (gKids : List GTerm)
def GTerm.gKind : GTerm → Int | .mk x _ _ _ => x
def GTerm.gName : GTerm → ByteArray | .mk _ x _ _ => x
def GTerm.gNum : GTerm → Int | .mk _ _ x _ => x
def GTerm.gKids : GTerm → List GTerm | .mk _ _ _ x => x
mutual
def GTerm.c : GTerm → List AV
  | .mk gKind gName gNum gKids => [.int .i64 gKind, .str gName, .int .i64 gNum, .sl (GTerm.cs gKids)]
def GTerm.cs : List GTerm → List (List AV)
  | [] => []
  | x :: l => GTerm.c x :: GTerm.cs l
end
theorem GTerm.cs_eq : ∀ l : List GTerm, GTerm.cs l = l.map GTerm.c
  | [] => by rw [GTerm.cs]; rfl
  | x :: l => by rw [GTerm.cs, GTerm.cs_eq l]; rfl
theorem GTerm.c_eq (x : GTerm) : GTerm.c x = [.int .i64 x.gKind, .str x.gName, .int .i64 x.gNum, .sl (List.map GTerm.c x.gKids)] := by
  cases x
  rw [GTerm.c, GTerm.cs_eq]
  rfl
inductive GTerm.ok : GTerm → Prop where
  | mk (gKind : Int) (gName : ByteArray) (gNum : Int) (gKids : List GTerm) : (okI .i64) gKind → okFs gName → (okI .i64) gNum → gKids.length ≤ maxLen → (∀ x ∈ gKids, GTerm.ok x) → GTerm.ok (.mk gKind gName gNum gKids)
theorem GTerm.c_len (x : GTerm) : (GTerm.c x).length = 4 := by rw [GTerm.c_eq]; rfl
theorem GTerm.c_leaf (x : GTerm) : (GTerm.c x).all AV.leaf = true := by rw [GTerm.c_eq]; rfl
theorem hmix : Try.prog.follows .mixedOrders = true := by kernel_rfl
end Go.Proofs.Ythemaodhckmnkaa

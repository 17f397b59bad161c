/- What the functions do, part 2. -/
import Derived.Test.YtgfpmdaihkdhkaaFna
set_option linter.unusedVariables false
set_option linter.unusedSimpArgs false
namespace Go.Proofs.Ytgfpmdaihkdhkaa
open Go.RowKit Go.Bv
def plaws_markKeptS_L1 (k : Nat) : Nat → Int → Int → (List GKept) → Option (Out ((List GKept) × Int) (Int × (List GKept)))
  | 0, _, _, _ => none
  | m + 1, ug, u0, ux =>
    if (decide (u0 < (ux.length : Int))) = true then
      (at' ux u0).bind fun u1 =>
      (plaws_markText k (wr.i64 (ug + 1))).bind fun v7 =>
      (at' (ux.set ((u0).toNat) (GKept.mk (GClause.mk (GTerm.mk ug u1.gClause.gHead.gName u1.gClause.gHead.gNum u1.gClause.gHead.gKids) u1.gClause.gBody u1.gClause.gFile) u1.gCode u1.gBorn u1.gDied)) u0).bind fun u2 =>
      (at' ((ux.set ((u0).toNat) (GKept.mk (GClause.mk (GTerm.mk ug u1.gClause.gHead.gName u1.gClause.gHead.gNum u1.gClause.gHead.gKids) u1.gClause.gBody u1.gClause.gFile) u1.gCode u1.gBorn u1.gDied)).set ((u0).toNat) (GKept.mk (GClause.mk (GTerm.mk u2.gClause.gHead.gKind v7 u2.gClause.gHead.gNum u2.gClause.gHead.gKids) u2.gClause.gBody u2.gClause.gFile) u2.gCode u2.gBorn u2.gDied)) u0).bind fun u3 =>
      (at' (((ux.set ((u0).toNat) (GKept.mk (GClause.mk (GTerm.mk ug u1.gClause.gHead.gName u1.gClause.gHead.gNum u1.gClause.gHead.gKids) u1.gClause.gBody u1.gClause.gFile) u1.gCode u1.gBorn u1.gDied)).set ((u0).toNat) (GKept.mk (GClause.mk (GTerm.mk u2.gClause.gHead.gKind v7 u2.gClause.gHead.gNum u2.gClause.gHead.gKids) u2.gClause.gBody u2.gClause.gFile) u2.gCode u2.gBorn u2.gDied)).set ((u0).toNat) (GKept.mk (GClause.mk (GTerm.mk u3.gClause.gHead.gKind u3.gClause.gHead.gName (wr.i64 ((wr.i64 (ug + 1)) + 1)) u3.gClause.gHead.gKids) u3.gClause.gBody u3.gClause.gFile) u3.gCode u3.gBorn u3.gDied)) u0).bind fun u4 =>
      (plaws_markTermS k u4.gClause.gHead.gKids (wr.i64 ((wr.i64 ((wr.i64 (ug + 1)) + 1)) + 1))).bind fun ue =>
      (at' ((((ux.set ((u0).toNat) (GKept.mk (GClause.mk (GTerm.mk ug u1.gClause.gHead.gName u1.gClause.gHead.gNum u1.gClause.gHead.gKids) u1.gClause.gBody u1.gClause.gFile) u1.gCode u1.gBorn u1.gDied)).set ((u0).toNat) (GKept.mk (GClause.mk (GTerm.mk u2.gClause.gHead.gKind v7 u2.gClause.gHead.gNum u2.gClause.gHead.gKids) u2.gClause.gBody u2.gClause.gFile) u2.gCode u2.gBorn u2.gDied)).set ((u0).toNat) (GKept.mk (GClause.mk (GTerm.mk u3.gClause.gHead.gKind u3.gClause.gHead.gName (wr.i64 ((wr.i64 (ug + 1)) + 1)) u3.gClause.gHead.gKids) u3.gClause.gBody u3.gClause.gFile) u3.gCode u3.gBorn u3.gDied)).set ((u0).toNat) (GKept.mk (GClause.mk (GTerm.mk u4.gClause.gHead.gKind u4.gClause.gHead.gName u4.gClause.gHead.gNum ue.1) u4.gClause.gBody u4.gClause.gFile) u4.gCode u4.gBorn u4.gDied)) u0).bind fun u5 =>
      (plaws_markText k (wr.i64 (ue.2 + 1))).bind fun vl =>
      (at' (((((ux.set ((u0).toNat) (GKept.mk (GClause.mk (GTerm.mk ug u1.gClause.gHead.gName u1.gClause.gHead.gNum u1.gClause.gHead.gKids) u1.gClause.gBody u1.gClause.gFile) u1.gCode u1.gBorn u1.gDied)).set ((u0).toNat) (GKept.mk (GClause.mk (GTerm.mk u2.gClause.gHead.gKind v7 u2.gClause.gHead.gNum u2.gClause.gHead.gKids) u2.gClause.gBody u2.gClause.gFile) u2.gCode u2.gBorn u2.gDied)).set ((u0).toNat) (GKept.mk (GClause.mk (GTerm.mk u3.gClause.gHead.gKind u3.gClause.gHead.gName (wr.i64 ((wr.i64 (ug + 1)) + 1)) u3.gClause.gHead.gKids) u3.gClause.gBody u3.gClause.gFile) u3.gCode u3.gBorn u3.gDied)).set ((u0).toNat) (GKept.mk (GClause.mk (GTerm.mk u4.gClause.gHead.gKind u4.gClause.gHead.gName u4.gClause.gHead.gNum ue.1) u4.gClause.gBody u4.gClause.gFile) u4.gCode u4.gBorn u4.gDied)).set ((u0).toNat) (GKept.mk (GClause.mk u5.gClause.gHead (GTerm.mk ue.2 u5.gClause.gBody.gName u5.gClause.gBody.gNum u5.gClause.gBody.gKids) u5.gClause.gFile) u5.gCode u5.gBorn u5.gDied)) u0).bind fun u6 =>
      (at' ((((((ux.set ((u0).toNat) (GKept.mk (GClause.mk (GTerm.mk ug u1.gClause.gHead.gName u1.gClause.gHead.gNum u1.gClause.gHead.gKids) u1.gClause.gBody u1.gClause.gFile) u1.gCode u1.gBorn u1.gDied)).set ((u0).toNat) (GKept.mk (GClause.mk (GTerm.mk u2.gClause.gHead.gKind v7 u2.gClause.gHead.gNum u2.gClause.gHead.gKids) u2.gClause.gBody u2.gClause.gFile) u2.gCode u2.gBorn u2.gDied)).set ((u0).toNat) (GKept.mk (GClause.mk (GTerm.mk u3.gClause.gHead.gKind u3.gClause.gHead.gName (wr.i64 ((wr.i64 (ug + 1)) + 1)) u3.gClause.gHead.gKids) u3.gClause.gBody u3.gClause.gFile) u3.gCode u3.gBorn u3.gDied)).set ((u0).toNat) (GKept.mk (GClause.mk (GTerm.mk u4.gClause.gHead.gKind u4.gClause.gHead.gName u4.gClause.gHead.gNum ue.1) u4.gClause.gBody u4.gClause.gFile) u4.gCode u4.gBorn u4.gDied)).set ((u0).toNat) (GKept.mk (GClause.mk u5.gClause.gHead (GTerm.mk ue.2 u5.gClause.gBody.gName u5.gClause.gBody.gNum u5.gClause.gBody.gKids) u5.gClause.gFile) u5.gCode u5.gBorn u5.gDied)).set ((u0).toNat) (GKept.mk (GClause.mk u6.gClause.gHead (GTerm.mk u6.gClause.gBody.gKind vl u6.gClause.gBody.gNum u6.gClause.gBody.gKids) u6.gClause.gFile) u6.gCode u6.gBorn u6.gDied)) u0).bind fun u7 =>
      (at' (((((((ux.set ((u0).toNat) (GKept.mk (GClause.mk (GTerm.mk ug u1.gClause.gHead.gName u1.gClause.gHead.gNum u1.gClause.gHead.gKids) u1.gClause.gBody u1.gClause.gFile) u1.gCode u1.gBorn u1.gDied)).set ((u0).toNat) (GKept.mk (GClause.mk (GTerm.mk u2.gClause.gHead.gKind v7 u2.gClause.gHead.gNum u2.gClause.gHead.gKids) u2.gClause.gBody u2.gClause.gFile) u2.gCode u2.gBorn u2.gDied)).set ((u0).toNat) (GKept.mk (GClause.mk (GTerm.mk u3.gClause.gHead.gKind u3.gClause.gHead.gName (wr.i64 ((wr.i64 (ug + 1)) + 1)) u3.gClause.gHead.gKids) u3.gClause.gBody u3.gClause.gFile) u3.gCode u3.gBorn u3.gDied)).set ((u0).toNat) (GKept.mk (GClause.mk (GTerm.mk u4.gClause.gHead.gKind u4.gClause.gHead.gName u4.gClause.gHead.gNum ue.1) u4.gClause.gBody u4.gClause.gFile) u4.gCode u4.gBorn u4.gDied)).set ((u0).toNat) (GKept.mk (GClause.mk u5.gClause.gHead (GTerm.mk ue.2 u5.gClause.gBody.gName u5.gClause.gBody.gNum u5.gClause.gBody.gKids) u5.gClause.gFile) u5.gCode u5.gBorn u5.gDied)).set ((u0).toNat) (GKept.mk (GClause.mk u6.gClause.gHead (GTerm.mk u6.gClause.gBody.gKind vl u6.gClause.gBody.gNum u6.gClause.gBody.gKids) u6.gClause.gFile) u6.gCode u6.gBorn u6.gDied)).set ((u0).toNat) (GKept.mk (GClause.mk u7.gClause.gHead (GTerm.mk u7.gClause.gBody.gKind u7.gClause.gBody.gName (wr.i64 ((wr.i64 (ue.2 + 1)) + 1)) u7.gClause.gBody.gKids) u7.gClause.gFile) u7.gCode u7.gBorn u7.gDied)) u0).bind fun u8 =>
      (plaws_markTermS k u8.gClause.gBody.gKids (wr.i64 ((wr.i64 ((wr.i64 (ue.2 + 1)) + 1)) + 1))).bind fun vq =>
      (plaws_markText k vq.2).bind fun zq =>
      (at' ((((((((ux.set ((u0).toNat) (GKept.mk (GClause.mk (GTerm.mk ug u1.gClause.gHead.gName u1.gClause.gHead.gNum u1.gClause.gHead.gKids) u1.gClause.gBody u1.gClause.gFile) u1.gCode u1.gBorn u1.gDied)).set ((u0).toNat) (GKept.mk (GClause.mk (GTerm.mk u2.gClause.gHead.gKind v7 u2.gClause.gHead.gNum u2.gClause.gHead.gKids) u2.gClause.gBody u2.gClause.gFile) u2.gCode u2.gBorn u2.gDied)).set ((u0).toNat) (GKept.mk (GClause.mk (GTerm.mk u3.gClause.gHead.gKind u3.gClause.gHead.gName (wr.i64 ((wr.i64 (ug + 1)) + 1)) u3.gClause.gHead.gKids) u3.gClause.gBody u3.gClause.gFile) u3.gCode u3.gBorn u3.gDied)).set ((u0).toNat) (GKept.mk (GClause.mk (GTerm.mk u4.gClause.gHead.gKind u4.gClause.gHead.gName u4.gClause.gHead.gNum ue.1) u4.gClause.gBody u4.gClause.gFile) u4.gCode u4.gBorn u4.gDied)).set ((u0).toNat) (GKept.mk (GClause.mk u5.gClause.gHead (GTerm.mk ue.2 u5.gClause.gBody.gName u5.gClause.gBody.gNum u5.gClause.gBody.gKids) u5.gClause.gFile) u5.gCode u5.gBorn u5.gDied)).set ((u0).toNat) (GKept.mk (GClause.mk u6.gClause.gHead (GTerm.mk u6.gClause.gBody.gKind vl u6.gClause.gBody.gNum u6.gClause.gBody.gKids) u6.gClause.gFile) u6.gCode u6.gBorn u6.gDied)).set ((u0).toNat) (GKept.mk (GClause.mk u7.gClause.gHead (GTerm.mk u7.gClause.gBody.gKind u7.gClause.gBody.gName (wr.i64 ((wr.i64 (ue.2 + 1)) + 1)) u7.gClause.gBody.gKids) u7.gClause.gFile) u7.gCode u7.gBorn u7.gDied)).set ((u0).toNat) (GKept.mk (GClause.mk u8.gClause.gHead (GTerm.mk u8.gClause.gBody.gKind u8.gClause.gBody.gName u8.gClause.gBody.gNum vq.1) u8.gClause.gFile) u8.gCode u8.gBorn u8.gDied)) u0).bind fun uf =>
      (at' (((((((((ux.set ((u0).toNat) (GKept.mk (GClause.mk (GTerm.mk ug u1.gClause.gHead.gName u1.gClause.gHead.gNum u1.gClause.gHead.gKids) u1.gClause.gBody u1.gClause.gFile) u1.gCode u1.gBorn u1.gDied)).set ((u0).toNat) (GKept.mk (GClause.mk (GTerm.mk u2.gClause.gHead.gKind v7 u2.gClause.gHead.gNum u2.gClause.gHead.gKids) u2.gClause.gBody u2.gClause.gFile) u2.gCode u2.gBorn u2.gDied)).set ((u0).toNat) (GKept.mk (GClause.mk (GTerm.mk u3.gClause.gHead.gKind u3.gClause.gHead.gName (wr.i64 ((wr.i64 (ug + 1)) + 1)) u3.gClause.gHead.gKids) u3.gClause.gBody u3.gClause.gFile) u3.gCode u3.gBorn u3.gDied)).set ((u0).toNat) (GKept.mk (GClause.mk (GTerm.mk u4.gClause.gHead.gKind u4.gClause.gHead.gName u4.gClause.gHead.gNum ue.1) u4.gClause.gBody u4.gClause.gFile) u4.gCode u4.gBorn u4.gDied)).set ((u0).toNat) (GKept.mk (GClause.mk u5.gClause.gHead (GTerm.mk ue.2 u5.gClause.gBody.gName u5.gClause.gBody.gNum u5.gClause.gBody.gKids) u5.gClause.gFile) u5.gCode u5.gBorn u5.gDied)).set ((u0).toNat) (GKept.mk (GClause.mk u6.gClause.gHead (GTerm.mk u6.gClause.gBody.gKind vl u6.gClause.gBody.gNum u6.gClause.gBody.gKids) u6.gClause.gFile) u6.gCode u6.gBorn u6.gDied)).set ((u0).toNat) (GKept.mk (GClause.mk u7.gClause.gHead (GTerm.mk u7.gClause.gBody.gKind u7.gClause.gBody.gName (wr.i64 ((wr.i64 (ue.2 + 1)) + 1)) u7.gClause.gBody.gKids) u7.gClause.gFile) u7.gCode u7.gBorn u7.gDied)).set ((u0).toNat) (GKept.mk (GClause.mk u8.gClause.gHead (GTerm.mk u8.gClause.gBody.gKind u8.gClause.gBody.gName u8.gClause.gBody.gNum vq.1) u8.gClause.gFile) u8.gCode u8.gBorn u8.gDied)).set ((u0).toNat) (GKept.mk (GClause.mk uf.gClause.gHead uf.gClause.gBody zq) uf.gCode uf.gBorn uf.gDied)) u0).bind fun uj =>
      (plaws_markInsS k uj.gCode.gHead (wr.i64 (vq.2 + 1))).bind fun zr =>
      (at' ((((((((((ux.set ((u0).toNat) (GKept.mk (GClause.mk (GTerm.mk ug u1.gClause.gHead.gName u1.gClause.gHead.gNum u1.gClause.gHead.gKids) u1.gClause.gBody u1.gClause.gFile) u1.gCode u1.gBorn u1.gDied)).set ((u0).toNat) (GKept.mk (GClause.mk (GTerm.mk u2.gClause.gHead.gKind v7 u2.gClause.gHead.gNum u2.gClause.gHead.gKids) u2.gClause.gBody u2.gClause.gFile) u2.gCode u2.gBorn u2.gDied)).set ((u0).toNat) (GKept.mk (GClause.mk (GTerm.mk u3.gClause.gHead.gKind u3.gClause.gHead.gName (wr.i64 ((wr.i64 (ug + 1)) + 1)) u3.gClause.gHead.gKids) u3.gClause.gBody u3.gClause.gFile) u3.gCode u3.gBorn u3.gDied)).set ((u0).toNat) (GKept.mk (GClause.mk (GTerm.mk u4.gClause.gHead.gKind u4.gClause.gHead.gName u4.gClause.gHead.gNum ue.1) u4.gClause.gBody u4.gClause.gFile) u4.gCode u4.gBorn u4.gDied)).set ((u0).toNat) (GKept.mk (GClause.mk u5.gClause.gHead (GTerm.mk ue.2 u5.gClause.gBody.gName u5.gClause.gBody.gNum u5.gClause.gBody.gKids) u5.gClause.gFile) u5.gCode u5.gBorn u5.gDied)).set ((u0).toNat) (GKept.mk (GClause.mk u6.gClause.gHead (GTerm.mk u6.gClause.gBody.gKind vl u6.gClause.gBody.gNum u6.gClause.gBody.gKids) u6.gClause.gFile) u6.gCode u6.gBorn u6.gDied)).set ((u0).toNat) (GKept.mk (GClause.mk u7.gClause.gHead (GTerm.mk u7.gClause.gBody.gKind u7.gClause.gBody.gName (wr.i64 ((wr.i64 (ue.2 + 1)) + 1)) u7.gClause.gBody.gKids) u7.gClause.gFile) u7.gCode u7.gBorn u7.gDied)).set ((u0).toNat) (GKept.mk (GClause.mk u8.gClause.gHead (GTerm.mk u8.gClause.gBody.gKind u8.gClause.gBody.gName u8.gClause.gBody.gNum vq.1) u8.gClause.gFile) u8.gCode u8.gBorn u8.gDied)).set ((u0).toNat) (GKept.mk (GClause.mk uf.gClause.gHead uf.gClause.gBody zq) uf.gCode uf.gBorn uf.gDied)).set ((u0).toNat) (GKept.mk uj.gClause (GCode.mk zr.1 uj.gCode.gBody uj.gCode.gVars) uj.gBorn uj.gDied)) u0).bind fun un =>
      (plaws_markInsS k un.gCode.gBody zr.2).bind fun v0 =>
      (at' (((((((((((ux.set ((u0).toNat) (GKept.mk (GClause.mk (GTerm.mk ug u1.gClause.gHead.gName u1.gClause.gHead.gNum u1.gClause.gHead.gKids) u1.gClause.gBody u1.gClause.gFile) u1.gCode u1.gBorn u1.gDied)).set ((u0).toNat) (GKept.mk (GClause.mk (GTerm.mk u2.gClause.gHead.gKind v7 u2.gClause.gHead.gNum u2.gClause.gHead.gKids) u2.gClause.gBody u2.gClause.gFile) u2.gCode u2.gBorn u2.gDied)).set ((u0).toNat) (GKept.mk (GClause.mk (GTerm.mk u3.gClause.gHead.gKind u3.gClause.gHead.gName (wr.i64 ((wr.i64 (ug + 1)) + 1)) u3.gClause.gHead.gKids) u3.gClause.gBody u3.gClause.gFile) u3.gCode u3.gBorn u3.gDied)).set ((u0).toNat) (GKept.mk (GClause.mk (GTerm.mk u4.gClause.gHead.gKind u4.gClause.gHead.gName u4.gClause.gHead.gNum ue.1) u4.gClause.gBody u4.gClause.gFile) u4.gCode u4.gBorn u4.gDied)).set ((u0).toNat) (GKept.mk (GClause.mk u5.gClause.gHead (GTerm.mk ue.2 u5.gClause.gBody.gName u5.gClause.gBody.gNum u5.gClause.gBody.gKids) u5.gClause.gFile) u5.gCode u5.gBorn u5.gDied)).set ((u0).toNat) (GKept.mk (GClause.mk u6.gClause.gHead (GTerm.mk u6.gClause.gBody.gKind vl u6.gClause.gBody.gNum u6.gClause.gBody.gKids) u6.gClause.gFile) u6.gCode u6.gBorn u6.gDied)).set ((u0).toNat) (GKept.mk (GClause.mk u7.gClause.gHead (GTerm.mk u7.gClause.gBody.gKind u7.gClause.gBody.gName (wr.i64 ((wr.i64 (ue.2 + 1)) + 1)) u7.gClause.gBody.gKids) u7.gClause.gFile) u7.gCode u7.gBorn u7.gDied)).set ((u0).toNat) (GKept.mk (GClause.mk u8.gClause.gHead (GTerm.mk u8.gClause.gBody.gKind u8.gClause.gBody.gName u8.gClause.gBody.gNum vq.1) u8.gClause.gFile) u8.gCode u8.gBorn u8.gDied)).set ((u0).toNat) (GKept.mk (GClause.mk uf.gClause.gHead uf.gClause.gBody zq) uf.gCode uf.gBorn uf.gDied)).set ((u0).toNat) (GKept.mk uj.gClause (GCode.mk zr.1 uj.gCode.gBody uj.gCode.gVars) uj.gBorn uj.gDied)).set ((u0).toNat) (GKept.mk un.gClause (GCode.mk un.gCode.gHead v0.1 un.gCode.gVars) un.gBorn un.gDied)) u0).bind fun ur =>
      (at' ((((((((((((ux.set ((u0).toNat) (GKept.mk (GClause.mk (GTerm.mk ug u1.gClause.gHead.gName u1.gClause.gHead.gNum u1.gClause.gHead.gKids) u1.gClause.gBody u1.gClause.gFile) u1.gCode u1.gBorn u1.gDied)).set ((u0).toNat) (GKept.mk (GClause.mk (GTerm.mk u2.gClause.gHead.gKind v7 u2.gClause.gHead.gNum u2.gClause.gHead.gKids) u2.gClause.gBody u2.gClause.gFile) u2.gCode u2.gBorn u2.gDied)).set ((u0).toNat) (GKept.mk (GClause.mk (GTerm.mk u3.gClause.gHead.gKind u3.gClause.gHead.gName (wr.i64 ((wr.i64 (ug + 1)) + 1)) u3.gClause.gHead.gKids) u3.gClause.gBody u3.gClause.gFile) u3.gCode u3.gBorn u3.gDied)).set ((u0).toNat) (GKept.mk (GClause.mk (GTerm.mk u4.gClause.gHead.gKind u4.gClause.gHead.gName u4.gClause.gHead.gNum ue.1) u4.gClause.gBody u4.gClause.gFile) u4.gCode u4.gBorn u4.gDied)).set ((u0).toNat) (GKept.mk (GClause.mk u5.gClause.gHead (GTerm.mk ue.2 u5.gClause.gBody.gName u5.gClause.gBody.gNum u5.gClause.gBody.gKids) u5.gClause.gFile) u5.gCode u5.gBorn u5.gDied)).set ((u0).toNat) (GKept.mk (GClause.mk u6.gClause.gHead (GTerm.mk u6.gClause.gBody.gKind vl u6.gClause.gBody.gNum u6.gClause.gBody.gKids) u6.gClause.gFile) u6.gCode u6.gBorn u6.gDied)).set ((u0).toNat) (GKept.mk (GClause.mk u7.gClause.gHead (GTerm.mk u7.gClause.gBody.gKind u7.gClause.gBody.gName (wr.i64 ((wr.i64 (ue.2 + 1)) + 1)) u7.gClause.gBody.gKids) u7.gClause.gFile) u7.gCode u7.gBorn u7.gDied)).set ((u0).toNat) (GKept.mk (GClause.mk u8.gClause.gHead (GTerm.mk u8.gClause.gBody.gKind u8.gClause.gBody.gName u8.gClause.gBody.gNum vq.1) u8.gClause.gFile) u8.gCode u8.gBorn u8.gDied)).set ((u0).toNat) (GKept.mk (GClause.mk uf.gClause.gHead uf.gClause.gBody zq) uf.gCode uf.gBorn uf.gDied)).set ((u0).toNat) (GKept.mk uj.gClause (GCode.mk zr.1 uj.gCode.gBody uj.gCode.gVars) uj.gBorn uj.gDied)).set ((u0).toNat) (GKept.mk un.gClause (GCode.mk un.gCode.gHead v0.1 un.gCode.gVars) un.gBorn un.gDied)).set ((u0).toNat) (GKept.mk ur.gClause (GCode.mk ur.gCode.gHead ur.gCode.gBody v0.2) ur.gBorn ur.gDied)) u0).bind fun z2 =>
      (at' (((((((((((((ux.set ((u0).toNat) (GKept.mk (GClause.mk (GTerm.mk ug u1.gClause.gHead.gName u1.gClause.gHead.gNum u1.gClause.gHead.gKids) u1.gClause.gBody u1.gClause.gFile) u1.gCode u1.gBorn u1.gDied)).set ((u0).toNat) (GKept.mk (GClause.mk (GTerm.mk u2.gClause.gHead.gKind v7 u2.gClause.gHead.gNum u2.gClause.gHead.gKids) u2.gClause.gBody u2.gClause.gFile) u2.gCode u2.gBorn u2.gDied)).set ((u0).toNat) (GKept.mk (GClause.mk (GTerm.mk u3.gClause.gHead.gKind u3.gClause.gHead.gName (wr.i64 ((wr.i64 (ug + 1)) + 1)) u3.gClause.gHead.gKids) u3.gClause.gBody u3.gClause.gFile) u3.gCode u3.gBorn u3.gDied)).set ((u0).toNat) (GKept.mk (GClause.mk (GTerm.mk u4.gClause.gHead.gKind u4.gClause.gHead.gName u4.gClause.gHead.gNum ue.1) u4.gClause.gBody u4.gClause.gFile) u4.gCode u4.gBorn u4.gDied)).set ((u0).toNat) (GKept.mk (GClause.mk u5.gClause.gHead (GTerm.mk ue.2 u5.gClause.gBody.gName u5.gClause.gBody.gNum u5.gClause.gBody.gKids) u5.gClause.gFile) u5.gCode u5.gBorn u5.gDied)).set ((u0).toNat) (GKept.mk (GClause.mk u6.gClause.gHead (GTerm.mk u6.gClause.gBody.gKind vl u6.gClause.gBody.gNum u6.gClause.gBody.gKids) u6.gClause.gFile) u6.gCode u6.gBorn u6.gDied)).set ((u0).toNat) (GKept.mk (GClause.mk u7.gClause.gHead (GTerm.mk u7.gClause.gBody.gKind u7.gClause.gBody.gName (wr.i64 ((wr.i64 (ue.2 + 1)) + 1)) u7.gClause.gBody.gKids) u7.gClause.gFile) u7.gCode u7.gBorn u7.gDied)).set ((u0).toNat) (GKept.mk (GClause.mk u8.gClause.gHead (GTerm.mk u8.gClause.gBody.gKind u8.gClause.gBody.gName u8.gClause.gBody.gNum vq.1) u8.gClause.gFile) u8.gCode u8.gBorn u8.gDied)).set ((u0).toNat) (GKept.mk (GClause.mk uf.gClause.gHead uf.gClause.gBody zq) uf.gCode uf.gBorn uf.gDied)).set ((u0).toNat) (GKept.mk uj.gClause (GCode.mk zr.1 uj.gCode.gBody uj.gCode.gVars) uj.gBorn uj.gDied)).set ((u0).toNat) (GKept.mk un.gClause (GCode.mk un.gCode.gHead v0.1 un.gCode.gVars) un.gBorn un.gDied)).set ((u0).toNat) (GKept.mk ur.gClause (GCode.mk ur.gCode.gHead ur.gCode.gBody v0.2) ur.gBorn ur.gDied)).set ((u0).toNat) (GKept.mk z2.gClause z2.gCode (wr.i64 (v0.2 + 1)) z2.gDied)) u0).bind fun u0q =>
      plaws_markKeptS_L1 k m (wr.i64 ((wr.i64 ((wr.i64 (v0.2 + 1)) + 1)) + 1)) (wr.i64 (u0 + 1)) ((((((((((((((ux.set ((u0).toNat) (GKept.mk (GClause.mk (GTerm.mk ug u1.gClause.gHead.gName u1.gClause.gHead.gNum u1.gClause.gHead.gKids) u1.gClause.gBody u1.gClause.gFile) u1.gCode u1.gBorn u1.gDied)).set ((u0).toNat) (GKept.mk (GClause.mk (GTerm.mk u2.gClause.gHead.gKind v7 u2.gClause.gHead.gNum u2.gClause.gHead.gKids) u2.gClause.gBody u2.gClause.gFile) u2.gCode u2.gBorn u2.gDied)).set ((u0).toNat) (GKept.mk (GClause.mk (GTerm.mk u3.gClause.gHead.gKind u3.gClause.gHead.gName (wr.i64 ((wr.i64 (ug + 1)) + 1)) u3.gClause.gHead.gKids) u3.gClause.gBody u3.gClause.gFile) u3.gCode u3.gBorn u3.gDied)).set ((u0).toNat) (GKept.mk (GClause.mk (GTerm.mk u4.gClause.gHead.gKind u4.gClause.gHead.gName u4.gClause.gHead.gNum ue.1) u4.gClause.gBody u4.gClause.gFile) u4.gCode u4.gBorn u4.gDied)).set ((u0).toNat) (GKept.mk (GClause.mk u5.gClause.gHead (GTerm.mk ue.2 u5.gClause.gBody.gName u5.gClause.gBody.gNum u5.gClause.gBody.gKids) u5.gClause.gFile) u5.gCode u5.gBorn u5.gDied)).set ((u0).toNat) (GKept.mk (GClause.mk u6.gClause.gHead (GTerm.mk u6.gClause.gBody.gKind vl u6.gClause.gBody.gNum u6.gClause.gBody.gKids) u6.gClause.gFile) u6.gCode u6.gBorn u6.gDied)).set ((u0).toNat) (GKept.mk (GClause.mk u7.gClause.gHead (GTerm.mk u7.gClause.gBody.gKind u7.gClause.gBody.gName (wr.i64 ((wr.i64 (ue.2 + 1)) + 1)) u7.gClause.gBody.gKids) u7.gClause.gFile) u7.gCode u7.gBorn u7.gDied)).set ((u0).toNat) (GKept.mk (GClause.mk u8.gClause.gHead (GTerm.mk u8.gClause.gBody.gKind u8.gClause.gBody.gName u8.gClause.gBody.gNum vq.1) u8.gClause.gFile) u8.gCode u8.gBorn u8.gDied)).set ((u0).toNat) (GKept.mk (GClause.mk uf.gClause.gHead uf.gClause.gBody zq) uf.gCode uf.gBorn uf.gDied)).set ((u0).toNat) (GKept.mk uj.gClause (GCode.mk zr.1 uj.gCode.gBody uj.gCode.gVars) uj.gBorn uj.gDied)).set ((u0).toNat) (GKept.mk un.gClause (GCode.mk un.gCode.gHead v0.1 un.gCode.gVars) un.gBorn un.gDied)).set ((u0).toNat) (GKept.mk ur.gClause (GCode.mk ur.gCode.gHead ur.gCode.gBody v0.2) ur.gBorn ur.gDied)).set ((u0).toNat) (GKept.mk z2.gClause z2.gCode (wr.i64 (v0.2 + 1)) z2.gDied)).set ((u0).toNat) (GKept.mk u0q.gClause u0q.gCode u0q.gBorn (wr.i64 ((wr.i64 (v0.2 + 1)) + 1))))
    else
      some (.done (ug, ux))
def plaws_markKeptS (k : Nat) (u74 : List GKept) (u75 : Int) : Option ((List GKept) × Int) :=
  (plaws_markKeptS_L1 k k u75 0 u74).bind fun out1 => match out1 with
  | .ret r => some r
  | .done (u76, u77) =>
    some (u77, u76)
set_option maxHeartbeats 4000000 in
theorem claws_markKeptS {k : Nat} {u74 : List GKept} {u75 : Int} {r : (List GKept) × Int} (h : plaws_markKeptS k u74 u75 = some r) : FnO Try.prog 100 [.io (.slx) [(0, .ex 1000000007 true (List.map GKept.c u74))], .v (.int .i64 u75) []] (.v (.int .i64 r.2) []) [(0, .v .undef [(0, .ex 1000000007 true (List.map GKept.c r.1))])] := by
  refine FnO.of Try.func100 (rfl : Try.f100.body = some _) (Nat.le_of_ble_eq_true (by kernel_rfl)) (Nat.le_of_ble_eq_true (by kernel_rfl)) ?_
  intro w0 X0 Fin pv0 pb
  unfold plaws_markKeptS at h
  apply Wc.seq
  refine Wc.region [] [] [0, 1] [] [0] ⟨[(0, (.v (.slx), [(0, .al (.a 0 0) [])])), (1, (.v (.int .i64 u75), []))], [], [(0, [(0, .ex 1000000007 true (List.map GKept.c u74))])]⟩ _ (by kernel_rfl) .nil ?_
  apply Wc.seq
  apply Wc.seq
  refine Wc.region [] [] [0, 1, 5] [] [0] ⟨[(0, (.v (.slx), [(0, .al (.a 0 0) [])])), (1, (.v (.int .i64 u75), [])), (5, (.v (.int .i64 0), []))], [], [(0, [(0, .ex 1000000007 true (List.map GKept.c u74))])]⟩ _ (by kernel_rfl) .nil ?_
  obtain ⟨out1, h164, h⟩ := obind h
  refine Wc.lastJ (fun st => ∃ (u76 : Int) (u77 : List GKept), out1 = .done (u76, u77) ∧ st = ⟨[(1, (.v (.int .i64 u76), []))], [], [(0, [(0, .ex 1000000007 true (List.map GKept.c u77))])]⟩) ?_ ?_
  · refine Wc.block ?_
    refine Wc.loop (fun m st => ∃ (ug : Int) (u0 : Int) (ux : List GKept), st = ⟨[(0, (.v (.slx), [(0, .al (.a 0 0) [])])), (1, (.v (.int .i64 ug), [])), (5, (.v (.int .i64 u0), []))], [], [(0, [(0, .ex 1000000007 true (List.map GKept.c ux))])]⟩ ∧ plaws_markKeptS_L1 k m ug u0 ux = some out1) ?_ k ⟨_, _, _, rfl, h164⟩
    rintro m st ⟨ug, u0, ux, rfl, h164⟩
    cases m with
    | zero => exact (onone h164).elim
    | succ m =>
      apply Wc.seq
      apply Wc.seq
      refine Wc.region [{}, {}, { v := some (.int .i64 (ux.length : Int)) }] [] [0, 1, 5, 9] [] [0] ⟨[(0, (.v (.slx), [(0, .al (.a 0 0) [])])), (1, (.v (.int .i64 ug), [])), (5, (.v (.int .i64 u0), [])), (9, (.v (.bool (decide (u0 < (ux.length : Int)))), []))], [], [(0, [(0, .ex 1000000007 true (List.map GKept.c ux))])]⟩ _ (by kernel_rfl) (.cons (len_obl GKept.c ux) .nil) ?_
      rcases oif h164 with ⟨h165, h164⟩ | ⟨h165, h164⟩
      · refine Wc.condT h165 (by kernel_rfl) ?_
        refine Wc.fix (st' := ⟨[(0, (.v (.slx), [(0, .al (.a 0 0) [])])), (1, (.v (.int .i64 ug), [])), (5, (.v (.int .i64 u0), []))], [], [(0, [(0, .ex 1000000007 true (List.map GKept.c ux))])]⟩) [] [0, 1, 5] [] [0] (by kernel_rfl) ?_
        refine Wc.skip ?_
        apply Wc.seq
        refine Wc.block ?_
        apply Wc.seq
        obtain ⟨u1, h166, h164⟩ := obind h164
        refine Wc.region [{}, {}, {}, {}, {}, {}, {}, { c := some (List.map GKept.c (ux.set ((u0).toNat) (GKept.mk (GClause.mk (GTerm.mk ug u1.gClause.gHead.gName u1.gClause.gHead.gNum u1.gClause.gHead.gKids) u1.gClause.gBody u1.gClause.gFile) u1.gCode u1.gBorn u1.gDied))) }] [] [0, 1, 5] [] [0] ⟨[(0, (.v (.slx), [(0, .al (.a 0 0) [])])), (1, (.v (.int .i64 ug), [])), (5, (.v (.int .i64 u0), []))], [], [(0, [(0, .ex 1000000007 true (List.map GKept.c (ux.set ((u0).toNat) (GKept.mk (GClause.mk (GTerm.mk ug u1.gClause.gHead.gName u1.gClause.gHead.gNum u1.gClause.gHead.gKids) u1.gClause.gBody u1.gClause.gFile) u1.gCode u1.gBorn u1.gDied))))])]⟩ _ (by kernel_rfl) (.cons (ix_obl (c := GKept.c) GKept.c_len h166) (.cons (mod_obl (off := 0) (new := [.int .i64 ug]) (c := GKept.c) (GKept.c_eq u1) (GKept.c_eq (GKept.mk (GClause.mk (GTerm.mk ug u1.gClause.gHead.gName u1.gClause.gHead.gNum u1.gClause.gHead.gKids) u1.gClause.gBody u1.gClause.gFile) u1.gCode u1.gBorn u1.gDied)) (at'_spec h166).2 rfl) (.cons (st_obl (sz := 14) (off := 0) (s := 1) (c := GKept.c) (GKept.c_eq u1) (at'_spec h166).2 rfl (Nat.le_of_ble_eq_true rfl)) .nil))) ?_
        apply Wc.seq
        refine Wc.region [] [] [0, 1, 5] [] [0] ⟨[(0, (.v (.slx), [(0, .al (.a 0 0) [])])), (1, (.v (.int .i64 (wr.i64 (ug + 1))), [])), (5, (.v (.int .i64 u0), []))], [], [(0, [(0, .ex 1000000007 true (List.map GKept.c (ux.set ((u0).toNat) (GKept.mk (GClause.mk (GTerm.mk ug u1.gClause.gHead.gName u1.gClause.gHead.gNum u1.gClause.gHead.gKids) u1.gClause.gBody u1.gClause.gFile) u1.gCode u1.gBorn u1.gDied))))])]⟩ _ (by kernel_rfl) .nil ?_
        apply Wc.seq
        obtain ⟨v7, h167, h164⟩ := obind h164
        obtain ⟨u2, h168, h164⟩ := obind h164
        refine Wc.region [{}, {}, {}, { r := some (.v (.str v7) []) }, {}, {}, {}, {}, { c := some (List.map GKept.c ((ux.set ((u0).toNat) (GKept.mk (GClause.mk (GTerm.mk ug u1.gClause.gHead.gName u1.gClause.gHead.gNum u1.gClause.gHead.gKids) u1.gClause.gBody u1.gClause.gFile) u1.gCode u1.gBorn u1.gDied)).set ((u0).toNat) (GKept.mk (GClause.mk (GTerm.mk u2.gClause.gHead.gKind v7 u2.gClause.gHead.gNum u2.gClause.gHead.gKids) u2.gClause.gBody u2.gClause.gFile) u2.gCode u2.gBorn u2.gDied))) }] [] [0, 1, 5] [] [0] ⟨[(0, (.v (.slx), [(0, .al (.a 0 0) [])])), (1, (.v (.int .i64 (wr.i64 (ug + 1))), [])), (5, (.v (.int .i64 u0), []))], [], [(0, [(0, .ex 1000000007 true (List.map GKept.c ((ux.set ((u0).toNat) (GKept.mk (GClause.mk (GTerm.mk ug u1.gClause.gHead.gName u1.gClause.gHead.gNum u1.gClause.gHead.gKids) u1.gClause.gBody u1.gClause.gFile) u1.gCode u1.gBorn u1.gDied)).set ((u0).toNat) (GKept.mk (GClause.mk (GTerm.mk u2.gClause.gHead.gKind v7 u2.gClause.gHead.gNum u2.gClause.gHead.gKids) u2.gClause.gBody u2.gClause.gFile) u2.gCode u2.gBorn u2.gDied))))])]⟩ _ (by kernel_rfl) (.cons (claws_markText h167) (.cons (ix_obl (c := GKept.c) GKept.c_len h168) (.cons (mod_obl (off := 1) (new := [.str v7]) (c := GKept.c) (GKept.c_eq u2) (GKept.c_eq (GKept.mk (GClause.mk (GTerm.mk u2.gClause.gHead.gKind v7 u2.gClause.gHead.gNum u2.gClause.gHead.gKids) u2.gClause.gBody u2.gClause.gFile) u2.gCode u2.gBorn u2.gDied)) (at'_spec h168).2 rfl) (.cons (st_obl (sz := 14) (off := 1) (s := 1) (c := GKept.c) (GKept.c_eq u2) (at'_spec h168).2 rfl (Nat.le_of_ble_eq_true rfl)) .nil)))) ?_
        apply Wc.seq
        refine Wc.region [] [] [0, 1, 5] [] [0] ⟨[(0, (.v (.slx), [(0, .al (.a 0 0) [])])), (1, (.v (.int .i64 (wr.i64 ((wr.i64 (ug + 1)) + 1))), [])), (5, (.v (.int .i64 u0), []))], [], [(0, [(0, .ex 1000000007 true (List.map GKept.c ((ux.set ((u0).toNat) (GKept.mk (GClause.mk (GTerm.mk ug u1.gClause.gHead.gName u1.gClause.gHead.gNum u1.gClause.gHead.gKids) u1.gClause.gBody u1.gClause.gFile) u1.gCode u1.gBorn u1.gDied)).set ((u0).toNat) (GKept.mk (GClause.mk (GTerm.mk u2.gClause.gHead.gKind v7 u2.gClause.gHead.gNum u2.gClause.gHead.gKids) u2.gClause.gBody u2.gClause.gFile) u2.gCode u2.gBorn u2.gDied))))])]⟩ _ (by kernel_rfl) .nil ?_
        apply Wc.seq
        obtain ⟨u3, h169, h164⟩ := obind h164
        refine Wc.region [{}, {}, {}, {}, {}, {}, {}, { c := some (List.map GKept.c (((ux.set ((u0).toNat) (GKept.mk (GClause.mk (GTerm.mk ug u1.gClause.gHead.gName u1.gClause.gHead.gNum u1.gClause.gHead.gKids) u1.gClause.gBody u1.gClause.gFile) u1.gCode u1.gBorn u1.gDied)).set ((u0).toNat) (GKept.mk (GClause.mk (GTerm.mk u2.gClause.gHead.gKind v7 u2.gClause.gHead.gNum u2.gClause.gHead.gKids) u2.gClause.gBody u2.gClause.gFile) u2.gCode u2.gBorn u2.gDied)).set ((u0).toNat) (GKept.mk (GClause.mk (GTerm.mk u3.gClause.gHead.gKind u3.gClause.gHead.gName (wr.i64 ((wr.i64 (ug + 1)) + 1)) u3.gClause.gHead.gKids) u3.gClause.gBody u3.gClause.gFile) u3.gCode u3.gBorn u3.gDied))) }] [] [0, 1, 5] [] [0] ⟨[(0, (.v (.slx), [(0, .al (.a 0 0) [])])), (1, (.v (.int .i64 (wr.i64 ((wr.i64 (ug + 1)) + 1))), [])), (5, (.v (.int .i64 u0), []))], [], [(0, [(0, .ex 1000000007 true (List.map GKept.c (((ux.set ((u0).toNat) (GKept.mk (GClause.mk (GTerm.mk ug u1.gClause.gHead.gName u1.gClause.gHead.gNum u1.gClause.gHead.gKids) u1.gClause.gBody u1.gClause.gFile) u1.gCode u1.gBorn u1.gDied)).set ((u0).toNat) (GKept.mk (GClause.mk (GTerm.mk u2.gClause.gHead.gKind v7 u2.gClause.gHead.gNum u2.gClause.gHead.gKids) u2.gClause.gBody u2.gClause.gFile) u2.gCode u2.gBorn u2.gDied)).set ((u0).toNat) (GKept.mk (GClause.mk (GTerm.mk u3.gClause.gHead.gKind u3.gClause.gHead.gName (wr.i64 ((wr.i64 (ug + 1)) + 1)) u3.gClause.gHead.gKids) u3.gClause.gBody u3.gClause.gFile) u3.gCode u3.gBorn u3.gDied))))])]⟩ _ (by kernel_rfl) (.cons (ix_obl (c := GKept.c) GKept.c_len h169) (.cons (mod_obl (off := 2) (new := [.int .i64 (wr.i64 ((wr.i64 (ug + 1)) + 1))]) (c := GKept.c) (GKept.c_eq u3) (GKept.c_eq (GKept.mk (GClause.mk (GTerm.mk u3.gClause.gHead.gKind u3.gClause.gHead.gName (wr.i64 ((wr.i64 (ug + 1)) + 1)) u3.gClause.gHead.gKids) u3.gClause.gBody u3.gClause.gFile) u3.gCode u3.gBorn u3.gDied)) (at'_spec h169).2 rfl) (.cons (st_obl (sz := 14) (off := 2) (s := 1) (c := GKept.c) (GKept.c_eq u3) (at'_spec h169).2 rfl (Nat.le_of_ble_eq_true rfl)) .nil))) ?_
        apply Wc.seq
        refine Wc.region [] [] [0, 1, 5] [] [0] ⟨[(0, (.v (.slx), [(0, .al (.a 0 0) [])])), (1, (.v (.int .i64 (wr.i64 ((wr.i64 ((wr.i64 (ug + 1)) + 1)) + 1))), [])), (5, (.v (.int .i64 u0), []))], [], [(0, [(0, .ex 1000000007 true (List.map GKept.c (((ux.set ((u0).toNat) (GKept.mk (GClause.mk (GTerm.mk ug u1.gClause.gHead.gName u1.gClause.gHead.gNum u1.gClause.gHead.gKids) u1.gClause.gBody u1.gClause.gFile) u1.gCode u1.gBorn u1.gDied)).set ((u0).toNat) (GKept.mk (GClause.mk (GTerm.mk u2.gClause.gHead.gKind v7 u2.gClause.gHead.gNum u2.gClause.gHead.gKids) u2.gClause.gBody u2.gClause.gFile) u2.gCode u2.gBorn u2.gDied)).set ((u0).toNat) (GKept.mk (GClause.mk (GTerm.mk u3.gClause.gHead.gKind u3.gClause.gHead.gName (wr.i64 ((wr.i64 (ug + 1)) + 1)) u3.gClause.gHead.gKids) u3.gClause.gBody u3.gClause.gFile) u3.gCode u3.gBorn u3.gDied))))])]⟩ _ (by kernel_rfl) .nil ?_
        apply Wc.seq
        obtain ⟨u4, h170, h164⟩ := obind h164
        obtain ⟨ue, h171, h164⟩ := obind h164
        refine Wc.region [{}, {}, {}, {}, {}, {}, { v := some (.slx) }, {}, { c := some (List.map GKept.c ((((ux.set ((u0).toNat) (GKept.mk (GClause.mk (GTerm.mk ug u1.gClause.gHead.gName u1.gClause.gHead.gNum u1.gClause.gHead.gKids) u1.gClause.gBody u1.gClause.gFile) u1.gCode u1.gBorn u1.gDied)).set ((u0).toNat) (GKept.mk (GClause.mk (GTerm.mk u2.gClause.gHead.gKind v7 u2.gClause.gHead.gNum u2.gClause.gHead.gKids) u2.gClause.gBody u2.gClause.gFile) u2.gCode u2.gBorn u2.gDied)).set ((u0).toNat) (GKept.mk (GClause.mk (GTerm.mk u3.gClause.gHead.gKind u3.gClause.gHead.gName (wr.i64 ((wr.i64 (ug + 1)) + 1)) u3.gClause.gHead.gKids) u3.gClause.gBody u3.gClause.gFile) u3.gCode u3.gBorn u3.gDied)).set ((u0).toNat) (GKept.mk (GClause.mk (GTerm.mk u4.gClause.gHead.gKind u4.gClause.gHead.gName u4.gClause.gHead.gNum ue.1) u4.gClause.gBody u4.gClause.gFile) u4.gCode u4.gBorn u4.gDied))), io := [0], r := some (.v (.int .i64 ue.2) []), outs := [(0, .v .undef [(0, .ex 1000000007 true (List.map GTerm.c ue.1))])], ioc := [(0, .ex 1000000007 true (List.map GTerm.c u4.gClause.gHead.gKids))] }] [] [0, 1, 5] [] [0] ⟨[(0, (.v (.slx), [(0, .al (.a 0 0) [])])), (1, (.v (.int .i64 ue.2), [])), (5, (.v (.int .i64 u0), []))], [], [(0, [(0, .ex 1000000007 true (List.map GKept.c ((((ux.set ((u0).toNat) (GKept.mk (GClause.mk (GTerm.mk ug u1.gClause.gHead.gName u1.gClause.gHead.gNum u1.gClause.gHead.gKids) u1.gClause.gBody u1.gClause.gFile) u1.gCode u1.gBorn u1.gDied)).set ((u0).toNat) (GKept.mk (GClause.mk (GTerm.mk u2.gClause.gHead.gKind v7 u2.gClause.gHead.gNum u2.gClause.gHead.gKids) u2.gClause.gBody u2.gClause.gFile) u2.gCode u2.gBorn u2.gDied)).set ((u0).toNat) (GKept.mk (GClause.mk (GTerm.mk u3.gClause.gHead.gKind u3.gClause.gHead.gName (wr.i64 ((wr.i64 (ug + 1)) + 1)) u3.gClause.gHead.gKids) u3.gClause.gBody u3.gClause.gFile) u3.gCode u3.gBorn u3.gDied)).set ((u0).toNat) (GKept.mk (GClause.mk (GTerm.mk u4.gClause.gHead.gKind u4.gClause.gHead.gName u4.gClause.gHead.gNum ue.1) u4.gClause.gBody u4.gClause.gFile) u4.gCode u4.gBorn u4.gDied))))])]⟩ _ (by kernel_rfl) (.cons (ix_obl (c := GKept.c) GKept.c_len h170) (.cons (el_oblD (sz := 14) (off := 3) (s := 1) (ag := false) (v := .slx) (c := GKept.c) (GKept.c_eq u4) (at'_spec h170).2 rfl (Nat.le_of_ble_eq_true rfl) rfl) (.cons (own_obl (own := [(0, .al (.a 0 0) [(((u0).toNat), 14, 3)])]) (p := .a 0 0) (m := (u0).toNat) (sz := 14) (off := 3) (js := [0]) rfl) (.cons (seg_obl (sz := 14) (off := 3) (n := [.sl (List.map GTerm.c u4.gClause.gHead.gKids)]) (c := GKept.c) (GKept.c_eq u4) (at'_spec h170).2 rfl (Nat.le_of_ble_eq_true rfl) rfl) (.cons (mod_obl (off := 3) (new := [.sl (List.map GTerm.c ue.1)]) (c := GKept.c) (GKept.c_eq u4) (GKept.c_eq (GKept.mk (GClause.mk (GTerm.mk u4.gClause.gHead.gKind u4.gClause.gHead.gName u4.gClause.gHead.gNum ue.1) u4.gClause.gBody u4.gClause.gFile) u4.gCode u4.gBorn u4.gDied)) (at'_spec h170).2 rfl) (.cons (FnO.any (args := [.io (.slx) [(0, .ex 1000000007 true (List.map GTerm.c u4.gClause.gHead.gKids))], .v (.int .i64 (wr.i64 ((wr.i64 ((wr.i64 (ug + 1)) + 1)) + 1))) []]) (claws_markTermS h171)) .nil)))))) ?_
        apply Wc.seq
        obtain ⟨u5, h172, h164⟩ := obind h164
        refine Wc.region [{}, {}, {}, {}, {}, {}, {}, { c := some (List.map GKept.c (((((ux.set ((u0).toNat) (GKept.mk (GClause.mk (GTerm.mk ug u1.gClause.gHead.gName u1.gClause.gHead.gNum u1.gClause.gHead.gKids) u1.gClause.gBody u1.gClause.gFile) u1.gCode u1.gBorn u1.gDied)).set ((u0).toNat) (GKept.mk (GClause.mk (GTerm.mk u2.gClause.gHead.gKind v7 u2.gClause.gHead.gNum u2.gClause.gHead.gKids) u2.gClause.gBody u2.gClause.gFile) u2.gCode u2.gBorn u2.gDied)).set ((u0).toNat) (GKept.mk (GClause.mk (GTerm.mk u3.gClause.gHead.gKind u3.gClause.gHead.gName (wr.i64 ((wr.i64 (ug + 1)) + 1)) u3.gClause.gHead.gKids) u3.gClause.gBody u3.gClause.gFile) u3.gCode u3.gBorn u3.gDied)).set ((u0).toNat) (GKept.mk (GClause.mk (GTerm.mk u4.gClause.gHead.gKind u4.gClause.gHead.gName u4.gClause.gHead.gNum ue.1) u4.gClause.gBody u4.gClause.gFile) u4.gCode u4.gBorn u4.gDied)).set ((u0).toNat) (GKept.mk (GClause.mk u5.gClause.gHead (GTerm.mk ue.2 u5.gClause.gBody.gName u5.gClause.gBody.gNum u5.gClause.gBody.gKids) u5.gClause.gFile) u5.gCode u5.gBorn u5.gDied))) }] [] [0, 1, 5] [] [0] ⟨[(0, (.v (.slx), [(0, .al (.a 0 0) [])])), (1, (.v (.int .i64 ue.2), [])), (5, (.v (.int .i64 u0), []))], [], [(0, [(0, .ex 1000000007 true (List.map GKept.c (((((ux.set ((u0).toNat) (GKept.mk (GClause.mk (GTerm.mk ug u1.gClause.gHead.gName u1.gClause.gHead.gNum u1.gClause.gHead.gKids) u1.gClause.gBody u1.gClause.gFile) u1.gCode u1.gBorn u1.gDied)).set ((u0).toNat) (GKept.mk (GClause.mk (GTerm.mk u2.gClause.gHead.gKind v7 u2.gClause.gHead.gNum u2.gClause.gHead.gKids) u2.gClause.gBody u2.gClause.gFile) u2.gCode u2.gBorn u2.gDied)).set ((u0).toNat) (GKept.mk (GClause.mk (GTerm.mk u3.gClause.gHead.gKind u3.gClause.gHead.gName (wr.i64 ((wr.i64 (ug + 1)) + 1)) u3.gClause.gHead.gKids) u3.gClause.gBody u3.gClause.gFile) u3.gCode u3.gBorn u3.gDied)).set ((u0).toNat) (GKept.mk (GClause.mk (GTerm.mk u4.gClause.gHead.gKind u4.gClause.gHead.gName u4.gClause.gHead.gNum ue.1) u4.gClause.gBody u4.gClause.gFile) u4.gCode u4.gBorn u4.gDied)).set ((u0).toNat) (GKept.mk (GClause.mk u5.gClause.gHead (GTerm.mk ue.2 u5.gClause.gBody.gName u5.gClause.gBody.gNum u5.gClause.gBody.gKids) u5.gClause.gFile) u5.gCode u5.gBorn u5.gDied))))])]⟩ _ (by kernel_rfl) (.cons (ix_obl (c := GKept.c) GKept.c_len h172) (.cons (mod_obl (off := 4) (new := [.int .i64 ue.2]) (c := GKept.c) (GKept.c_eq u5) (GKept.c_eq (GKept.mk (GClause.mk u5.gClause.gHead (GTerm.mk ue.2 u5.gClause.gBody.gName u5.gClause.gBody.gNum u5.gClause.gBody.gKids) u5.gClause.gFile) u5.gCode u5.gBorn u5.gDied)) (at'_spec h172).2 rfl) (.cons (st_obl (sz := 14) (off := 4) (s := 1) (c := GKept.c) (GKept.c_eq u5) (at'_spec h172).2 rfl (Nat.le_of_ble_eq_true rfl)) .nil))) ?_
        apply Wc.seq
        refine Wc.region [] [] [0, 1, 5] [] [0] ⟨[(0, (.v (.slx), [(0, .al (.a 0 0) [])])), (1, (.v (.int .i64 (wr.i64 (ue.2 + 1))), [])), (5, (.v (.int .i64 u0), []))], [], [(0, [(0, .ex 1000000007 true (List.map GKept.c (((((ux.set ((u0).toNat) (GKept.mk (GClause.mk (GTerm.mk ug u1.gClause.gHead.gName u1.gClause.gHead.gNum u1.gClause.gHead.gKids) u1.gClause.gBody u1.gClause.gFile) u1.gCode u1.gBorn u1.gDied)).set ((u0).toNat) (GKept.mk (GClause.mk (GTerm.mk u2.gClause.gHead.gKind v7 u2.gClause.gHead.gNum u2.gClause.gHead.gKids) u2.gClause.gBody u2.gClause.gFile) u2.gCode u2.gBorn u2.gDied)).set ((u0).toNat) (GKept.mk (GClause.mk (GTerm.mk u3.gClause.gHead.gKind u3.gClause.gHead.gName (wr.i64 ((wr.i64 (ug + 1)) + 1)) u3.gClause.gHead.gKids) u3.gClause.gBody u3.gClause.gFile) u3.gCode u3.gBorn u3.gDied)).set ((u0).toNat) (GKept.mk (GClause.mk (GTerm.mk u4.gClause.gHead.gKind u4.gClause.gHead.gName u4.gClause.gHead.gNum ue.1) u4.gClause.gBody u4.gClause.gFile) u4.gCode u4.gBorn u4.gDied)).set ((u0).toNat) (GKept.mk (GClause.mk u5.gClause.gHead (GTerm.mk ue.2 u5.gClause.gBody.gName u5.gClause.gBody.gNum u5.gClause.gBody.gKids) u5.gClause.gFile) u5.gCode u5.gBorn u5.gDied))))])]⟩ _ (by kernel_rfl) .nil ?_
        apply Wc.seq
        obtain ⟨vl, h173, h164⟩ := obind h164
        obtain ⟨u6, h174, h164⟩ := obind h164
        refine Wc.region [{}, {}, {}, { r := some (.v (.str vl) []) }, {}, {}, {}, {}, { c := some (List.map GKept.c ((((((ux.set ((u0).toNat) (GKept.mk (GClause.mk (GTerm.mk ug u1.gClause.gHead.gName u1.gClause.gHead.gNum u1.gClause.gHead.gKids) u1.gClause.gBody u1.gClause.gFile) u1.gCode u1.gBorn u1.gDied)).set ((u0).toNat) (GKept.mk (GClause.mk (GTerm.mk u2.gClause.gHead.gKind v7 u2.gClause.gHead.gNum u2.gClause.gHead.gKids) u2.gClause.gBody u2.gClause.gFile) u2.gCode u2.gBorn u2.gDied)).set ((u0).toNat) (GKept.mk (GClause.mk (GTerm.mk u3.gClause.gHead.gKind u3.gClause.gHead.gName (wr.i64 ((wr.i64 (ug + 1)) + 1)) u3.gClause.gHead.gKids) u3.gClause.gBody u3.gClause.gFile) u3.gCode u3.gBorn u3.gDied)).set ((u0).toNat) (GKept.mk (GClause.mk (GTerm.mk u4.gClause.gHead.gKind u4.gClause.gHead.gName u4.gClause.gHead.gNum ue.1) u4.gClause.gBody u4.gClause.gFile) u4.gCode u4.gBorn u4.gDied)).set ((u0).toNat) (GKept.mk (GClause.mk u5.gClause.gHead (GTerm.mk ue.2 u5.gClause.gBody.gName u5.gClause.gBody.gNum u5.gClause.gBody.gKids) u5.gClause.gFile) u5.gCode u5.gBorn u5.gDied)).set ((u0).toNat) (GKept.mk (GClause.mk u6.gClause.gHead (GTerm.mk u6.gClause.gBody.gKind vl u6.gClause.gBody.gNum u6.gClause.gBody.gKids) u6.gClause.gFile) u6.gCode u6.gBorn u6.gDied))) }] [] [0, 1, 5] [] [0] ⟨[(0, (.v (.slx), [(0, .al (.a 0 0) [])])), (1, (.v (.int .i64 (wr.i64 (ue.2 + 1))), [])), (5, (.v (.int .i64 u0), []))], [], [(0, [(0, .ex 1000000007 true (List.map GKept.c ((((((ux.set ((u0).toNat) (GKept.mk (GClause.mk (GTerm.mk ug u1.gClause.gHead.gName u1.gClause.gHead.gNum u1.gClause.gHead.gKids) u1.gClause.gBody u1.gClause.gFile) u1.gCode u1.gBorn u1.gDied)).set ((u0).toNat) (GKept.mk (GClause.mk (GTerm.mk u2.gClause.gHead.gKind v7 u2.gClause.gHead.gNum u2.gClause.gHead.gKids) u2.gClause.gBody u2.gClause.gFile) u2.gCode u2.gBorn u2.gDied)).set ((u0).toNat) (GKept.mk (GClause.mk (GTerm.mk u3.gClause.gHead.gKind u3.gClause.gHead.gName (wr.i64 ((wr.i64 (ug + 1)) + 1)) u3.gClause.gHead.gKids) u3.gClause.gBody u3.gClause.gFile) u3.gCode u3.gBorn u3.gDied)).set ((u0).toNat) (GKept.mk (GClause.mk (GTerm.mk u4.gClause.gHead.gKind u4.gClause.gHead.gName u4.gClause.gHead.gNum ue.1) u4.gClause.gBody u4.gClause.gFile) u4.gCode u4.gBorn u4.gDied)).set ((u0).toNat) (GKept.mk (GClause.mk u5.gClause.gHead (GTerm.mk ue.2 u5.gClause.gBody.gName u5.gClause.gBody.gNum u5.gClause.gBody.gKids) u5.gClause.gFile) u5.gCode u5.gBorn u5.gDied)).set ((u0).toNat) (GKept.mk (GClause.mk u6.gClause.gHead (GTerm.mk u6.gClause.gBody.gKind vl u6.gClause.gBody.gNum u6.gClause.gBody.gKids) u6.gClause.gFile) u6.gCode u6.gBorn u6.gDied))))])]⟩ _ (by kernel_rfl) (.cons (claws_markText h173) (.cons (ix_obl (c := GKept.c) GKept.c_len h174) (.cons (mod_obl (off := 5) (new := [.str vl]) (c := GKept.c) (GKept.c_eq u6) (GKept.c_eq (GKept.mk (GClause.mk u6.gClause.gHead (GTerm.mk u6.gClause.gBody.gKind vl u6.gClause.gBody.gNum u6.gClause.gBody.gKids) u6.gClause.gFile) u6.gCode u6.gBorn u6.gDied)) (at'_spec h174).2 rfl) (.cons (st_obl (sz := 14) (off := 5) (s := 1) (c := GKept.c) (GKept.c_eq u6) (at'_spec h174).2 rfl (Nat.le_of_ble_eq_true rfl)) .nil)))) ?_
        apply Wc.seq
        refine Wc.region [] [] [0, 1, 5] [] [0] ⟨[(0, (.v (.slx), [(0, .al (.a 0 0) [])])), (1, (.v (.int .i64 (wr.i64 ((wr.i64 (ue.2 + 1)) + 1))), [])), (5, (.v (.int .i64 u0), []))], [], [(0, [(0, .ex 1000000007 true (List.map GKept.c ((((((ux.set ((u0).toNat) (GKept.mk (GClause.mk (GTerm.mk ug u1.gClause.gHead.gName u1.gClause.gHead.gNum u1.gClause.gHead.gKids) u1.gClause.gBody u1.gClause.gFile) u1.gCode u1.gBorn u1.gDied)).set ((u0).toNat) (GKept.mk (GClause.mk (GTerm.mk u2.gClause.gHead.gKind v7 u2.gClause.gHead.gNum u2.gClause.gHead.gKids) u2.gClause.gBody u2.gClause.gFile) u2.gCode u2.gBorn u2.gDied)).set ((u0).toNat) (GKept.mk (GClause.mk (GTerm.mk u3.gClause.gHead.gKind u3.gClause.gHead.gName (wr.i64 ((wr.i64 (ug + 1)) + 1)) u3.gClause.gHead.gKids) u3.gClause.gBody u3.gClause.gFile) u3.gCode u3.gBorn u3.gDied)).set ((u0).toNat) (GKept.mk (GClause.mk (GTerm.mk u4.gClause.gHead.gKind u4.gClause.gHead.gName u4.gClause.gHead.gNum ue.1) u4.gClause.gBody u4.gClause.gFile) u4.gCode u4.gBorn u4.gDied)).set ((u0).toNat) (GKept.mk (GClause.mk u5.gClause.gHead (GTerm.mk ue.2 u5.gClause.gBody.gName u5.gClause.gBody.gNum u5.gClause.gBody.gKids) u5.gClause.gFile) u5.gCode u5.gBorn u5.gDied)).set ((u0).toNat) (GKept.mk (GClause.mk u6.gClause.gHead (GTerm.mk u6.gClause.gBody.gKind vl u6.gClause.gBody.gNum u6.gClause.gBody.gKids) u6.gClause.gFile) u6.gCode u6.gBorn u6.gDied))))])]⟩ _ (by kernel_rfl) .nil ?_
        apply Wc.seq
        obtain ⟨u7, h175, h164⟩ := obind h164
        refine Wc.region [{}, {}, {}, {}, {}, {}, {}, { c := some (List.map GKept.c (((((((ux.set ((u0).toNat) (GKept.mk (GClause.mk (GTerm.mk ug u1.gClause.gHead.gName u1.gClause.gHead.gNum u1.gClause.gHead.gKids) u1.gClause.gBody u1.gClause.gFile) u1.gCode u1.gBorn u1.gDied)).set ((u0).toNat) (GKept.mk (GClause.mk (GTerm.mk u2.gClause.gHead.gKind v7 u2.gClause.gHead.gNum u2.gClause.gHead.gKids) u2.gClause.gBody u2.gClause.gFile) u2.gCode u2.gBorn u2.gDied)).set ((u0).toNat) (GKept.mk (GClause.mk (GTerm.mk u3.gClause.gHead.gKind u3.gClause.gHead.gName (wr.i64 ((wr.i64 (ug + 1)) + 1)) u3.gClause.gHead.gKids) u3.gClause.gBody u3.gClause.gFile) u3.gCode u3.gBorn u3.gDied)).set ((u0).toNat) (GKept.mk (GClause.mk (GTerm.mk u4.gClause.gHead.gKind u4.gClause.gHead.gName u4.gClause.gHead.gNum ue.1) u4.gClause.gBody u4.gClause.gFile) u4.gCode u4.gBorn u4.gDied)).set ((u0).toNat) (GKept.mk (GClause.mk u5.gClause.gHead (GTerm.mk ue.2 u5.gClause.gBody.gName u5.gClause.gBody.gNum u5.gClause.gBody.gKids) u5.gClause.gFile) u5.gCode u5.gBorn u5.gDied)).set ((u0).toNat) (GKept.mk (GClause.mk u6.gClause.gHead (GTerm.mk u6.gClause.gBody.gKind vl u6.gClause.gBody.gNum u6.gClause.gBody.gKids) u6.gClause.gFile) u6.gCode u6.gBorn u6.gDied)).set ((u0).toNat) (GKept.mk (GClause.mk u7.gClause.gHead (GTerm.mk u7.gClause.gBody.gKind u7.gClause.gBody.gName (wr.i64 ((wr.i64 (ue.2 + 1)) + 1)) u7.gClause.gBody.gKids) u7.gClause.gFile) u7.gCode u7.gBorn u7.gDied))) }] [] [0, 1, 5] [] [0] ⟨[(0, (.v (.slx), [(0, .al (.a 0 0) [])])), (1, (.v (.int .i64 (wr.i64 ((wr.i64 (ue.2 + 1)) + 1))), [])), (5, (.v (.int .i64 u0), []))], [], [(0, [(0, .ex 1000000007 true (List.map GKept.c (((((((ux.set ((u0).toNat) (GKept.mk (GClause.mk (GTerm.mk ug u1.gClause.gHead.gName u1.gClause.gHead.gNum u1.gClause.gHead.gKids) u1.gClause.gBody u1.gClause.gFile) u1.gCode u1.gBorn u1.gDied)).set ((u0).toNat) (GKept.mk (GClause.mk (GTerm.mk u2.gClause.gHead.gKind v7 u2.gClause.gHead.gNum u2.gClause.gHead.gKids) u2.gClause.gBody u2.gClause.gFile) u2.gCode u2.gBorn u2.gDied)).set ((u0).toNat) (GKept.mk (GClause.mk (GTerm.mk u3.gClause.gHead.gKind u3.gClause.gHead.gName (wr.i64 ((wr.i64 (ug + 1)) + 1)) u3.gClause.gHead.gKids) u3.gClause.gBody u3.gClause.gFile) u3.gCode u3.gBorn u3.gDied)).set ((u0).toNat) (GKept.mk (GClause.mk (GTerm.mk u4.gClause.gHead.gKind u4.gClause.gHead.gName u4.gClause.gHead.gNum ue.1) u4.gClause.gBody u4.gClause.gFile) u4.gCode u4.gBorn u4.gDied)).set ((u0).toNat) (GKept.mk (GClause.mk u5.gClause.gHead (GTerm.mk ue.2 u5.gClause.gBody.gName u5.gClause.gBody.gNum u5.gClause.gBody.gKids) u5.gClause.gFile) u5.gCode u5.gBorn u5.gDied)).set ((u0).toNat) (GKept.mk (GClause.mk u6.gClause.gHead (GTerm.mk u6.gClause.gBody.gKind vl u6.gClause.gBody.gNum u6.gClause.gBody.gKids) u6.gClause.gFile) u6.gCode u6.gBorn u6.gDied)).set ((u0).toNat) (GKept.mk (GClause.mk u7.gClause.gHead (GTerm.mk u7.gClause.gBody.gKind u7.gClause.gBody.gName (wr.i64 ((wr.i64 (ue.2 + 1)) + 1)) u7.gClause.gBody.gKids) u7.gClause.gFile) u7.gCode u7.gBorn u7.gDied))))])]⟩ _ (by kernel_rfl) (.cons (ix_obl (c := GKept.c) GKept.c_len h175) (.cons (mod_obl (off := 6) (new := [.int .i64 (wr.i64 ((wr.i64 (ue.2 + 1)) + 1))]) (c := GKept.c) (GKept.c_eq u7) (GKept.c_eq (GKept.mk (GClause.mk u7.gClause.gHead (GTerm.mk u7.gClause.gBody.gKind u7.gClause.gBody.gName (wr.i64 ((wr.i64 (ue.2 + 1)) + 1)) u7.gClause.gBody.gKids) u7.gClause.gFile) u7.gCode u7.gBorn u7.gDied)) (at'_spec h175).2 rfl) (.cons (st_obl (sz := 14) (off := 6) (s := 1) (c := GKept.c) (GKept.c_eq u7) (at'_spec h175).2 rfl (Nat.le_of_ble_eq_true rfl)) .nil))) ?_
        apply Wc.seq
        refine Wc.region [] [] [0, 1, 5] [] [0] ⟨[(0, (.v (.slx), [(0, .al (.a 0 0) [])])), (1, (.v (.int .i64 (wr.i64 ((wr.i64 ((wr.i64 (ue.2 + 1)) + 1)) + 1))), [])), (5, (.v (.int .i64 u0), []))], [], [(0, [(0, .ex 1000000007 true (List.map GKept.c (((((((ux.set ((u0).toNat) (GKept.mk (GClause.mk (GTerm.mk ug u1.gClause.gHead.gName u1.gClause.gHead.gNum u1.gClause.gHead.gKids) u1.gClause.gBody u1.gClause.gFile) u1.gCode u1.gBorn u1.gDied)).set ((u0).toNat) (GKept.mk (GClause.mk (GTerm.mk u2.gClause.gHead.gKind v7 u2.gClause.gHead.gNum u2.gClause.gHead.gKids) u2.gClause.gBody u2.gClause.gFile) u2.gCode u2.gBorn u2.gDied)).set ((u0).toNat) (GKept.mk (GClause.mk (GTerm.mk u3.gClause.gHead.gKind u3.gClause.gHead.gName (wr.i64 ((wr.i64 (ug + 1)) + 1)) u3.gClause.gHead.gKids) u3.gClause.gBody u3.gClause.gFile) u3.gCode u3.gBorn u3.gDied)).set ((u0).toNat) (GKept.mk (GClause.mk (GTerm.mk u4.gClause.gHead.gKind u4.gClause.gHead.gName u4.gClause.gHead.gNum ue.1) u4.gClause.gBody u4.gClause.gFile) u4.gCode u4.gBorn u4.gDied)).set ((u0).toNat) (GKept.mk (GClause.mk u5.gClause.gHead (GTerm.mk ue.2 u5.gClause.gBody.gName u5.gClause.gBody.gNum u5.gClause.gBody.gKids) u5.gClause.gFile) u5.gCode u5.gBorn u5.gDied)).set ((u0).toNat) (GKept.mk (GClause.mk u6.gClause.gHead (GTerm.mk u6.gClause.gBody.gKind vl u6.gClause.gBody.gNum u6.gClause.gBody.gKids) u6.gClause.gFile) u6.gCode u6.gBorn u6.gDied)).set ((u0).toNat) (GKept.mk (GClause.mk u7.gClause.gHead (GTerm.mk u7.gClause.gBody.gKind u7.gClause.gBody.gName (wr.i64 ((wr.i64 (ue.2 + 1)) + 1)) u7.gClause.gBody.gKids) u7.gClause.gFile) u7.gCode u7.gBorn u7.gDied))))])]⟩ _ (by kernel_rfl) .nil ?_
        apply Wc.seq
        obtain ⟨u8, h176, h164⟩ := obind h164
        obtain ⟨vq, h177, h164⟩ := obind h164
        refine Wc.region [{}, {}, {}, {}, {}, {}, { v := some (.slx) }, {}, { c := some (List.map GKept.c ((((((((ux.set ((u0).toNat) (GKept.mk (GClause.mk (GTerm.mk ug u1.gClause.gHead.gName u1.gClause.gHead.gNum u1.gClause.gHead.gKids) u1.gClause.gBody u1.gClause.gFile) u1.gCode u1.gBorn u1.gDied)).set ((u0).toNat) (GKept.mk (GClause.mk (GTerm.mk u2.gClause.gHead.gKind v7 u2.gClause.gHead.gNum u2.gClause.gHead.gKids) u2.gClause.gBody u2.gClause.gFile) u2.gCode u2.gBorn u2.gDied)).set ((u0).toNat) (GKept.mk (GClause.mk (GTerm.mk u3.gClause.gHead.gKind u3.gClause.gHead.gName (wr.i64 ((wr.i64 (ug + 1)) + 1)) u3.gClause.gHead.gKids) u3.gClause.gBody u3.gClause.gFile) u3.gCode u3.gBorn u3.gDied)).set ((u0).toNat) (GKept.mk (GClause.mk (GTerm.mk u4.gClause.gHead.gKind u4.gClause.gHead.gName u4.gClause.gHead.gNum ue.1) u4.gClause.gBody u4.gClause.gFile) u4.gCode u4.gBorn u4.gDied)).set ((u0).toNat) (GKept.mk (GClause.mk u5.gClause.gHead (GTerm.mk ue.2 u5.gClause.gBody.gName u5.gClause.gBody.gNum u5.gClause.gBody.gKids) u5.gClause.gFile) u5.gCode u5.gBorn u5.gDied)).set ((u0).toNat) (GKept.mk (GClause.mk u6.gClause.gHead (GTerm.mk u6.gClause.gBody.gKind vl u6.gClause.gBody.gNum u6.gClause.gBody.gKids) u6.gClause.gFile) u6.gCode u6.gBorn u6.gDied)).set ((u0).toNat) (GKept.mk (GClause.mk u7.gClause.gHead (GTerm.mk u7.gClause.gBody.gKind u7.gClause.gBody.gName (wr.i64 ((wr.i64 (ue.2 + 1)) + 1)) u7.gClause.gBody.gKids) u7.gClause.gFile) u7.gCode u7.gBorn u7.gDied)).set ((u0).toNat) (GKept.mk (GClause.mk u8.gClause.gHead (GTerm.mk u8.gClause.gBody.gKind u8.gClause.gBody.gName u8.gClause.gBody.gNum vq.1) u8.gClause.gFile) u8.gCode u8.gBorn u8.gDied))), io := [0], r := some (.v (.int .i64 vq.2) []), outs := [(0, .v .undef [(0, .ex 1000000007 true (List.map GTerm.c vq.1))])], ioc := [(0, .ex 1000000007 true (List.map GTerm.c u8.gClause.gBody.gKids))] }] [] [0, 1, 5] [] [0] ⟨[(0, (.v (.slx), [(0, .al (.a 0 0) [])])), (1, (.v (.int .i64 vq.2), [])), (5, (.v (.int .i64 u0), []))], [], [(0, [(0, .ex 1000000007 true (List.map GKept.c ((((((((ux.set ((u0).toNat) (GKept.mk (GClause.mk (GTerm.mk ug u1.gClause.gHead.gName u1.gClause.gHead.gNum u1.gClause.gHead.gKids) u1.gClause.gBody u1.gClause.gFile) u1.gCode u1.gBorn u1.gDied)).set ((u0).toNat) (GKept.mk (GClause.mk (GTerm.mk u2.gClause.gHead.gKind v7 u2.gClause.gHead.gNum u2.gClause.gHead.gKids) u2.gClause.gBody u2.gClause.gFile) u2.gCode u2.gBorn u2.gDied)).set ((u0).toNat) (GKept.mk (GClause.mk (GTerm.mk u3.gClause.gHead.gKind u3.gClause.gHead.gName (wr.i64 ((wr.i64 (ug + 1)) + 1)) u3.gClause.gHead.gKids) u3.gClause.gBody u3.gClause.gFile) u3.gCode u3.gBorn u3.gDied)).set ((u0).toNat) (GKept.mk (GClause.mk (GTerm.mk u4.gClause.gHead.gKind u4.gClause.gHead.gName u4.gClause.gHead.gNum ue.1) u4.gClause.gBody u4.gClause.gFile) u4.gCode u4.gBorn u4.gDied)).set ((u0).toNat) (GKept.mk (GClause.mk u5.gClause.gHead (GTerm.mk ue.2 u5.gClause.gBody.gName u5.gClause.gBody.gNum u5.gClause.gBody.gKids) u5.gClause.gFile) u5.gCode u5.gBorn u5.gDied)).set ((u0).toNat) (GKept.mk (GClause.mk u6.gClause.gHead (GTerm.mk u6.gClause.gBody.gKind vl u6.gClause.gBody.gNum u6.gClause.gBody.gKids) u6.gClause.gFile) u6.gCode u6.gBorn u6.gDied)).set ((u0).toNat) (GKept.mk (GClause.mk u7.gClause.gHead (GTerm.mk u7.gClause.gBody.gKind u7.gClause.gBody.gName (wr.i64 ((wr.i64 (ue.2 + 1)) + 1)) u7.gClause.gBody.gKids) u7.gClause.gFile) u7.gCode u7.gBorn u7.gDied)).set ((u0).toNat) (GKept.mk (GClause.mk u8.gClause.gHead (GTerm.mk u8.gClause.gBody.gKind u8.gClause.gBody.gName u8.gClause.gBody.gNum vq.1) u8.gClause.gFile) u8.gCode u8.gBorn u8.gDied))))])]⟩ _ (by kernel_rfl) (.cons (ix_obl (c := GKept.c) GKept.c_len h176) (.cons (el_oblD (sz := 14) (off := 7) (s := 1) (ag := false) (v := .slx) (c := GKept.c) (GKept.c_eq u8) (at'_spec h176).2 rfl (Nat.le_of_ble_eq_true rfl) rfl) (.cons (own_obl (own := [(0, .al (.a 0 0) [(((u0).toNat), 14, 7)])]) (p := .a 0 0) (m := (u0).toNat) (sz := 14) (off := 7) (js := [0]) rfl) (.cons (seg_obl (sz := 14) (off := 7) (n := [.sl (List.map GTerm.c u8.gClause.gBody.gKids)]) (c := GKept.c) (GKept.c_eq u8) (at'_spec h176).2 rfl (Nat.le_of_ble_eq_true rfl) rfl) (.cons (mod_obl (off := 7) (new := [.sl (List.map GTerm.c vq.1)]) (c := GKept.c) (GKept.c_eq u8) (GKept.c_eq (GKept.mk (GClause.mk u8.gClause.gHead (GTerm.mk u8.gClause.gBody.gKind u8.gClause.gBody.gName u8.gClause.gBody.gNum vq.1) u8.gClause.gFile) u8.gCode u8.gBorn u8.gDied)) (at'_spec h176).2 rfl) (.cons (FnO.any (args := [.io (.slx) [(0, .ex 1000000007 true (List.map GTerm.c u8.gClause.gBody.gKids))], .v (.int .i64 (wr.i64 ((wr.i64 ((wr.i64 (ue.2 + 1)) + 1)) + 1))) []]) (claws_markTermS h177)) .nil)))))) ?_
        apply Wc.seq
        obtain ⟨zq, h178, h164⟩ := obind h164
        obtain ⟨uf, h179, h164⟩ := obind h164
        refine Wc.region [{}, {}, {}, { r := some (.v (.str zq) []) }, {}, {}, {}, { c := some (List.map GKept.c (((((((((ux.set ((u0).toNat) (GKept.mk (GClause.mk (GTerm.mk ug u1.gClause.gHead.gName u1.gClause.gHead.gNum u1.gClause.gHead.gKids) u1.gClause.gBody u1.gClause.gFile) u1.gCode u1.gBorn u1.gDied)).set ((u0).toNat) (GKept.mk (GClause.mk (GTerm.mk u2.gClause.gHead.gKind v7 u2.gClause.gHead.gNum u2.gClause.gHead.gKids) u2.gClause.gBody u2.gClause.gFile) u2.gCode u2.gBorn u2.gDied)).set ((u0).toNat) (GKept.mk (GClause.mk (GTerm.mk u3.gClause.gHead.gKind u3.gClause.gHead.gName (wr.i64 ((wr.i64 (ug + 1)) + 1)) u3.gClause.gHead.gKids) u3.gClause.gBody u3.gClause.gFile) u3.gCode u3.gBorn u3.gDied)).set ((u0).toNat) (GKept.mk (GClause.mk (GTerm.mk u4.gClause.gHead.gKind u4.gClause.gHead.gName u4.gClause.gHead.gNum ue.1) u4.gClause.gBody u4.gClause.gFile) u4.gCode u4.gBorn u4.gDied)).set ((u0).toNat) (GKept.mk (GClause.mk u5.gClause.gHead (GTerm.mk ue.2 u5.gClause.gBody.gName u5.gClause.gBody.gNum u5.gClause.gBody.gKids) u5.gClause.gFile) u5.gCode u5.gBorn u5.gDied)).set ((u0).toNat) (GKept.mk (GClause.mk u6.gClause.gHead (GTerm.mk u6.gClause.gBody.gKind vl u6.gClause.gBody.gNum u6.gClause.gBody.gKids) u6.gClause.gFile) u6.gCode u6.gBorn u6.gDied)).set ((u0).toNat) (GKept.mk (GClause.mk u7.gClause.gHead (GTerm.mk u7.gClause.gBody.gKind u7.gClause.gBody.gName (wr.i64 ((wr.i64 (ue.2 + 1)) + 1)) u7.gClause.gBody.gKids) u7.gClause.gFile) u7.gCode u7.gBorn u7.gDied)).set ((u0).toNat) (GKept.mk (GClause.mk u8.gClause.gHead (GTerm.mk u8.gClause.gBody.gKind u8.gClause.gBody.gName u8.gClause.gBody.gNum vq.1) u8.gClause.gFile) u8.gCode u8.gBorn u8.gDied)).set ((u0).toNat) (GKept.mk (GClause.mk uf.gClause.gHead uf.gClause.gBody zq) uf.gCode uf.gBorn uf.gDied))) }] [] [0, 1, 5] [] [0] ⟨[(0, (.v (.slx), [(0, .al (.a 0 0) [])])), (1, (.v (.int .i64 vq.2), [])), (5, (.v (.int .i64 u0), []))], [], [(0, [(0, .ex 1000000007 true (List.map GKept.c (((((((((ux.set ((u0).toNat) (GKept.mk (GClause.mk (GTerm.mk ug u1.gClause.gHead.gName u1.gClause.gHead.gNum u1.gClause.gHead.gKids) u1.gClause.gBody u1.gClause.gFile) u1.gCode u1.gBorn u1.gDied)).set ((u0).toNat) (GKept.mk (GClause.mk (GTerm.mk u2.gClause.gHead.gKind v7 u2.gClause.gHead.gNum u2.gClause.gHead.gKids) u2.gClause.gBody u2.gClause.gFile) u2.gCode u2.gBorn u2.gDied)).set ((u0).toNat) (GKept.mk (GClause.mk (GTerm.mk u3.gClause.gHead.gKind u3.gClause.gHead.gName (wr.i64 ((wr.i64 (ug + 1)) + 1)) u3.gClause.gHead.gKids) u3.gClause.gBody u3.gClause.gFile) u3.gCode u3.gBorn u3.gDied)).set ((u0).toNat) (GKept.mk (GClause.mk (GTerm.mk u4.gClause.gHead.gKind u4.gClause.gHead.gName u4.gClause.gHead.gNum ue.1) u4.gClause.gBody u4.gClause.gFile) u4.gCode u4.gBorn u4.gDied)).set ((u0).toNat) (GKept.mk (GClause.mk u5.gClause.gHead (GTerm.mk ue.2 u5.gClause.gBody.gName u5.gClause.gBody.gNum u5.gClause.gBody.gKids) u5.gClause.gFile) u5.gCode u5.gBorn u5.gDied)).set ((u0).toNat) (GKept.mk (GClause.mk u6.gClause.gHead (GTerm.mk u6.gClause.gBody.gKind vl u6.gClause.gBody.gNum u6.gClause.gBody.gKids) u6.gClause.gFile) u6.gCode u6.gBorn u6.gDied)).set ((u0).toNat) (GKept.mk (GClause.mk u7.gClause.gHead (GTerm.mk u7.gClause.gBody.gKind u7.gClause.gBody.gName (wr.i64 ((wr.i64 (ue.2 + 1)) + 1)) u7.gClause.gBody.gKids) u7.gClause.gFile) u7.gCode u7.gBorn u7.gDied)).set ((u0).toNat) (GKept.mk (GClause.mk u8.gClause.gHead (GTerm.mk u8.gClause.gBody.gKind u8.gClause.gBody.gName u8.gClause.gBody.gNum vq.1) u8.gClause.gFile) u8.gCode u8.gBorn u8.gDied)).set ((u0).toNat) (GKept.mk (GClause.mk uf.gClause.gHead uf.gClause.gBody zq) uf.gCode uf.gBorn uf.gDied))))])]⟩ _ (by kernel_rfl) (.cons (claws_markText h178) (.cons (ix_obl (c := GKept.c) GKept.c_len h179) (.cons (mod_obl (off := 8) (new := [.str zq]) (c := GKept.c) (GKept.c_eq uf) (GKept.c_eq (GKept.mk (GClause.mk uf.gClause.gHead uf.gClause.gBody zq) uf.gCode uf.gBorn uf.gDied)) (at'_spec h179).2 rfl) (.cons (st_obl (sz := 14) (off := 8) (s := 1) (c := GKept.c) (GKept.c_eq uf) (at'_spec h179).2 rfl (Nat.le_of_ble_eq_true rfl)) .nil)))) ?_
        apply Wc.seq
        refine Wc.region [] [] [0, 1, 5] [] [0] ⟨[(0, (.v (.slx), [(0, .al (.a 0 0) [])])), (1, (.v (.int .i64 (wr.i64 (vq.2 + 1))), [])), (5, (.v (.int .i64 u0), []))], [], [(0, [(0, .ex 1000000007 true (List.map GKept.c (((((((((ux.set ((u0).toNat) (GKept.mk (GClause.mk (GTerm.mk ug u1.gClause.gHead.gName u1.gClause.gHead.gNum u1.gClause.gHead.gKids) u1.gClause.gBody u1.gClause.gFile) u1.gCode u1.gBorn u1.gDied)).set ((u0).toNat) (GKept.mk (GClause.mk (GTerm.mk u2.gClause.gHead.gKind v7 u2.gClause.gHead.gNum u2.gClause.gHead.gKids) u2.gClause.gBody u2.gClause.gFile) u2.gCode u2.gBorn u2.gDied)).set ((u0).toNat) (GKept.mk (GClause.mk (GTerm.mk u3.gClause.gHead.gKind u3.gClause.gHead.gName (wr.i64 ((wr.i64 (ug + 1)) + 1)) u3.gClause.gHead.gKids) u3.gClause.gBody u3.gClause.gFile) u3.gCode u3.gBorn u3.gDied)).set ((u0).toNat) (GKept.mk (GClause.mk (GTerm.mk u4.gClause.gHead.gKind u4.gClause.gHead.gName u4.gClause.gHead.gNum ue.1) u4.gClause.gBody u4.gClause.gFile) u4.gCode u4.gBorn u4.gDied)).set ((u0).toNat) (GKept.mk (GClause.mk u5.gClause.gHead (GTerm.mk ue.2 u5.gClause.gBody.gName u5.gClause.gBody.gNum u5.gClause.gBody.gKids) u5.gClause.gFile) u5.gCode u5.gBorn u5.gDied)).set ((u0).toNat) (GKept.mk (GClause.mk u6.gClause.gHead (GTerm.mk u6.gClause.gBody.gKind vl u6.gClause.gBody.gNum u6.gClause.gBody.gKids) u6.gClause.gFile) u6.gCode u6.gBorn u6.gDied)).set ((u0).toNat) (GKept.mk (GClause.mk u7.gClause.gHead (GTerm.mk u7.gClause.gBody.gKind u7.gClause.gBody.gName (wr.i64 ((wr.i64 (ue.2 + 1)) + 1)) u7.gClause.gBody.gKids) u7.gClause.gFile) u7.gCode u7.gBorn u7.gDied)).set ((u0).toNat) (GKept.mk (GClause.mk u8.gClause.gHead (GTerm.mk u8.gClause.gBody.gKind u8.gClause.gBody.gName u8.gClause.gBody.gNum vq.1) u8.gClause.gFile) u8.gCode u8.gBorn u8.gDied)).set ((u0).toNat) (GKept.mk (GClause.mk uf.gClause.gHead uf.gClause.gBody zq) uf.gCode uf.gBorn uf.gDied))))])]⟩ _ (by kernel_rfl) .nil ?_
        apply Wc.seq
        obtain ⟨uj, h180, h164⟩ := obind h164
        obtain ⟨zr, h181, h164⟩ := obind h164
        refine Wc.region [{}, {}, {}, {}, {}, { v := some (.slx) }, {}, { c := some (List.map GKept.c ((((((((((ux.set ((u0).toNat) (GKept.mk (GClause.mk (GTerm.mk ug u1.gClause.gHead.gName u1.gClause.gHead.gNum u1.gClause.gHead.gKids) u1.gClause.gBody u1.gClause.gFile) u1.gCode u1.gBorn u1.gDied)).set ((u0).toNat) (GKept.mk (GClause.mk (GTerm.mk u2.gClause.gHead.gKind v7 u2.gClause.gHead.gNum u2.gClause.gHead.gKids) u2.gClause.gBody u2.gClause.gFile) u2.gCode u2.gBorn u2.gDied)).set ((u0).toNat) (GKept.mk (GClause.mk (GTerm.mk u3.gClause.gHead.gKind u3.gClause.gHead.gName (wr.i64 ((wr.i64 (ug + 1)) + 1)) u3.gClause.gHead.gKids) u3.gClause.gBody u3.gClause.gFile) u3.gCode u3.gBorn u3.gDied)).set ((u0).toNat) (GKept.mk (GClause.mk (GTerm.mk u4.gClause.gHead.gKind u4.gClause.gHead.gName u4.gClause.gHead.gNum ue.1) u4.gClause.gBody u4.gClause.gFile) u4.gCode u4.gBorn u4.gDied)).set ((u0).toNat) (GKept.mk (GClause.mk u5.gClause.gHead (GTerm.mk ue.2 u5.gClause.gBody.gName u5.gClause.gBody.gNum u5.gClause.gBody.gKids) u5.gClause.gFile) u5.gCode u5.gBorn u5.gDied)).set ((u0).toNat) (GKept.mk (GClause.mk u6.gClause.gHead (GTerm.mk u6.gClause.gBody.gKind vl u6.gClause.gBody.gNum u6.gClause.gBody.gKids) u6.gClause.gFile) u6.gCode u6.gBorn u6.gDied)).set ((u0).toNat) (GKept.mk (GClause.mk u7.gClause.gHead (GTerm.mk u7.gClause.gBody.gKind u7.gClause.gBody.gName (wr.i64 ((wr.i64 (ue.2 + 1)) + 1)) u7.gClause.gBody.gKids) u7.gClause.gFile) u7.gCode u7.gBorn u7.gDied)).set ((u0).toNat) (GKept.mk (GClause.mk u8.gClause.gHead (GTerm.mk u8.gClause.gBody.gKind u8.gClause.gBody.gName u8.gClause.gBody.gNum vq.1) u8.gClause.gFile) u8.gCode u8.gBorn u8.gDied)).set ((u0).toNat) (GKept.mk (GClause.mk uf.gClause.gHead uf.gClause.gBody zq) uf.gCode uf.gBorn uf.gDied)).set ((u0).toNat) (GKept.mk uj.gClause (GCode.mk zr.1 uj.gCode.gBody uj.gCode.gVars) uj.gBorn uj.gDied))), io := [0], r := some (.v (.int .i64 zr.2) []), outs := [(0, .v .undef [(0, .ex 1000000007 true (List.map GIns.c zr.1))])], ioc := [(0, .ex 1000000007 true (List.map GIns.c uj.gCode.gHead))] }] [] [0, 1, 5] [] [0] ⟨[(0, (.v (.slx), [(0, .al (.a 0 0) [])])), (1, (.v (.int .i64 zr.2), [])), (5, (.v (.int .i64 u0), []))], [], [(0, [(0, .ex 1000000007 true (List.map GKept.c ((((((((((ux.set ((u0).toNat) (GKept.mk (GClause.mk (GTerm.mk ug u1.gClause.gHead.gName u1.gClause.gHead.gNum u1.gClause.gHead.gKids) u1.gClause.gBody u1.gClause.gFile) u1.gCode u1.gBorn u1.gDied)).set ((u0).toNat) (GKept.mk (GClause.mk (GTerm.mk u2.gClause.gHead.gKind v7 u2.gClause.gHead.gNum u2.gClause.gHead.gKids) u2.gClause.gBody u2.gClause.gFile) u2.gCode u2.gBorn u2.gDied)).set ((u0).toNat) (GKept.mk (GClause.mk (GTerm.mk u3.gClause.gHead.gKind u3.gClause.gHead.gName (wr.i64 ((wr.i64 (ug + 1)) + 1)) u3.gClause.gHead.gKids) u3.gClause.gBody u3.gClause.gFile) u3.gCode u3.gBorn u3.gDied)).set ((u0).toNat) (GKept.mk (GClause.mk (GTerm.mk u4.gClause.gHead.gKind u4.gClause.gHead.gName u4.gClause.gHead.gNum ue.1) u4.gClause.gBody u4.gClause.gFile) u4.gCode u4.gBorn u4.gDied)).set ((u0).toNat) (GKept.mk (GClause.mk u5.gClause.gHead (GTerm.mk ue.2 u5.gClause.gBody.gName u5.gClause.gBody.gNum u5.gClause.gBody.gKids) u5.gClause.gFile) u5.gCode u5.gBorn u5.gDied)).set ((u0).toNat) (GKept.mk (GClause.mk u6.gClause.gHead (GTerm.mk u6.gClause.gBody.gKind vl u6.gClause.gBody.gNum u6.gClause.gBody.gKids) u6.gClause.gFile) u6.gCode u6.gBorn u6.gDied)).set ((u0).toNat) (GKept.mk (GClause.mk u7.gClause.gHead (GTerm.mk u7.gClause.gBody.gKind u7.gClause.gBody.gName (wr.i64 ((wr.i64 (ue.2 + 1)) + 1)) u7.gClause.gBody.gKids) u7.gClause.gFile) u7.gCode u7.gBorn u7.gDied)).set ((u0).toNat) (GKept.mk (GClause.mk u8.gClause.gHead (GTerm.mk u8.gClause.gBody.gKind u8.gClause.gBody.gName u8.gClause.gBody.gNum vq.1) u8.gClause.gFile) u8.gCode u8.gBorn u8.gDied)).set ((u0).toNat) (GKept.mk (GClause.mk uf.gClause.gHead uf.gClause.gBody zq) uf.gCode uf.gBorn uf.gDied)).set ((u0).toNat) (GKept.mk uj.gClause (GCode.mk zr.1 uj.gCode.gBody uj.gCode.gVars) uj.gBorn uj.gDied))))])]⟩ _ (by kernel_rfl) (.cons (ix_obl (c := GKept.c) GKept.c_len h180) (.cons (el_oblD (sz := 14) (off := 9) (s := 1) (ag := false) (v := .slx) (c := GKept.c) (GKept.c_eq uj) (at'_spec h180).2 rfl (Nat.le_of_ble_eq_true rfl) rfl) (.cons (own_obl (own := [(0, .al (.a 0 0) [(((u0).toNat), 14, 9)])]) (p := .a 0 0) (m := (u0).toNat) (sz := 14) (off := 9) (js := [0]) rfl) (.cons (seg_obl (sz := 14) (off := 9) (n := [.sl (List.map GIns.c uj.gCode.gHead)]) (c := GKept.c) (GKept.c_eq uj) (at'_spec h180).2 rfl (Nat.le_of_ble_eq_true rfl) rfl) (.cons (mod_obl (off := 9) (new := [.sl (List.map GIns.c zr.1)]) (c := GKept.c) (GKept.c_eq uj) (GKept.c_eq (GKept.mk uj.gClause (GCode.mk zr.1 uj.gCode.gBody uj.gCode.gVars) uj.gBorn uj.gDied)) (at'_spec h180).2 rfl) (.cons (FnO.any (args := [.io (.slx) [(0, .ex 1000000007 true (List.map GIns.c uj.gCode.gHead))], .v (.int .i64 (wr.i64 (vq.2 + 1))) []]) (claws_markInsS h181)) .nil)))))) ?_
        apply Wc.seq
        obtain ⟨un, h182, h164⟩ := obind h164
        obtain ⟨v0, h183, h164⟩ := obind h164
        refine Wc.region [{}, {}, {}, {}, {}, { v := some (.slx) }, {}, { c := some (List.map GKept.c (((((((((((ux.set ((u0).toNat) (GKept.mk (GClause.mk (GTerm.mk ug u1.gClause.gHead.gName u1.gClause.gHead.gNum u1.gClause.gHead.gKids) u1.gClause.gBody u1.gClause.gFile) u1.gCode u1.gBorn u1.gDied)).set ((u0).toNat) (GKept.mk (GClause.mk (GTerm.mk u2.gClause.gHead.gKind v7 u2.gClause.gHead.gNum u2.gClause.gHead.gKids) u2.gClause.gBody u2.gClause.gFile) u2.gCode u2.gBorn u2.gDied)).set ((u0).toNat) (GKept.mk (GClause.mk (GTerm.mk u3.gClause.gHead.gKind u3.gClause.gHead.gName (wr.i64 ((wr.i64 (ug + 1)) + 1)) u3.gClause.gHead.gKids) u3.gClause.gBody u3.gClause.gFile) u3.gCode u3.gBorn u3.gDied)).set ((u0).toNat) (GKept.mk (GClause.mk (GTerm.mk u4.gClause.gHead.gKind u4.gClause.gHead.gName u4.gClause.gHead.gNum ue.1) u4.gClause.gBody u4.gClause.gFile) u4.gCode u4.gBorn u4.gDied)).set ((u0).toNat) (GKept.mk (GClause.mk u5.gClause.gHead (GTerm.mk ue.2 u5.gClause.gBody.gName u5.gClause.gBody.gNum u5.gClause.gBody.gKids) u5.gClause.gFile) u5.gCode u5.gBorn u5.gDied)).set ((u0).toNat) (GKept.mk (GClause.mk u6.gClause.gHead (GTerm.mk u6.gClause.gBody.gKind vl u6.gClause.gBody.gNum u6.gClause.gBody.gKids) u6.gClause.gFile) u6.gCode u6.gBorn u6.gDied)).set ((u0).toNat) (GKept.mk (GClause.mk u7.gClause.gHead (GTerm.mk u7.gClause.gBody.gKind u7.gClause.gBody.gName (wr.i64 ((wr.i64 (ue.2 + 1)) + 1)) u7.gClause.gBody.gKids) u7.gClause.gFile) u7.gCode u7.gBorn u7.gDied)).set ((u0).toNat) (GKept.mk (GClause.mk u8.gClause.gHead (GTerm.mk u8.gClause.gBody.gKind u8.gClause.gBody.gName u8.gClause.gBody.gNum vq.1) u8.gClause.gFile) u8.gCode u8.gBorn u8.gDied)).set ((u0).toNat) (GKept.mk (GClause.mk uf.gClause.gHead uf.gClause.gBody zq) uf.gCode uf.gBorn uf.gDied)).set ((u0).toNat) (GKept.mk uj.gClause (GCode.mk zr.1 uj.gCode.gBody uj.gCode.gVars) uj.gBorn uj.gDied)).set ((u0).toNat) (GKept.mk un.gClause (GCode.mk un.gCode.gHead v0.1 un.gCode.gVars) un.gBorn un.gDied))), io := [0], r := some (.v (.int .i64 v0.2) []), outs := [(0, .v .undef [(0, .ex 1000000007 true (List.map GIns.c v0.1))])], ioc := [(0, .ex 1000000007 true (List.map GIns.c un.gCode.gBody))] }] [] [0, 1, 5] [] [0] ⟨[(0, (.v (.slx), [(0, .al (.a 0 0) [])])), (1, (.v (.int .i64 v0.2), [])), (5, (.v (.int .i64 u0), []))], [], [(0, [(0, .ex 1000000007 true (List.map GKept.c (((((((((((ux.set ((u0).toNat) (GKept.mk (GClause.mk (GTerm.mk ug u1.gClause.gHead.gName u1.gClause.gHead.gNum u1.gClause.gHead.gKids) u1.gClause.gBody u1.gClause.gFile) u1.gCode u1.gBorn u1.gDied)).set ((u0).toNat) (GKept.mk (GClause.mk (GTerm.mk u2.gClause.gHead.gKind v7 u2.gClause.gHead.gNum u2.gClause.gHead.gKids) u2.gClause.gBody u2.gClause.gFile) u2.gCode u2.gBorn u2.gDied)).set ((u0).toNat) (GKept.mk (GClause.mk (GTerm.mk u3.gClause.gHead.gKind u3.gClause.gHead.gName (wr.i64 ((wr.i64 (ug + 1)) + 1)) u3.gClause.gHead.gKids) u3.gClause.gBody u3.gClause.gFile) u3.gCode u3.gBorn u3.gDied)).set ((u0).toNat) (GKept.mk (GClause.mk (GTerm.mk u4.gClause.gHead.gKind u4.gClause.gHead.gName u4.gClause.gHead.gNum ue.1) u4.gClause.gBody u4.gClause.gFile) u4.gCode u4.gBorn u4.gDied)).set ((u0).toNat) (GKept.mk (GClause.mk u5.gClause.gHead (GTerm.mk ue.2 u5.gClause.gBody.gName u5.gClause.gBody.gNum u5.gClause.gBody.gKids) u5.gClause.gFile) u5.gCode u5.gBorn u5.gDied)).set ((u0).toNat) (GKept.mk (GClause.mk u6.gClause.gHead (GTerm.mk u6.gClause.gBody.gKind vl u6.gClause.gBody.gNum u6.gClause.gBody.gKids) u6.gClause.gFile) u6.gCode u6.gBorn u6.gDied)).set ((u0).toNat) (GKept.mk (GClause.mk u7.gClause.gHead (GTerm.mk u7.gClause.gBody.gKind u7.gClause.gBody.gName (wr.i64 ((wr.i64 (ue.2 + 1)) + 1)) u7.gClause.gBody.gKids) u7.gClause.gFile) u7.gCode u7.gBorn u7.gDied)).set ((u0).toNat) (GKept.mk (GClause.mk u8.gClause.gHead (GTerm.mk u8.gClause.gBody.gKind u8.gClause.gBody.gName u8.gClause.gBody.gNum vq.1) u8.gClause.gFile) u8.gCode u8.gBorn u8.gDied)).set ((u0).toNat) (GKept.mk (GClause.mk uf.gClause.gHead uf.gClause.gBody zq) uf.gCode uf.gBorn uf.gDied)).set ((u0).toNat) (GKept.mk uj.gClause (GCode.mk zr.1 uj.gCode.gBody uj.gCode.gVars) uj.gBorn uj.gDied)).set ((u0).toNat) (GKept.mk un.gClause (GCode.mk un.gCode.gHead v0.1 un.gCode.gVars) un.gBorn un.gDied))))])]⟩ _ (by kernel_rfl) (.cons (ix_obl (c := GKept.c) GKept.c_len h182) (.cons (el_oblD (sz := 14) (off := 10) (s := 1) (ag := false) (v := .slx) (c := GKept.c) (GKept.c_eq un) (at'_spec h182).2 rfl (Nat.le_of_ble_eq_true rfl) rfl) (.cons (own_obl (own := [(0, .al (.a 0 0) [(((u0).toNat), 14, 10)])]) (p := .a 0 0) (m := (u0).toNat) (sz := 14) (off := 10) (js := [0]) rfl) (.cons (seg_obl (sz := 14) (off := 10) (n := [.sl (List.map GIns.c un.gCode.gBody)]) (c := GKept.c) (GKept.c_eq un) (at'_spec h182).2 rfl (Nat.le_of_ble_eq_true rfl) rfl) (.cons (mod_obl (off := 10) (new := [.sl (List.map GIns.c v0.1)]) (c := GKept.c) (GKept.c_eq un) (GKept.c_eq (GKept.mk un.gClause (GCode.mk un.gCode.gHead v0.1 un.gCode.gVars) un.gBorn un.gDied)) (at'_spec h182).2 rfl) (.cons (FnO.any (args := [.io (.slx) [(0, .ex 1000000007 true (List.map GIns.c un.gCode.gBody))], .v (.int .i64 zr.2) []]) (claws_markInsS h183)) .nil)))))) ?_
        apply Wc.seq
        obtain ⟨ur, h184, h164⟩ := obind h164
        refine Wc.region [{}, {}, {}, {}, {}, {}, { c := some (List.map GKept.c ((((((((((((ux.set ((u0).toNat) (GKept.mk (GClause.mk (GTerm.mk ug u1.gClause.gHead.gName u1.gClause.gHead.gNum u1.gClause.gHead.gKids) u1.gClause.gBody u1.gClause.gFile) u1.gCode u1.gBorn u1.gDied)).set ((u0).toNat) (GKept.mk (GClause.mk (GTerm.mk u2.gClause.gHead.gKind v7 u2.gClause.gHead.gNum u2.gClause.gHead.gKids) u2.gClause.gBody u2.gClause.gFile) u2.gCode u2.gBorn u2.gDied)).set ((u0).toNat) (GKept.mk (GClause.mk (GTerm.mk u3.gClause.gHead.gKind u3.gClause.gHead.gName (wr.i64 ((wr.i64 (ug + 1)) + 1)) u3.gClause.gHead.gKids) u3.gClause.gBody u3.gClause.gFile) u3.gCode u3.gBorn u3.gDied)).set ((u0).toNat) (GKept.mk (GClause.mk (GTerm.mk u4.gClause.gHead.gKind u4.gClause.gHead.gName u4.gClause.gHead.gNum ue.1) u4.gClause.gBody u4.gClause.gFile) u4.gCode u4.gBorn u4.gDied)).set ((u0).toNat) (GKept.mk (GClause.mk u5.gClause.gHead (GTerm.mk ue.2 u5.gClause.gBody.gName u5.gClause.gBody.gNum u5.gClause.gBody.gKids) u5.gClause.gFile) u5.gCode u5.gBorn u5.gDied)).set ((u0).toNat) (GKept.mk (GClause.mk u6.gClause.gHead (GTerm.mk u6.gClause.gBody.gKind vl u6.gClause.gBody.gNum u6.gClause.gBody.gKids) u6.gClause.gFile) u6.gCode u6.gBorn u6.gDied)).set ((u0).toNat) (GKept.mk (GClause.mk u7.gClause.gHead (GTerm.mk u7.gClause.gBody.gKind u7.gClause.gBody.gName (wr.i64 ((wr.i64 (ue.2 + 1)) + 1)) u7.gClause.gBody.gKids) u7.gClause.gFile) u7.gCode u7.gBorn u7.gDied)).set ((u0).toNat) (GKept.mk (GClause.mk u8.gClause.gHead (GTerm.mk u8.gClause.gBody.gKind u8.gClause.gBody.gName u8.gClause.gBody.gNum vq.1) u8.gClause.gFile) u8.gCode u8.gBorn u8.gDied)).set ((u0).toNat) (GKept.mk (GClause.mk uf.gClause.gHead uf.gClause.gBody zq) uf.gCode uf.gBorn uf.gDied)).set ((u0).toNat) (GKept.mk uj.gClause (GCode.mk zr.1 uj.gCode.gBody uj.gCode.gVars) uj.gBorn uj.gDied)).set ((u0).toNat) (GKept.mk un.gClause (GCode.mk un.gCode.gHead v0.1 un.gCode.gVars) un.gBorn un.gDied)).set ((u0).toNat) (GKept.mk ur.gClause (GCode.mk ur.gCode.gHead ur.gCode.gBody v0.2) ur.gBorn ur.gDied))) }] [] [0, 1, 5] [] [0] ⟨[(0, (.v (.slx), [(0, .al (.a 0 0) [])])), (1, (.v (.int .i64 v0.2), [])), (5, (.v (.int .i64 u0), []))], [], [(0, [(0, .ex 1000000007 true (List.map GKept.c ((((((((((((ux.set ((u0).toNat) (GKept.mk (GClause.mk (GTerm.mk ug u1.gClause.gHead.gName u1.gClause.gHead.gNum u1.gClause.gHead.gKids) u1.gClause.gBody u1.gClause.gFile) u1.gCode u1.gBorn u1.gDied)).set ((u0).toNat) (GKept.mk (GClause.mk (GTerm.mk u2.gClause.gHead.gKind v7 u2.gClause.gHead.gNum u2.gClause.gHead.gKids) u2.gClause.gBody u2.gClause.gFile) u2.gCode u2.gBorn u2.gDied)).set ((u0).toNat) (GKept.mk (GClause.mk (GTerm.mk u3.gClause.gHead.gKind u3.gClause.gHead.gName (wr.i64 ((wr.i64 (ug + 1)) + 1)) u3.gClause.gHead.gKids) u3.gClause.gBody u3.gClause.gFile) u3.gCode u3.gBorn u3.gDied)).set ((u0).toNat) (GKept.mk (GClause.mk (GTerm.mk u4.gClause.gHead.gKind u4.gClause.gHead.gName u4.gClause.gHead.gNum ue.1) u4.gClause.gBody u4.gClause.gFile) u4.gCode u4.gBorn u4.gDied)).set ((u0).toNat) (GKept.mk (GClause.mk u5.gClause.gHead (GTerm.mk ue.2 u5.gClause.gBody.gName u5.gClause.gBody.gNum u5.gClause.gBody.gKids) u5.gClause.gFile) u5.gCode u5.gBorn u5.gDied)).set ((u0).toNat) (GKept.mk (GClause.mk u6.gClause.gHead (GTerm.mk u6.gClause.gBody.gKind vl u6.gClause.gBody.gNum u6.gClause.gBody.gKids) u6.gClause.gFile) u6.gCode u6.gBorn u6.gDied)).set ((u0).toNat) (GKept.mk (GClause.mk u7.gClause.gHead (GTerm.mk u7.gClause.gBody.gKind u7.gClause.gBody.gName (wr.i64 ((wr.i64 (ue.2 + 1)) + 1)) u7.gClause.gBody.gKids) u7.gClause.gFile) u7.gCode u7.gBorn u7.gDied)).set ((u0).toNat) (GKept.mk (GClause.mk u8.gClause.gHead (GTerm.mk u8.gClause.gBody.gKind u8.gClause.gBody.gName u8.gClause.gBody.gNum vq.1) u8.gClause.gFile) u8.gCode u8.gBorn u8.gDied)).set ((u0).toNat) (GKept.mk (GClause.mk uf.gClause.gHead uf.gClause.gBody zq) uf.gCode uf.gBorn uf.gDied)).set ((u0).toNat) (GKept.mk uj.gClause (GCode.mk zr.1 uj.gCode.gBody uj.gCode.gVars) uj.gBorn uj.gDied)).set ((u0).toNat) (GKept.mk un.gClause (GCode.mk un.gCode.gHead v0.1 un.gCode.gVars) un.gBorn un.gDied)).set ((u0).toNat) (GKept.mk ur.gClause (GCode.mk ur.gCode.gHead ur.gCode.gBody v0.2) ur.gBorn ur.gDied))))])]⟩ _ (by kernel_rfl) (.cons (ix_obl (c := GKept.c) GKept.c_len h184) (.cons (mod_obl (off := 11) (new := [.int .i64 v0.2]) (c := GKept.c) (GKept.c_eq ur) (GKept.c_eq (GKept.mk ur.gClause (GCode.mk ur.gCode.gHead ur.gCode.gBody v0.2) ur.gBorn ur.gDied)) (at'_spec h184).2 rfl) (.cons (st_obl (sz := 14) (off := 11) (s := 1) (c := GKept.c) (GKept.c_eq ur) (at'_spec h184).2 rfl (Nat.le_of_ble_eq_true rfl)) .nil))) ?_
        apply Wc.seq
        refine Wc.region [] [] [0, 1, 5] [] [0] ⟨[(0, (.v (.slx), [(0, .al (.a 0 0) [])])), (1, (.v (.int .i64 (wr.i64 (v0.2 + 1))), [])), (5, (.v (.int .i64 u0), []))], [], [(0, [(0, .ex 1000000007 true (List.map GKept.c ((((((((((((ux.set ((u0).toNat) (GKept.mk (GClause.mk (GTerm.mk ug u1.gClause.gHead.gName u1.gClause.gHead.gNum u1.gClause.gHead.gKids) u1.gClause.gBody u1.gClause.gFile) u1.gCode u1.gBorn u1.gDied)).set ((u0).toNat) (GKept.mk (GClause.mk (GTerm.mk u2.gClause.gHead.gKind v7 u2.gClause.gHead.gNum u2.gClause.gHead.gKids) u2.gClause.gBody u2.gClause.gFile) u2.gCode u2.gBorn u2.gDied)).set ((u0).toNat) (GKept.mk (GClause.mk (GTerm.mk u3.gClause.gHead.gKind u3.gClause.gHead.gName (wr.i64 ((wr.i64 (ug + 1)) + 1)) u3.gClause.gHead.gKids) u3.gClause.gBody u3.gClause.gFile) u3.gCode u3.gBorn u3.gDied)).set ((u0).toNat) (GKept.mk (GClause.mk (GTerm.mk u4.gClause.gHead.gKind u4.gClause.gHead.gName u4.gClause.gHead.gNum ue.1) u4.gClause.gBody u4.gClause.gFile) u4.gCode u4.gBorn u4.gDied)).set ((u0).toNat) (GKept.mk (GClause.mk u5.gClause.gHead (GTerm.mk ue.2 u5.gClause.gBody.gName u5.gClause.gBody.gNum u5.gClause.gBody.gKids) u5.gClause.gFile) u5.gCode u5.gBorn u5.gDied)).set ((u0).toNat) (GKept.mk (GClause.mk u6.gClause.gHead (GTerm.mk u6.gClause.gBody.gKind vl u6.gClause.gBody.gNum u6.gClause.gBody.gKids) u6.gClause.gFile) u6.gCode u6.gBorn u6.gDied)).set ((u0).toNat) (GKept.mk (GClause.mk u7.gClause.gHead (GTerm.mk u7.gClause.gBody.gKind u7.gClause.gBody.gName (wr.i64 ((wr.i64 (ue.2 + 1)) + 1)) u7.gClause.gBody.gKids) u7.gClause.gFile) u7.gCode u7.gBorn u7.gDied)).set ((u0).toNat) (GKept.mk (GClause.mk u8.gClause.gHead (GTerm.mk u8.gClause.gBody.gKind u8.gClause.gBody.gName u8.gClause.gBody.gNum vq.1) u8.gClause.gFile) u8.gCode u8.gBorn u8.gDied)).set ((u0).toNat) (GKept.mk (GClause.mk uf.gClause.gHead uf.gClause.gBody zq) uf.gCode uf.gBorn uf.gDied)).set ((u0).toNat) (GKept.mk uj.gClause (GCode.mk zr.1 uj.gCode.gBody uj.gCode.gVars) uj.gBorn uj.gDied)).set ((u0).toNat) (GKept.mk un.gClause (GCode.mk un.gCode.gHead v0.1 un.gCode.gVars) un.gBorn un.gDied)).set ((u0).toNat) (GKept.mk ur.gClause (GCode.mk ur.gCode.gHead ur.gCode.gBody v0.2) ur.gBorn ur.gDied))))])]⟩ _ (by kernel_rfl) .nil ?_
        apply Wc.seq
        obtain ⟨z2, h185, h164⟩ := obind h164
        refine Wc.region [{}, {}, {}, {}, {}, { c := some (List.map GKept.c (((((((((((((ux.set ((u0).toNat) (GKept.mk (GClause.mk (GTerm.mk ug u1.gClause.gHead.gName u1.gClause.gHead.gNum u1.gClause.gHead.gKids) u1.gClause.gBody u1.gClause.gFile) u1.gCode u1.gBorn u1.gDied)).set ((u0).toNat) (GKept.mk (GClause.mk (GTerm.mk u2.gClause.gHead.gKind v7 u2.gClause.gHead.gNum u2.gClause.gHead.gKids) u2.gClause.gBody u2.gClause.gFile) u2.gCode u2.gBorn u2.gDied)).set ((u0).toNat) (GKept.mk (GClause.mk (GTerm.mk u3.gClause.gHead.gKind u3.gClause.gHead.gName (wr.i64 ((wr.i64 (ug + 1)) + 1)) u3.gClause.gHead.gKids) u3.gClause.gBody u3.gClause.gFile) u3.gCode u3.gBorn u3.gDied)).set ((u0).toNat) (GKept.mk (GClause.mk (GTerm.mk u4.gClause.gHead.gKind u4.gClause.gHead.gName u4.gClause.gHead.gNum ue.1) u4.gClause.gBody u4.gClause.gFile) u4.gCode u4.gBorn u4.gDied)).set ((u0).toNat) (GKept.mk (GClause.mk u5.gClause.gHead (GTerm.mk ue.2 u5.gClause.gBody.gName u5.gClause.gBody.gNum u5.gClause.gBody.gKids) u5.gClause.gFile) u5.gCode u5.gBorn u5.gDied)).set ((u0).toNat) (GKept.mk (GClause.mk u6.gClause.gHead (GTerm.mk u6.gClause.gBody.gKind vl u6.gClause.gBody.gNum u6.gClause.gBody.gKids) u6.gClause.gFile) u6.gCode u6.gBorn u6.gDied)).set ((u0).toNat) (GKept.mk (GClause.mk u7.gClause.gHead (GTerm.mk u7.gClause.gBody.gKind u7.gClause.gBody.gName (wr.i64 ((wr.i64 (ue.2 + 1)) + 1)) u7.gClause.gBody.gKids) u7.gClause.gFile) u7.gCode u7.gBorn u7.gDied)).set ((u0).toNat) (GKept.mk (GClause.mk u8.gClause.gHead (GTerm.mk u8.gClause.gBody.gKind u8.gClause.gBody.gName u8.gClause.gBody.gNum vq.1) u8.gClause.gFile) u8.gCode u8.gBorn u8.gDied)).set ((u0).toNat) (GKept.mk (GClause.mk uf.gClause.gHead uf.gClause.gBody zq) uf.gCode uf.gBorn uf.gDied)).set ((u0).toNat) (GKept.mk uj.gClause (GCode.mk zr.1 uj.gCode.gBody uj.gCode.gVars) uj.gBorn uj.gDied)).set ((u0).toNat) (GKept.mk un.gClause (GCode.mk un.gCode.gHead v0.1 un.gCode.gVars) un.gBorn un.gDied)).set ((u0).toNat) (GKept.mk ur.gClause (GCode.mk ur.gCode.gHead ur.gCode.gBody v0.2) ur.gBorn ur.gDied)).set ((u0).toNat) (GKept.mk z2.gClause z2.gCode (wr.i64 (v0.2 + 1)) z2.gDied))) }] [] [0, 1, 5] [] [0] ⟨[(0, (.v (.slx), [(0, .al (.a 0 0) [])])), (1, (.v (.int .i64 (wr.i64 (v0.2 + 1))), [])), (5, (.v (.int .i64 u0), []))], [], [(0, [(0, .ex 1000000007 true (List.map GKept.c (((((((((((((ux.set ((u0).toNat) (GKept.mk (GClause.mk (GTerm.mk ug u1.gClause.gHead.gName u1.gClause.gHead.gNum u1.gClause.gHead.gKids) u1.gClause.gBody u1.gClause.gFile) u1.gCode u1.gBorn u1.gDied)).set ((u0).toNat) (GKept.mk (GClause.mk (GTerm.mk u2.gClause.gHead.gKind v7 u2.gClause.gHead.gNum u2.gClause.gHead.gKids) u2.gClause.gBody u2.gClause.gFile) u2.gCode u2.gBorn u2.gDied)).set ((u0).toNat) (GKept.mk (GClause.mk (GTerm.mk u3.gClause.gHead.gKind u3.gClause.gHead.gName (wr.i64 ((wr.i64 (ug + 1)) + 1)) u3.gClause.gHead.gKids) u3.gClause.gBody u3.gClause.gFile) u3.gCode u3.gBorn u3.gDied)).set ((u0).toNat) (GKept.mk (GClause.mk (GTerm.mk u4.gClause.gHead.gKind u4.gClause.gHead.gName u4.gClause.gHead.gNum ue.1) u4.gClause.gBody u4.gClause.gFile) u4.gCode u4.gBorn u4.gDied)).set ((u0).toNat) (GKept.mk (GClause.mk u5.gClause.gHead (GTerm.mk ue.2 u5.gClause.gBody.gName u5.gClause.gBody.gNum u5.gClause.gBody.gKids) u5.gClause.gFile) u5.gCode u5.gBorn u5.gDied)).set ((u0).toNat) (GKept.mk (GClause.mk u6.gClause.gHead (GTerm.mk u6.gClause.gBody.gKind vl u6.gClause.gBody.gNum u6.gClause.gBody.gKids) u6.gClause.gFile) u6.gCode u6.gBorn u6.gDied)).set ((u0).toNat) (GKept.mk (GClause.mk u7.gClause.gHead (GTerm.mk u7.gClause.gBody.gKind u7.gClause.gBody.gName (wr.i64 ((wr.i64 (ue.2 + 1)) + 1)) u7.gClause.gBody.gKids) u7.gClause.gFile) u7.gCode u7.gBorn u7.gDied)).set ((u0).toNat) (GKept.mk (GClause.mk u8.gClause.gHead (GTerm.mk u8.gClause.gBody.gKind u8.gClause.gBody.gName u8.gClause.gBody.gNum vq.1) u8.gClause.gFile) u8.gCode u8.gBorn u8.gDied)).set ((u0).toNat) (GKept.mk (GClause.mk uf.gClause.gHead uf.gClause.gBody zq) uf.gCode uf.gBorn uf.gDied)).set ((u0).toNat) (GKept.mk uj.gClause (GCode.mk zr.1 uj.gCode.gBody uj.gCode.gVars) uj.gBorn uj.gDied)).set ((u0).toNat) (GKept.mk un.gClause (GCode.mk un.gCode.gHead v0.1 un.gCode.gVars) un.gBorn un.gDied)).set ((u0).toNat) (GKept.mk ur.gClause (GCode.mk ur.gCode.gHead ur.gCode.gBody v0.2) ur.gBorn ur.gDied)).set ((u0).toNat) (GKept.mk z2.gClause z2.gCode (wr.i64 (v0.2 + 1)) z2.gDied))))])]⟩ _ (by kernel_rfl) (.cons (ix_obl (c := GKept.c) GKept.c_len h185) (.cons (mod_obl (off := 12) (new := [.int .i64 (wr.i64 (v0.2 + 1))]) (c := GKept.c) (GKept.c_eq z2) (GKept.c_eq (GKept.mk z2.gClause z2.gCode (wr.i64 (v0.2 + 1)) z2.gDied)) (at'_spec h185).2 rfl) (.cons (st_obl (sz := 14) (off := 12) (s := 1) (c := GKept.c) (GKept.c_eq z2) (at'_spec h185).2 rfl (Nat.le_of_ble_eq_true rfl)) .nil))) ?_
        apply Wc.seq
        refine Wc.region [] [] [0, 1, 5] [] [0] ⟨[(0, (.v (.slx), [(0, .al (.a 0 0) [])])), (1, (.v (.int .i64 (wr.i64 ((wr.i64 (v0.2 + 1)) + 1))), [])), (5, (.v (.int .i64 u0), []))], [], [(0, [(0, .ex 1000000007 true (List.map GKept.c (((((((((((((ux.set ((u0).toNat) (GKept.mk (GClause.mk (GTerm.mk ug u1.gClause.gHead.gName u1.gClause.gHead.gNum u1.gClause.gHead.gKids) u1.gClause.gBody u1.gClause.gFile) u1.gCode u1.gBorn u1.gDied)).set ((u0).toNat) (GKept.mk (GClause.mk (GTerm.mk u2.gClause.gHead.gKind v7 u2.gClause.gHead.gNum u2.gClause.gHead.gKids) u2.gClause.gBody u2.gClause.gFile) u2.gCode u2.gBorn u2.gDied)).set ((u0).toNat) (GKept.mk (GClause.mk (GTerm.mk u3.gClause.gHead.gKind u3.gClause.gHead.gName (wr.i64 ((wr.i64 (ug + 1)) + 1)) u3.gClause.gHead.gKids) u3.gClause.gBody u3.gClause.gFile) u3.gCode u3.gBorn u3.gDied)).set ((u0).toNat) (GKept.mk (GClause.mk (GTerm.mk u4.gClause.gHead.gKind u4.gClause.gHead.gName u4.gClause.gHead.gNum ue.1) u4.gClause.gBody u4.gClause.gFile) u4.gCode u4.gBorn u4.gDied)).set ((u0).toNat) (GKept.mk (GClause.mk u5.gClause.gHead (GTerm.mk ue.2 u5.gClause.gBody.gName u5.gClause.gBody.gNum u5.gClause.gBody.gKids) u5.gClause.gFile) u5.gCode u5.gBorn u5.gDied)).set ((u0).toNat) (GKept.mk (GClause.mk u6.gClause.gHead (GTerm.mk u6.gClause.gBody.gKind vl u6.gClause.gBody.gNum u6.gClause.gBody.gKids) u6.gClause.gFile) u6.gCode u6.gBorn u6.gDied)).set ((u0).toNat) (GKept.mk (GClause.mk u7.gClause.gHead (GTerm.mk u7.gClause.gBody.gKind u7.gClause.gBody.gName (wr.i64 ((wr.i64 (ue.2 + 1)) + 1)) u7.gClause.gBody.gKids) u7.gClause.gFile) u7.gCode u7.gBorn u7.gDied)).set ((u0).toNat) (GKept.mk (GClause.mk u8.gClause.gHead (GTerm.mk u8.gClause.gBody.gKind u8.gClause.gBody.gName u8.gClause.gBody.gNum vq.1) u8.gClause.gFile) u8.gCode u8.gBorn u8.gDied)).set ((u0).toNat) (GKept.mk (GClause.mk uf.gClause.gHead uf.gClause.gBody zq) uf.gCode uf.gBorn uf.gDied)).set ((u0).toNat) (GKept.mk uj.gClause (GCode.mk zr.1 uj.gCode.gBody uj.gCode.gVars) uj.gBorn uj.gDied)).set ((u0).toNat) (GKept.mk un.gClause (GCode.mk un.gCode.gHead v0.1 un.gCode.gVars) un.gBorn un.gDied)).set ((u0).toNat) (GKept.mk ur.gClause (GCode.mk ur.gCode.gHead ur.gCode.gBody v0.2) ur.gBorn ur.gDied)).set ((u0).toNat) (GKept.mk z2.gClause z2.gCode (wr.i64 (v0.2 + 1)) z2.gDied))))])]⟩ _ (by kernel_rfl) .nil ?_
        apply Wc.seq
        obtain ⟨u0q, h186, h164⟩ := obind h164
        refine Wc.region [{}, {}, {}, {}, {}, { c := some (List.map GKept.c ((((((((((((((ux.set ((u0).toNat) (GKept.mk (GClause.mk (GTerm.mk ug u1.gClause.gHead.gName u1.gClause.gHead.gNum u1.gClause.gHead.gKids) u1.gClause.gBody u1.gClause.gFile) u1.gCode u1.gBorn u1.gDied)).set ((u0).toNat) (GKept.mk (GClause.mk (GTerm.mk u2.gClause.gHead.gKind v7 u2.gClause.gHead.gNum u2.gClause.gHead.gKids) u2.gClause.gBody u2.gClause.gFile) u2.gCode u2.gBorn u2.gDied)).set ((u0).toNat) (GKept.mk (GClause.mk (GTerm.mk u3.gClause.gHead.gKind u3.gClause.gHead.gName (wr.i64 ((wr.i64 (ug + 1)) + 1)) u3.gClause.gHead.gKids) u3.gClause.gBody u3.gClause.gFile) u3.gCode u3.gBorn u3.gDied)).set ((u0).toNat) (GKept.mk (GClause.mk (GTerm.mk u4.gClause.gHead.gKind u4.gClause.gHead.gName u4.gClause.gHead.gNum ue.1) u4.gClause.gBody u4.gClause.gFile) u4.gCode u4.gBorn u4.gDied)).set ((u0).toNat) (GKept.mk (GClause.mk u5.gClause.gHead (GTerm.mk ue.2 u5.gClause.gBody.gName u5.gClause.gBody.gNum u5.gClause.gBody.gKids) u5.gClause.gFile) u5.gCode u5.gBorn u5.gDied)).set ((u0).toNat) (GKept.mk (GClause.mk u6.gClause.gHead (GTerm.mk u6.gClause.gBody.gKind vl u6.gClause.gBody.gNum u6.gClause.gBody.gKids) u6.gClause.gFile) u6.gCode u6.gBorn u6.gDied)).set ((u0).toNat) (GKept.mk (GClause.mk u7.gClause.gHead (GTerm.mk u7.gClause.gBody.gKind u7.gClause.gBody.gName (wr.i64 ((wr.i64 (ue.2 + 1)) + 1)) u7.gClause.gBody.gKids) u7.gClause.gFile) u7.gCode u7.gBorn u7.gDied)).set ((u0).toNat) (GKept.mk (GClause.mk u8.gClause.gHead (GTerm.mk u8.gClause.gBody.gKind u8.gClause.gBody.gName u8.gClause.gBody.gNum vq.1) u8.gClause.gFile) u8.gCode u8.gBorn u8.gDied)).set ((u0).toNat) (GKept.mk (GClause.mk uf.gClause.gHead uf.gClause.gBody zq) uf.gCode uf.gBorn uf.gDied)).set ((u0).toNat) (GKept.mk uj.gClause (GCode.mk zr.1 uj.gCode.gBody uj.gCode.gVars) uj.gBorn uj.gDied)).set ((u0).toNat) (GKept.mk un.gClause (GCode.mk un.gCode.gHead v0.1 un.gCode.gVars) un.gBorn un.gDied)).set ((u0).toNat) (GKept.mk ur.gClause (GCode.mk ur.gCode.gHead ur.gCode.gBody v0.2) ur.gBorn ur.gDied)).set ((u0).toNat) (GKept.mk z2.gClause z2.gCode (wr.i64 (v0.2 + 1)) z2.gDied)).set ((u0).toNat) (GKept.mk u0q.gClause u0q.gCode u0q.gBorn (wr.i64 ((wr.i64 (v0.2 + 1)) + 1))))) }] [] [0, 1, 5] [] [0] ⟨[(0, (.v (.slx), [(0, .al (.a 0 0) [])])), (1, (.v (.int .i64 (wr.i64 ((wr.i64 (v0.2 + 1)) + 1))), [])), (5, (.v (.int .i64 u0), []))], [], [(0, [(0, .ex 1000000007 true (List.map GKept.c ((((((((((((((ux.set ((u0).toNat) (GKept.mk (GClause.mk (GTerm.mk ug u1.gClause.gHead.gName u1.gClause.gHead.gNum u1.gClause.gHead.gKids) u1.gClause.gBody u1.gClause.gFile) u1.gCode u1.gBorn u1.gDied)).set ((u0).toNat) (GKept.mk (GClause.mk (GTerm.mk u2.gClause.gHead.gKind v7 u2.gClause.gHead.gNum u2.gClause.gHead.gKids) u2.gClause.gBody u2.gClause.gFile) u2.gCode u2.gBorn u2.gDied)).set ((u0).toNat) (GKept.mk (GClause.mk (GTerm.mk u3.gClause.gHead.gKind u3.gClause.gHead.gName (wr.i64 ((wr.i64 (ug + 1)) + 1)) u3.gClause.gHead.gKids) u3.gClause.gBody u3.gClause.gFile) u3.gCode u3.gBorn u3.gDied)).set ((u0).toNat) (GKept.mk (GClause.mk (GTerm.mk u4.gClause.gHead.gKind u4.gClause.gHead.gName u4.gClause.gHead.gNum ue.1) u4.gClause.gBody u4.gClause.gFile) u4.gCode u4.gBorn u4.gDied)).set ((u0).toNat) (GKept.mk (GClause.mk u5.gClause.gHead (GTerm.mk ue.2 u5.gClause.gBody.gName u5.gClause.gBody.gNum u5.gClause.gBody.gKids) u5.gClause.gFile) u5.gCode u5.gBorn u5.gDied)).set ((u0).toNat) (GKept.mk (GClause.mk u6.gClause.gHead (GTerm.mk u6.gClause.gBody.gKind vl u6.gClause.gBody.gNum u6.gClause.gBody.gKids) u6.gClause.gFile) u6.gCode u6.gBorn u6.gDied)).set ((u0).toNat) (GKept.mk (GClause.mk u7.gClause.gHead (GTerm.mk u7.gClause.gBody.gKind u7.gClause.gBody.gName (wr.i64 ((wr.i64 (ue.2 + 1)) + 1)) u7.gClause.gBody.gKids) u7.gClause.gFile) u7.gCode u7.gBorn u7.gDied)).set ((u0).toNat) (GKept.mk (GClause.mk u8.gClause.gHead (GTerm.mk u8.gClause.gBody.gKind u8.gClause.gBody.gName u8.gClause.gBody.gNum vq.1) u8.gClause.gFile) u8.gCode u8.gBorn u8.gDied)).set ((u0).toNat) (GKept.mk (GClause.mk uf.gClause.gHead uf.gClause.gBody zq) uf.gCode uf.gBorn uf.gDied)).set ((u0).toNat) (GKept.mk uj.gClause (GCode.mk zr.1 uj.gCode.gBody uj.gCode.gVars) uj.gBorn uj.gDied)).set ((u0).toNat) (GKept.mk un.gClause (GCode.mk un.gCode.gHead v0.1 un.gCode.gVars) un.gBorn un.gDied)).set ((u0).toNat) (GKept.mk ur.gClause (GCode.mk ur.gCode.gHead ur.gCode.gBody v0.2) ur.gBorn ur.gDied)).set ((u0).toNat) (GKept.mk z2.gClause z2.gCode (wr.i64 (v0.2 + 1)) z2.gDied)).set ((u0).toNat) (GKept.mk u0q.gClause u0q.gCode u0q.gBorn (wr.i64 ((wr.i64 (v0.2 + 1)) + 1))))))])]⟩ _ (by kernel_rfl) (.cons (ix_obl (c := GKept.c) GKept.c_len h186) (.cons (mod_obl (off := 13) (new := [.int .i64 (wr.i64 ((wr.i64 (v0.2 + 1)) + 1))]) (c := GKept.c) (GKept.c_eq u0q) (GKept.c_eq (GKept.mk u0q.gClause u0q.gCode u0q.gBorn (wr.i64 ((wr.i64 (v0.2 + 1)) + 1)))) (at'_spec h186).2 rfl) (.cons (st_obl (sz := 14) (off := 13) (s := 1) (c := GKept.c) (GKept.c_eq u0q) (at'_spec h186).2 rfl (Nat.le_of_ble_eq_true rfl)) .nil))) ?_
        refine Wc.region [] [] [0, 1, 5] [] [0] ⟨[(0, (.v (.slx), [(0, .al (.a 0 0) [])])), (1, (.v (.int .i64 (wr.i64 ((wr.i64 ((wr.i64 (v0.2 + 1)) + 1)) + 1))), [])), (5, (.v (.int .i64 u0), []))], [], [(0, [(0, .ex 1000000007 true (List.map GKept.c ((((((((((((((ux.set ((u0).toNat) (GKept.mk (GClause.mk (GTerm.mk ug u1.gClause.gHead.gName u1.gClause.gHead.gNum u1.gClause.gHead.gKids) u1.gClause.gBody u1.gClause.gFile) u1.gCode u1.gBorn u1.gDied)).set ((u0).toNat) (GKept.mk (GClause.mk (GTerm.mk u2.gClause.gHead.gKind v7 u2.gClause.gHead.gNum u2.gClause.gHead.gKids) u2.gClause.gBody u2.gClause.gFile) u2.gCode u2.gBorn u2.gDied)).set ((u0).toNat) (GKept.mk (GClause.mk (GTerm.mk u3.gClause.gHead.gKind u3.gClause.gHead.gName (wr.i64 ((wr.i64 (ug + 1)) + 1)) u3.gClause.gHead.gKids) u3.gClause.gBody u3.gClause.gFile) u3.gCode u3.gBorn u3.gDied)).set ((u0).toNat) (GKept.mk (GClause.mk (GTerm.mk u4.gClause.gHead.gKind u4.gClause.gHead.gName u4.gClause.gHead.gNum ue.1) u4.gClause.gBody u4.gClause.gFile) u4.gCode u4.gBorn u4.gDied)).set ((u0).toNat) (GKept.mk (GClause.mk u5.gClause.gHead (GTerm.mk ue.2 u5.gClause.gBody.gName u5.gClause.gBody.gNum u5.gClause.gBody.gKids) u5.gClause.gFile) u5.gCode u5.gBorn u5.gDied)).set ((u0).toNat) (GKept.mk (GClause.mk u6.gClause.gHead (GTerm.mk u6.gClause.gBody.gKind vl u6.gClause.gBody.gNum u6.gClause.gBody.gKids) u6.gClause.gFile) u6.gCode u6.gBorn u6.gDied)).set ((u0).toNat) (GKept.mk (GClause.mk u7.gClause.gHead (GTerm.mk u7.gClause.gBody.gKind u7.gClause.gBody.gName (wr.i64 ((wr.i64 (ue.2 + 1)) + 1)) u7.gClause.gBody.gKids) u7.gClause.gFile) u7.gCode u7.gBorn u7.gDied)).set ((u0).toNat) (GKept.mk (GClause.mk u8.gClause.gHead (GTerm.mk u8.gClause.gBody.gKind u8.gClause.gBody.gName u8.gClause.gBody.gNum vq.1) u8.gClause.gFile) u8.gCode u8.gBorn u8.gDied)).set ((u0).toNat) (GKept.mk (GClause.mk uf.gClause.gHead uf.gClause.gBody zq) uf.gCode uf.gBorn uf.gDied)).set ((u0).toNat) (GKept.mk uj.gClause (GCode.mk zr.1 uj.gCode.gBody uj.gCode.gVars) uj.gBorn uj.gDied)).set ((u0).toNat) (GKept.mk un.gClause (GCode.mk un.gCode.gHead v0.1 un.gCode.gVars) un.gBorn un.gDied)).set ((u0).toNat) (GKept.mk ur.gClause (GCode.mk ur.gCode.gHead ur.gCode.gBody v0.2) ur.gBorn ur.gDied)).set ((u0).toNat) (GKept.mk z2.gClause z2.gCode (wr.i64 (v0.2 + 1)) z2.gDied)).set ((u0).toNat) (GKept.mk u0q.gClause u0q.gCode u0q.gBorn (wr.i64 ((wr.i64 (v0.2 + 1)) + 1))))))])]⟩ _ (by kernel_rfl) .nil ?_
        refine Wc.region [] [] [0, 1, 5] [] [0] ⟨[(0, (.v (.slx), [(0, .al (.a 0 0) [])])), (1, (.v (.int .i64 (wr.i64 ((wr.i64 ((wr.i64 (v0.2 + 1)) + 1)) + 1))), [])), (5, (.v (.int .i64 (wr.i64 (u0 + 1))), []))], [], [(0, [(0, .ex 1000000007 true (List.map GKept.c ((((((((((((((ux.set ((u0).toNat) (GKept.mk (GClause.mk (GTerm.mk ug u1.gClause.gHead.gName u1.gClause.gHead.gNum u1.gClause.gHead.gKids) u1.gClause.gBody u1.gClause.gFile) u1.gCode u1.gBorn u1.gDied)).set ((u0).toNat) (GKept.mk (GClause.mk (GTerm.mk u2.gClause.gHead.gKind v7 u2.gClause.gHead.gNum u2.gClause.gHead.gKids) u2.gClause.gBody u2.gClause.gFile) u2.gCode u2.gBorn u2.gDied)).set ((u0).toNat) (GKept.mk (GClause.mk (GTerm.mk u3.gClause.gHead.gKind u3.gClause.gHead.gName (wr.i64 ((wr.i64 (ug + 1)) + 1)) u3.gClause.gHead.gKids) u3.gClause.gBody u3.gClause.gFile) u3.gCode u3.gBorn u3.gDied)).set ((u0).toNat) (GKept.mk (GClause.mk (GTerm.mk u4.gClause.gHead.gKind u4.gClause.gHead.gName u4.gClause.gHead.gNum ue.1) u4.gClause.gBody u4.gClause.gFile) u4.gCode u4.gBorn u4.gDied)).set ((u0).toNat) (GKept.mk (GClause.mk u5.gClause.gHead (GTerm.mk ue.2 u5.gClause.gBody.gName u5.gClause.gBody.gNum u5.gClause.gBody.gKids) u5.gClause.gFile) u5.gCode u5.gBorn u5.gDied)).set ((u0).toNat) (GKept.mk (GClause.mk u6.gClause.gHead (GTerm.mk u6.gClause.gBody.gKind vl u6.gClause.gBody.gNum u6.gClause.gBody.gKids) u6.gClause.gFile) u6.gCode u6.gBorn u6.gDied)).set ((u0).toNat) (GKept.mk (GClause.mk u7.gClause.gHead (GTerm.mk u7.gClause.gBody.gKind u7.gClause.gBody.gName (wr.i64 ((wr.i64 (ue.2 + 1)) + 1)) u7.gClause.gBody.gKids) u7.gClause.gFile) u7.gCode u7.gBorn u7.gDied)).set ((u0).toNat) (GKept.mk (GClause.mk u8.gClause.gHead (GTerm.mk u8.gClause.gBody.gKind u8.gClause.gBody.gName u8.gClause.gBody.gNum vq.1) u8.gClause.gFile) u8.gCode u8.gBorn u8.gDied)).set ((u0).toNat) (GKept.mk (GClause.mk uf.gClause.gHead uf.gClause.gBody zq) uf.gCode uf.gBorn uf.gDied)).set ((u0).toNat) (GKept.mk uj.gClause (GCode.mk zr.1 uj.gCode.gBody uj.gCode.gVars) uj.gBorn uj.gDied)).set ((u0).toNat) (GKept.mk un.gClause (GCode.mk un.gCode.gHead v0.1 un.gCode.gVars) un.gBorn un.gDied)).set ((u0).toNat) (GKept.mk ur.gClause (GCode.mk ur.gCode.gHead ur.gCode.gBody v0.2) ur.gBorn ur.gDied)).set ((u0).toNat) (GKept.mk z2.gClause z2.gCode (wr.i64 (v0.2 + 1)) z2.gDied)).set ((u0).toNat) (GKept.mk u0q.gClause u0q.gCode u0q.gBorn (wr.i64 ((wr.i64 (v0.2 + 1)) + 1))))))])]⟩ _ (by kernel_rfl) .nil ?_
        exact ⟨_, Nat.lt_succ_self _, _, _, _, rfl, h164⟩
      · refine Wc.condF h165 (by kernel_rfl) ?_
        refine Wc.fix (st' := ⟨[(1, (.v (.int .i64 ug), []))], [], [(0, [(0, .ex 1000000007 true (List.map GKept.c ux))])]⟩) [] [1] [] [0] (by kernel_rfl) ?_
        refine Wc.exit ?_
        obtain rfl := Option.some.inj h164
        exact ⟨_, _, rfl, rfl⟩
  · rintro st ⟨u76, u77, rfl, rfl⟩
    apply Wc.seq
    refine Wc.region [] [] [4] [] [0] ⟨[(4, (.v (.int .i64 u76), []))], [], [(0, [(0, .ex 1000000007 true (List.map GKept.c u77))])]⟩ _ (by kernel_rfl) .nil ?_
    refine Wc.ret ?_
    obtain rfl := Option.some.inj h
    exact ⟨.inl rfl, by kernel_rfl, by kernel_rfl⟩

def plaws_markStore (k : Nat) (u27 : GStore) (u78 : Int) : Option (GStore × Int) :=
  (plaws_markKeptS k u27.gList u78).bind fun u4l =>
  (plaws_markStringS k u27.gOpen u4l.2).bind fun u50 =>
  some (GStore.mk u4l.1 u50.1 u27.gNow, u50.2)
theorem claws_markStore {k : Nat} {u27 : GStore} {u78 : Int} {r : GStore × Int} (h : plaws_markStore k u27 u78 = some r) : FnO Try.prog 44 [.io (.agg [.slx, .slx, .int .i64 u27.gNow]) [(0, .ex 1000000007 true (List.map GKept.c u27.gList)), (1, .ex 1000000007 true (List.map cS u27.gOpen))], .v (.int .i64 u78) []] (.v (.int .i64 r.2) []) [(0, .v .undef [(0, .ex 1000000007 true (List.map GKept.c r.1.gList)), (1, .ex 1000000007 true (List.map cS r.1.gOpen))])] := by
  refine FnO.of Try.func44 (rfl : Try.f44.body = some _) (Nat.le_of_ble_eq_true (by kernel_rfl)) (Nat.le_of_ble_eq_true (by kernel_rfl)) ?_
  intro w0 X0 Fin pv0 pb
  unfold plaws_markStore at h
  apply Wc.seq
  refine Wc.region [] [] [1, 2] [2] [0] ⟨[(1, (.v (.int .i64 u78), [])), (2, (.ptr 2 0, []))], [(2, .cells [.slx, .slx, .int .i64 u27.gNow] [(0, .al (.a 0 0) []), (1, .al (.a 0 1) [])])], [(0, [(0, .ex 1000000007 true (List.map GKept.c u27.gList)), (1, .ex 1000000007 true (List.map cS u27.gOpen))])]⟩ _ (by kernel_rfl) .nil ?_
  apply Wc.seq
  obtain ⟨u4l, h187, h⟩ := obind h
  refine Wc.region [{}, {}, {}, { io := [0], r := some (.v (.int .i64 u4l.2) []), outs := [(0, .v .undef [(0, .ex 1000000007 true (List.map GKept.c u4l.1))])] }] [] [1, 2] [2] [0] ⟨[(1, (.v (.int .i64 u4l.2), [])), (2, (.ptr 2 0, []))], [(2, .cells [.slx, .slx, .int .i64 u27.gNow] [(0, .al (.a 0 0) []), (1, .al (.a 0 1) [])])], [(0, [(0, .ex 1000000007 true (List.map GKept.c u4l.1)), (1, .ex 1000000007 true (List.map cS u27.gOpen))])]⟩ _ (by kernel_rfl) (.cons (FnO.any (args := [.io (.slx) [(0, .ex 1000000007 true (List.map GKept.c u27.gList))], .v (.int .i64 u78) []]) (claws_markKeptS h187)) .nil) ?_
  apply Wc.seq
  obtain ⟨u50, h188, h⟩ := obind h
  refine Wc.region [{}, {}, {}, { io := [0], r := some (.v (.int .i64 u50.2) []), outs := [(0, .v .undef [(0, .ex 1000000007 true (List.map cS u50.1))])] }] [] [1] [] [0] ⟨[(1, (.v (.int .i64 u50.2), []))], [], [(0, [(0, .ex 1000000007 true (List.map GKept.c u4l.1)), (1, .ex 1000000007 true (List.map cS u50.1))])]⟩ _ (by kernel_rfl) (.cons (FnO.any (args := [.io (.slx) [(0, .ex 1000000007 true (List.map cS u27.gOpen))], .v (.int .i64 u4l.2) []]) (claws_markStringS h188)) .nil) ?_
  apply Wc.seq
  refine Wc.region [] [] [4] [] [0] ⟨[(4, (.v (.int .i64 u50.2), []))], [], [(0, [(0, .ex 1000000007 true (List.map GKept.c u4l.1)), (1, .ex 1000000007 true (List.map cS u50.1))])]⟩ _ (by kernel_rfl) .nil ?_
  refine Wc.ret ?_
  obtain rfl := Option.some.inj h
  exact ⟨.inl rfl, by kernel_rfl, by kernel_rfl⟩

def pspec_l03Count_L1 (k : Nat) (rspec_l03Count : GTerm → Int → Option Int) (zs : GTerm) : Nat → Int → Int → Option (Out Int Int)
  | 0, _, _ => none
  | m + 1, u2r, u3u =>
    if (decide (u3u < (zs.gKids.length : Int))) = true then
      if (decide (u2r ≥ 0)) = true then
        (at' zs.gKids u3u).bind fun u97 =>
        (rspec_l03Count u97 u2r).bind fun u98 =>
        pspec_l03Count_L1 k rspec_l03Count zs m u98 (wr.i64 (u3u + 1))
      else
        some (.done u2r)
    else
      some (.done u2r)
mutual
def pspec_l03Count : Nat → GTerm → Int → Option Int
  | 0, _, _ => none
  | k + 1, zs, u3v =>
    (pspec_l03Count_L1 k (pspec_l03Count k) zs k (wr.i64 (u3v - 1)) 0).bind fun out1 => match out1 with
    | .ret r => some r
    | .done u79 =>
      some u79
end
theorem all_pspec_l03Count : ∀ k : Nat, (∀ {zs : GTerm} {u3v : Int} {r : Int}, pspec_l03Count k zs u3v = some r → FnO Try.prog 119 [.v (.agg (GTerm.q zs)) [], .v (.int .i64 u3v) []] (.v (.int .i64 r) []) []) := by
  intro k
  induction k with
  | zero =>
    · intro zs u3v r h
      exact (onone (by rw [pspec_l03Count] at h; exact h)).elim
  | succ k ih =>
    have ih_pspec_l03Count := @ih
    · intro zs u3v r h
      rw [pspec_l03Count] at h
      refine FnO.of Try.func119 (rfl : Try.f119.body = some _) (Nat.le_of_ble_eq_true (by kernel_rfl)) (Nat.le_of_ble_eq_true (by kernel_rfl)) ?_
      intro w0 X0 Fin pv0 pb
      apply Wc.seq
      refine Wc.region [] [] [1, 2] [2] [] ⟨[(1, (.v (.int .i64 u3v), [])), (2, (.ptr 2 0, []))], [(2, .cells (GTerm.q zs) [])], []⟩ _ (by kernel_rfl) .nil ?_
      apply Wc.seq
      refine Wc.region [] [] [1, 2] [2] [] ⟨[(1, (.v (.int .i64 (wr.i64 (u3v - 1))), [])), (2, (.ptr 2 0, []))], [(2, .cells (GTerm.q zs) [])], []⟩ _ (by kernel_rfl) .nil ?_
      apply Wc.seq
      apply Wc.seq
      refine Wc.region [] [] [1, 2, 5] [2] [] ⟨[(1, (.v (.int .i64 (wr.i64 (u3v - 1))), [])), (2, (.ptr 2 0, [])), (5, (.v (.int .i64 0), []))], [(2, .cells (GTerm.q zs) [])], []⟩ _ (by kernel_rfl) .nil ?_
      obtain ⟨out1, h189, h⟩ := obind h
      refine Wc.lastJ (fun st => ∃ (u79 : Int), out1 = .done u79 ∧ st = ⟨[(1, (.v (.int .i64 u79), []))], [], []⟩) ?_ ?_
      · refine Wc.block ?_
        refine Wc.loop (fun m st => ∃ (u2r : Int) (u3u : Int), st = ⟨[(1, (.v (.int .i64 u2r), [])), (2, (.ptr 2 0, [])), (5, (.v (.int .i64 u3u), []))], [(2, .cells (GTerm.q zs) [])], []⟩ ∧ pspec_l03Count_L1 k (pspec_l03Count k) zs m u2r u3u = some out1) ?_ k ⟨_, _, rfl, h189⟩
        rintro m st ⟨u2r, u3u, rfl, h189⟩
        cases m with
        | zero => exact (onone h189).elim
        | succ m =>
          apply Wc.seq
          apply Wc.seq
          rcases oif h189 with ⟨h190, h189⟩ | ⟨h190, h189⟩
          · refine Wc.region [{}, {}, {}, { v := some (.int .i64 (zs.gKids.length : Int)) }, {}, { re := some (.bool true) }] [] [1, 2, 5, 16] [2] [] ⟨[(1, (.v (.int .i64 u2r), [])), (2, (.ptr 2 0, [])), (5, (.v (.int .i64 u3u), [])), (16, (.v (.bool (decide (u2r ≥ 0))), []))], [(2, .cells (GTerm.q zs) [])], []⟩ _ (by kernel_rfl) (.cons (len_obl GTerm.c zs.gKids) (.cons (congrArg AV.bool h190) .nil)) ?_
            rcases oif h189 with ⟨h191, h189⟩ | ⟨h191, h189⟩
            · refine Wc.condT h191 (by kernel_rfl) ?_
              refine Wc.fix (st' := ⟨[(1, (.v (.int .i64 u2r), [])), (2, (.ptr 2 0, [])), (5, (.v (.int .i64 u3u), []))], [(2, .cells (GTerm.q zs) [])], []⟩) [] [1, 2, 5] [2] [] (by kernel_rfl) ?_
              refine Wc.skip ?_
              apply Wc.seq
              refine Wc.block ?_
              obtain ⟨u97, h192, h189⟩ := obind h189
              obtain ⟨u98, h193, h189⟩ := obind h189
              refine Wc.region [{}, {}, {}, { v := some (.vptr (GTerm.q u97)) }, {}, {}, { r := some (.v (.int .i64 u98) []) }] [] [1, 2, 5] [2] [] ⟨[(1, (.v (.int .i64 u98), [])), (2, (.ptr 2 0, [])), (5, (.v (.int .i64 u3u), []))], [(2, .cells (GTerm.q zs) [])], []⟩ _ (by kernel_rfl) (.cons (at_obl (c := GTerm.c) (GTerm.c_eq u97) GTerm.c_len h192) (.cons (len_ok 4 (GTerm.q u97)) (.cons (ih_pspec_l03Count h193) .nil))) ?_
              refine Wc.region [] [] [1, 2, 5] [2] [] ⟨[(1, (.v (.int .i64 u98), [])), (2, (.ptr 2 0, [])), (5, (.v (.int .i64 (wr.i64 (u3u + 1))), []))], [(2, .cells (GTerm.q zs) [])], []⟩ _ (by kernel_rfl) .nil ?_
              exact ⟨_, Nat.lt_succ_self _, _, _, rfl, h189⟩
            · refine Wc.condF h191 (by kernel_rfl) ?_
              refine Wc.fix (st' := ⟨[(1, (.v (.int .i64 u2r), []))], [], []⟩) [] [1] [] [] (by kernel_rfl) ?_
              refine Wc.exit ?_
              obtain rfl := Option.some.inj h189
              exact ⟨_, rfl, rfl⟩
          · refine Wc.region [{}, {}, {}, { v := some (.int .i64 (zs.gKids.length : Int)) }, {}, { re := some (.bool false) }] [] [1, 2, 5, 16] [2] [] ⟨[(1, (.v (.int .i64 u2r), [])), (2, (.ptr 2 0, [])), (5, (.v (.int .i64 u3u), [])), (16, (.v (.bool false), []))], [(2, .cells (GTerm.q zs) [])], []⟩ _ (by kernel_rfl) (.cons (len_obl GTerm.c zs.gKids) (.cons (congrArg AV.bool h190) .nil)) ?_
            refine Wc.condF rfl (by kernel_rfl) ?_
            refine Wc.fix (st' := ⟨[(1, (.v (.int .i64 u2r), []))], [], []⟩) [] [1] [] [] (by kernel_rfl) ?_
            refine Wc.exit ?_
            obtain rfl := Option.some.inj h189
            exact ⟨_, rfl, rfl⟩
      · rintro st ⟨u79, rfl, rfl⟩
        apply Wc.seq
        refine Wc.region [] [] [4] [] [] ⟨[(4, (.v (.int .i64 u79), []))], [], []⟩ _ (by kernel_rfl) .nil ?_
        refine Wc.ret ?_
        obtain rfl := Option.some.inj h
        exact ⟨.inl rfl, by kernel_rfl, by kernel_rfl⟩
theorem cspec_l03Count {k : Nat} {zs : GTerm} {u3v : Int} {r : Int} (h : pspec_l03Count k zs u3v = some r) : FnO Try.prog 119 [.v (.agg (GTerm.q zs)) [], .v (.int .i64 u3v) []] (.v (.int .i64 r) []) [] := (all_pspec_l03Count k) h

def pspec_l01In (k : Nat) (u6c : Int) (u99 : Int) (u7a : Int) : Option Bool :=
  if (decide (u6c ≥ u99)) = true then
    some (decide (u6c ≤ u7a))
  else
    some false
theorem cspec_l01In {k : Nat} {u6c : Int} {u99 : Int} {u7a : Int} {r : Bool} (h : pspec_l01In k u6c u99 u7a = some r) : FnO Try.prog 110 [.v (.int .i64 u6c) [], .v (.int .i64 u99) [], .v (.int .i64 u7a) []] (.v (.bool r) []) [] := by
  refine FnO.of Try.func110 (rfl : Try.f110.body = some _) (Nat.le_of_ble_eq_true (by kernel_rfl)) (Nat.le_of_ble_eq_true (by kernel_rfl)) ?_
  intro w0 X0 Fin pv0 pb
  unfold pspec_l01In at h
  apply Wc.seq
  refine Wc.region [] [] [0, 1, 2] [] [] ⟨[(0, (.v (.int .i64 u6c), [])), (1, (.v (.int .i64 u99), [])), (2, (.v (.int .i64 u7a), []))], [], []⟩ _ (by kernel_rfl) .nil ?_
  apply Wc.seq
  rcases oif h with ⟨h194, h⟩ | ⟨h194, h⟩
  · refine Wc.region [{}, {}, {}, { re := some (.bool true) }] [] [6] [] [] ⟨[(6, (.v (.bool (decide (u6c ≤ u7a))), []))], [], []⟩ _ (by kernel_rfl) (.cons (congrArg AV.bool h194) .nil) ?_
    refine Wc.ret ?_
    obtain rfl := Option.some.inj h
    exact ⟨.inl rfl, by kernel_rfl, by kernel_rfl⟩
  · refine Wc.region [{}, {}, {}, { re := some (.bool false) }] [] [6] [] [] ⟨[(6, (.v (.bool false), []))], [], []⟩ _ (by kernel_rfl) (.cons (congrArg AV.bool h194) .nil) ?_
    refine Wc.ret ?_
    obtain rfl := Option.some.inj h
    exact ⟨.inl rfl, by kernel_rfl, by kernel_rfl⟩

def pspec_l03Name_L1 (k : Nat) (z5 : ByteArray) : Nat → Int → Option (Out Bool Unit)
  | 0, _ => none
  | m + 1, zo =>
    if (decide (zo < (z5.size : Int))) = true then
      if 0 ≤ zo ∧ (zo).toNat < z5.size then
        if (decide ((bt z5 zo) < 33)) = true then
          some (.ret false)
        else
          if 0 ≤ zo ∧ (zo).toNat < z5.size then
            if (decide ((bt z5 zo) > 126)) = true then
              some (.ret false)
            else
              if 0 ≤ zo ∧ (zo).toNat < z5.size then
                if ((bt z5 zo) == 39) = true then
                  some (.ret false)
                else
                  if 0 ≤ zo ∧ (zo).toNat < z5.size then
                    if ((bt z5 zo) == 34) = true then
                      some (.ret false)
                    else
                      pspec_l03Name_L1 k z5 m (wr.i64 (zo + 1))
                  else none
              else none
          else none
      else none
    else
      some (.done ())
def pspec_l03Name (k : Nat) (z5 : ByteArray) : Option Bool :=
  (pspec_l03Name_L1 k z5 k 0).bind fun out1 => match out1 with
  | .ret r => some r
  | .done () =>
    (pspec_l01In k (z5.size : Int) 1 20).bind fun uas =>
    some uas
theorem cspec_l03Name {k : Nat} {z5 : ByteArray} {r : Bool} (h : pspec_l03Name k z5 = some r) : FnO Try.prog 156 [.v (.str z5) []] (.v (.bool r) []) [] := by
  refine FnO.of Try.func156 (rfl : Try.f156.body = some _) (Nat.le_of_ble_eq_true (by kernel_rfl)) (Nat.le_of_ble_eq_true (by kernel_rfl)) ?_
  intro w0 X0 Fin pv0 pb
  unfold pspec_l03Name at h
  apply Wc.seq
  refine Wc.region [] [] [0] [] [] ⟨[(0, (.v (.str z5), []))], [], []⟩ _ (by kernel_rfl) .nil ?_
  apply Wc.seq
  apply Wc.seq
  refine Wc.region [] [] [0, 3] [] [] ⟨[(0, (.v (.str z5), [])), (3, (.v (.int .i64 0), []))], [], []⟩ _ (by kernel_rfl) .nil ?_
  obtain ⟨out1, h195, h⟩ := obind h
  refine Wc.lastJ (fun st => out1 = .done () ∧ st = ⟨[(0, (.v (.str z5), []))], [], []⟩) ?_ ?_
  · refine Wc.block ?_
    refine Wc.loop (fun m st => ∃ (zo : Int), st = ⟨[(0, (.v (.str z5), [])), (3, (.v (.int .i64 zo), []))], [], []⟩ ∧ pspec_l03Name_L1 k z5 m zo = some out1) ?_ k ⟨_, rfl, h195⟩
    rintro m st ⟨zo, rfl, h195⟩
    cases m with
    | zero => exact (onone h195).elim
    | succ m =>
      apply Wc.seq
      apply Wc.seq
      refine Wc.region [] [] [0, 3, 7] [] [] ⟨[(0, (.v (.str z5), [])), (3, (.v (.int .i64 zo), [])), (7, (.v (.bool (decide (zo < (z5.size : Int)))), []))], [], []⟩ _ (by kernel_rfl) .nil ?_
      rcases oif h195 with ⟨h196, h195⟩ | ⟨h196, h195⟩
      · refine Wc.condT h196 (by kernel_rfl) ?_
        refine Wc.fix (st' := ⟨[(0, (.v (.str z5), [])), (3, (.v (.int .i64 zo), []))], [], []⟩) [] [0, 3] [] [] (by kernel_rfl) ?_
        refine Wc.skip ?_
        apply Wc.seq
        refine Wc.block ?_
        apply Wc.seq
        obtain ⟨h197, h195⟩ := oguard h195
        rcases oif h195 with ⟨h198, h195⟩ | ⟨h198, h195⟩
        · refine Wc.region [{}, {}, {}, {}, { re := some (.bool true) }] [] [0, 3, 31] [] [] ⟨[(0, (.v (.str z5), [])), (3, (.v (.int .i64 zo), [])), (31, (.v (.bool true), []))], [], []⟩ _ (by kernel_rfl) (.cons h197 (.cons (congrArg AV.bool h198) .nil)) ?_
          refine Wc.condT rfl (by kernel_rfl) ?_
          apply Wc.seq
          refine Wc.region [] [] [2] [] [] ⟨[(2, (.v (.bool false), []))], [], []⟩ _ (by kernel_rfl) .nil ?_
          refine Wc.ret ?_
          obtain rfl := Option.some.inj h195
          obtain rfl := Option.some.inj h
          exact ⟨.inl rfl, by kernel_rfl, by kernel_rfl⟩
        · obtain ⟨h199, h195⟩ := oguard h195
          rcases oif h195 with ⟨h200, h195⟩ | ⟨h200, h195⟩
          · refine Wc.region [{}, {}, {}, {}, { re := some (.bool false) }, {}, {}, {}, {}, {}, { re := some (.bool true) }] [] [0, 3, 31] [] [] ⟨[(0, (.v (.str z5), [])), (3, (.v (.int .i64 zo), [])), (31, (.v (.bool true), []))], [], []⟩ _ (by kernel_rfl) (.cons h197 (.cons (congrArg AV.bool h198) (.cons h199 (.cons (congrArg AV.bool h200) .nil)))) ?_
            refine Wc.condT rfl (by kernel_rfl) ?_
            apply Wc.seq
            refine Wc.region [] [] [2] [] [] ⟨[(2, (.v (.bool false), []))], [], []⟩ _ (by kernel_rfl) .nil ?_
            refine Wc.ret ?_
            obtain rfl := Option.some.inj h195
            obtain rfl := Option.some.inj h
            exact ⟨.inl rfl, by kernel_rfl, by kernel_rfl⟩
          · obtain ⟨h201, h195⟩ := oguard h195
            rcases oif h195 with ⟨h202, h195⟩ | ⟨h202, h195⟩
            · refine Wc.region [{}, {}, {}, {}, { re := some (.bool false) }, {}, {}, {}, {}, {}, { re := some (.bool false) }, {}, {}, {}, {}, {}, { re := some (.bool true) }] [] [0, 3, 31] [] [] ⟨[(0, (.v (.str z5), [])), (3, (.v (.int .i64 zo), [])), (31, (.v (.bool true), []))], [], []⟩ _ (by kernel_rfl) (.cons h197 (.cons (congrArg AV.bool h198) (.cons h199 (.cons (congrArg AV.bool h200) (.cons h201 (.cons (congrArg AV.bool h202) .nil)))))) ?_
              refine Wc.condT rfl (by kernel_rfl) ?_
              apply Wc.seq
              refine Wc.region [] [] [2] [] [] ⟨[(2, (.v (.bool false), []))], [], []⟩ _ (by kernel_rfl) .nil ?_
              refine Wc.ret ?_
              obtain rfl := Option.some.inj h195
              obtain rfl := Option.some.inj h
              exact ⟨.inl rfl, by kernel_rfl, by kernel_rfl⟩
            · obtain ⟨h203, h195⟩ := oguard h195
              refine Wc.region [{}, {}, {}, {}, { re := some (.bool false) }, {}, {}, {}, {}, {}, { re := some (.bool false) }, {}, {}, {}, {}, {}, { re := some (.bool false) }] [] [0, 3, 31] [] [] ⟨[(0, (.v (.str z5), [])), (3, (.v (.int .i64 zo), [])), (31, (.v (.bool ((bt z5 zo) == 34)), []))], [], []⟩ _ (by kernel_rfl) (.cons h197 (.cons (congrArg AV.bool h198) (.cons h199 (.cons (congrArg AV.bool h200) (.cons h201 (.cons (congrArg AV.bool h202) (.cons h203 .nil))))))) ?_
              rcases oif h195 with ⟨h204, h195⟩ | ⟨h204, h195⟩
              · refine Wc.condT h204 (by kernel_rfl) ?_
                apply Wc.seq
                refine Wc.region [] [] [2] [] [] ⟨[(2, (.v (.bool false), []))], [], []⟩ _ (by kernel_rfl) .nil ?_
                refine Wc.ret ?_
                obtain rfl := Option.some.inj h195
                obtain rfl := Option.some.inj h
                exact ⟨.inl rfl, by kernel_rfl, by kernel_rfl⟩
              · refine Wc.condF h204 (by kernel_rfl) ?_
                refine Wc.fix (st' := ⟨[(0, (.v (.str z5), [])), (3, (.v (.int .i64 zo), []))], [], []⟩) [] [0, 3] [] [] (by kernel_rfl) ?_
                refine Wc.skip ?_
                refine Wc.region [] [] [0, 3] [] [] ⟨[(0, (.v (.str z5), [])), (3, (.v (.int .i64 (wr.i64 (zo + 1))), []))], [], []⟩ _ (by kernel_rfl) .nil ?_
                exact ⟨_, Nat.lt_succ_self _, _, rfl, h195⟩
      · refine Wc.condF h196 (by kernel_rfl) ?_
        refine Wc.fix (st' := ⟨[(0, (.v (.str z5), []))], [], []⟩) [] [0] [] [] (by kernel_rfl) ?_
        refine Wc.exit ?_
        obtain rfl := Option.some.inj h195
        exact ⟨rfl, rfl⟩
  · rintro st ⟨rfl, rfl⟩
    apply Wc.seq
    obtain ⟨uas, h205, h⟩ := obind h
    refine Wc.region [{}, {}, { r := some (.v (.bool uas) []) }] [] [2] [] [] ⟨[(2, (.v (.bool uas), []))], [], []⟩ _ (by kernel_rfl) (.cons (cspec_l01In h205) .nil) ?_
    refine Wc.ret ?_
    obtain rfl := Option.some.inj h
    exact ⟨.inl rfl, by kernel_rfl, by kernel_rfl⟩

def pspec_l03One (k : Nat) (vf : GTerm) : Option Bool :=
  if (vf.gKind == 1) = true then
    (pspec_l01In k vf.gNum 0 99999).bind fun u9a =>
    if u9a = true then
      if (sEq vf.gName (bs [])) = true then
        some ((vf.gKids.length : Int) == 0)
      else
        some false
    else
      some false
  else
    if (vf.gKind == 2) = true then
      (pspec_l03Name k vf.gName).bind fun u9b =>
      if u9b = true then
        if (vf.gNum == 0) = true then
          some ((vf.gKids.length : Int) == 0)
        else
          some false
      else
        some false
    else
      if (vf.gKind == 3) = true then
        (pspec_l01In k vf.gNum (-999999999) 999999999).bind fun u9c =>
        if u9c = true then
          if (sEq vf.gName (bs [])) = true then
            some ((vf.gKids.length : Int) == 0)
          else
            some false
        else
          some false
      else
        if (vf.gKind == 4) = true then
          (pspec_l03Name k vf.gName).bind fun u9d =>
          if u9d = true then
            if (vf.gNum == 0) = true then
              (pspec_l01In k (vf.gKids.length : Int) 1 5).bind fun uat =>
              some uat
            else
              some false
          else
            some false
        else
          some false
theorem cspec_l03One {k : Nat} {vf : GTerm} {r : Bool} (h : pspec_l03One k vf = some r) : FnO Try.prog 141 [.v (.agg (GTerm.q vf)) []] (.v (.bool r) []) [] := by
  refine FnO.of Try.func141 (rfl : Try.f141.body = some _) (Nat.le_of_ble_eq_true (by kernel_rfl)) (Nat.le_of_ble_eq_true (by kernel_rfl)) ?_
  intro w0 X0 Fin pv0 pb
  unfold pspec_l03One at h
  apply Wc.seq
  refine Wc.region [] [] [1] [1] [] ⟨[(1, (.ptr 1 0, []))], [(1, .cells (GTerm.q vf) [])], []⟩ _ (by kernel_rfl) .nil ?_
  apply Wc.seq
  apply Wc.seq
  refine Wc.region [] [] [1, 4] [1] [] ⟨[(1, (.ptr 1 0, [])), (4, (.v (.int .i64 vf.gKind), []))], [(1, .cells (GTerm.q vf) [])], []⟩ _ (by kernel_rfl) .nil ?_
  refine Wc.block ?_
  apply Wc.seq
  refine Wc.region [] [] [1, 4, 5] [1] [] ⟨[(1, (.ptr 1 0, [])), (4, (.v (.int .i64 vf.gKind), [])), (5, (.v (.bool (vf.gKind == 1)), []))], [(1, .cells (GTerm.q vf) [])], []⟩ _ (by kernel_rfl) .nil ?_
  rcases oif h with ⟨h206, h⟩ | ⟨h206, h⟩
  · refine Wc.condT h206 (by kernel_rfl) ?_
    apply Wc.seq
    obtain ⟨u9a, h207, h⟩ := obind h
    rcases oif h with ⟨h208, h⟩ | ⟨h208, h⟩
    · rcases oif h with ⟨h209, h⟩ | ⟨h209, h⟩
      · refine Wc.region [{}, {}, { r := some (.v (.bool u9a) []) }, { re := some (.bool true) }, {}, {}, {}, {}, { re := some (.bool true) }, {}, {}, { v := some (.int .i64 (vf.gKids.length : Int)) }] [] [2] [] [] ⟨[(2, (.v (.bool ((vf.gKids.length : Int) == 0)), []))], [], []⟩ _ (by kernel_rfl) (.cons (cspec_l01In h207) (.cons (congrArg AV.bool h208) (.cons (congrArg AV.bool h209) (.cons (len_obl GTerm.c vf.gKids) .nil)))) ?_
        refine Wc.ret ?_
        obtain rfl := Option.some.inj h
        exact ⟨.inl rfl, by kernel_rfl, by kernel_rfl⟩
      · refine Wc.region [{}, {}, { r := some (.v (.bool u9a) []) }, { re := some (.bool true) }, {}, {}, {}, {}, { re := some (.bool false) }] [] [2] [] [] ⟨[(2, (.v (.bool false), []))], [], []⟩ _ (by kernel_rfl) (.cons (cspec_l01In h207) (.cons (congrArg AV.bool h208) (.cons (congrArg AV.bool h209) .nil))) ?_
        refine Wc.ret ?_
        obtain rfl := Option.some.inj h
        exact ⟨.inl rfl, by kernel_rfl, by kernel_rfl⟩
    · refine Wc.region [{}, {}, { r := some (.v (.bool u9a) []) }, { re := some (.bool false) }] [] [2] [] [] ⟨[(2, (.v (.bool false), []))], [], []⟩ _ (by kernel_rfl) (.cons (cspec_l01In h207) (.cons (congrArg AV.bool h208) .nil)) ?_
      refine Wc.ret ?_
      obtain rfl := Option.some.inj h
      exact ⟨.inl rfl, by kernel_rfl, by kernel_rfl⟩
  · refine Wc.condF h206 (by kernel_rfl) ?_
    apply Wc.seq
    refine Wc.region [] [] [1, 4, 21] [1] [] ⟨[(1, (.ptr 1 0, [])), (4, (.v (.int .i64 vf.gKind), [])), (21, (.v (.bool (vf.gKind == 2)), []))], [(1, .cells (GTerm.q vf) [])], []⟩ _ (by kernel_rfl) .nil ?_
    rcases oif h with ⟨h210, h⟩ | ⟨h210, h⟩
    · refine Wc.condT h210 (by kernel_rfl) ?_
      apply Wc.seq
      obtain ⟨u9b, h211, h⟩ := obind h
      rcases oif h with ⟨h212, h⟩ | ⟨h212, h⟩
      · rcases oif h with ⟨h213, h⟩ | ⟨h213, h⟩
        · refine Wc.region [{}, {}, { r := some (.v (.bool u9b) []) }, { re := some (.bool true) }, {}, {}, {}, {}, { re := some (.bool true) }, {}, {}, { v := some (.int .i64 (vf.gKids.length : Int)) }] [] [2] [] [] ⟨[(2, (.v (.bool ((vf.gKids.length : Int) == 0)), []))], [], []⟩ _ (by kernel_rfl) (.cons (cspec_l03Name h211) (.cons (congrArg AV.bool h212) (.cons (congrArg AV.bool h213) (.cons (len_obl GTerm.c vf.gKids) .nil)))) ?_
          refine Wc.ret ?_
          obtain rfl := Option.some.inj h
          exact ⟨.inl rfl, by kernel_rfl, by kernel_rfl⟩
        · refine Wc.region [{}, {}, { r := some (.v (.bool u9b) []) }, { re := some (.bool true) }, {}, {}, {}, {}, { re := some (.bool false) }] [] [2] [] [] ⟨[(2, (.v (.bool false), []))], [], []⟩ _ (by kernel_rfl) (.cons (cspec_l03Name h211) (.cons (congrArg AV.bool h212) (.cons (congrArg AV.bool h213) .nil))) ?_
          refine Wc.ret ?_
          obtain rfl := Option.some.inj h
          exact ⟨.inl rfl, by kernel_rfl, by kernel_rfl⟩
      · refine Wc.region [{}, {}, { r := some (.v (.bool u9b) []) }, { re := some (.bool false) }] [] [2] [] [] ⟨[(2, (.v (.bool false), []))], [], []⟩ _ (by kernel_rfl) (.cons (cspec_l03Name h211) (.cons (congrArg AV.bool h212) .nil)) ?_
        refine Wc.ret ?_
        obtain rfl := Option.some.inj h
        exact ⟨.inl rfl, by kernel_rfl, by kernel_rfl⟩
    · refine Wc.condF h210 (by kernel_rfl) ?_
      apply Wc.seq
      refine Wc.region [] [] [1, 4, 37] [1] [] ⟨[(1, (.ptr 1 0, [])), (4, (.v (.int .i64 vf.gKind), [])), (37, (.v (.bool (vf.gKind == 3)), []))], [(1, .cells (GTerm.q vf) [])], []⟩ _ (by kernel_rfl) .nil ?_
      rcases oif h with ⟨h214, h⟩ | ⟨h214, h⟩
      · refine Wc.condT h214 (by kernel_rfl) ?_
        apply Wc.seq
        obtain ⟨u9c, h215, h⟩ := obind h
        rcases oif h with ⟨h216, h⟩ | ⟨h216, h⟩
        · rcases oif h with ⟨h217, h⟩ | ⟨h217, h⟩
          · refine Wc.region [{}, {}, { r := some (.v (.bool u9c) []) }, { re := some (.bool true) }, {}, {}, {}, {}, { re := some (.bool true) }, {}, {}, { v := some (.int .i64 (vf.gKids.length : Int)) }] [] [2] [] [] ⟨[(2, (.v (.bool ((vf.gKids.length : Int) == 0)), []))], [], []⟩ _ (by kernel_rfl) (.cons (cspec_l01In h215) (.cons (congrArg AV.bool h216) (.cons (congrArg AV.bool h217) (.cons (len_obl GTerm.c vf.gKids) .nil)))) ?_
            refine Wc.ret ?_
            obtain rfl := Option.some.inj h
            exact ⟨.inl rfl, by kernel_rfl, by kernel_rfl⟩
          · refine Wc.region [{}, {}, { r := some (.v (.bool u9c) []) }, { re := some (.bool true) }, {}, {}, {}, {}, { re := some (.bool false) }] [] [2] [] [] ⟨[(2, (.v (.bool false), []))], [], []⟩ _ (by kernel_rfl) (.cons (cspec_l01In h215) (.cons (congrArg AV.bool h216) (.cons (congrArg AV.bool h217) .nil))) ?_
            refine Wc.ret ?_
            obtain rfl := Option.some.inj h
            exact ⟨.inl rfl, by kernel_rfl, by kernel_rfl⟩
        · refine Wc.region [{}, {}, { r := some (.v (.bool u9c) []) }, { re := some (.bool false) }] [] [2] [] [] ⟨[(2, (.v (.bool false), []))], [], []⟩ _ (by kernel_rfl) (.cons (cspec_l01In h215) (.cons (congrArg AV.bool h216) .nil)) ?_
          refine Wc.ret ?_
          obtain rfl := Option.some.inj h
          exact ⟨.inl rfl, by kernel_rfl, by kernel_rfl⟩
      · refine Wc.condF h214 (by kernel_rfl) ?_
        apply Wc.seq
        refine Wc.region [] [] [1, 53] [1] [] ⟨[(1, (.ptr 1 0, [])), (53, (.v (.bool (vf.gKind == 4)), []))], [(1, .cells (GTerm.q vf) [])], []⟩ _ (by kernel_rfl) .nil ?_
        rcases oif h with ⟨h218, h⟩ | ⟨h218, h⟩
        · refine Wc.condT h218 (by kernel_rfl) ?_
          apply Wc.seq
          obtain ⟨u9d, h219, h⟩ := obind h
          rcases oif h with ⟨h220, h⟩ | ⟨h220, h⟩
          · rcases oif h with ⟨h221, h⟩ | ⟨h221, h⟩
            · obtain ⟨uat, h222, h⟩ := obind h
              refine Wc.region [{}, {}, { r := some (.v (.bool u9d) []) }, { re := some (.bool true) }, {}, {}, {}, {}, { re := some (.bool true) }, {}, {}, { v := some (.int .i64 (vf.gKids.length : Int)) }, { r := some (.v (.bool uat) []) }] [] [2] [] [] ⟨[(2, (.v (.bool uat), []))], [], []⟩ _ (by kernel_rfl) (.cons (cspec_l03Name h219) (.cons (congrArg AV.bool h220) (.cons (congrArg AV.bool h221) (.cons (len_obl GTerm.c vf.gKids) (.cons (cspec_l01In h222) .nil))))) ?_
              refine Wc.ret ?_
              obtain rfl := Option.some.inj h
              exact ⟨.inl rfl, by kernel_rfl, by kernel_rfl⟩
            · refine Wc.region [{}, {}, { r := some (.v (.bool u9d) []) }, { re := some (.bool true) }, {}, {}, {}, {}, { re := some (.bool false) }] [] [2] [] [] ⟨[(2, (.v (.bool false), []))], [], []⟩ _ (by kernel_rfl) (.cons (cspec_l03Name h219) (.cons (congrArg AV.bool h220) (.cons (congrArg AV.bool h221) .nil))) ?_
              refine Wc.ret ?_
              obtain rfl := Option.some.inj h
              exact ⟨.inl rfl, by kernel_rfl, by kernel_rfl⟩
          · refine Wc.region [{}, {}, { r := some (.v (.bool u9d) []) }, { re := some (.bool false) }] [] [2] [] [] ⟨[(2, (.v (.bool false), []))], [], []⟩ _ (by kernel_rfl) (.cons (cspec_l03Name h219) (.cons (congrArg AV.bool h220) .nil)) ?_
            refine Wc.ret ?_
            obtain rfl := Option.some.inj h
            exact ⟨.inl rfl, by kernel_rfl, by kernel_rfl⟩
        · refine Wc.condF h218 (by kernel_rfl) ?_
          refine Wc.fix (st' := ⟨[], [], []⟩) [] [] [] [] (by kernel_rfl) ?_
          refine Wc.skip ?_
          apply Wc.seq
          refine Wc.region [] [] [2] [] [] ⟨[(2, (.v (.bool false), []))], [], []⟩ _ (by kernel_rfl) .nil ?_
          refine Wc.ret ?_
          obtain rfl := Option.some.inj h
          exact ⟨.inl rfl, by kernel_rfl, by kernel_rfl⟩

def pspec_l03Right_L1 (k : Nat) (rspec_l03Right : GTerm → Int → Option Bool) (zi : GTerm) (u01 : Int) : Nat → Int → Option (Out Bool Unit)
  | 0, _ => none
  | m + 1, u37 =>
    if (decide (u37 < (zi.gKids.length : Int))) = true then
      (at' zi.gKids u37).bind fun u9e =>
      (rspec_l03Right u9e (wr.i64 (u01 + 1))).bind fun uau =>
      if (!uau) = true then
        some (.ret false)
      else
        pspec_l03Right_L1 k rspec_l03Right zi u01 m (wr.i64 (u37 + 1))
    else
      some (.done ())
mutual
def pspec_l03Right : Nat → GTerm → Int → Option Bool
  | 0, _, _ => none
  | k + 1, zi, u01 =>
    if (decide (u01 > 40)) = true then
      some false
    else
      (pspec_l03One k zi).bind fun uav =>
      if (!uav) = true then
        some false
      else
        (pspec_l03Right_L1 k (pspec_l03Right k) zi u01 k 0).bind fun out1 => match out1 with
        | .ret r => some r
        | .done () =>
          some true
end
theorem all_pspec_l03Right : ∀ k : Nat, (∀ {zi : GTerm} {u01 : Int} {r : Bool}, pspec_l03Right k zi u01 = some r → FnO Try.prog 120 [.v (.agg (GTerm.q zi)) [], .v (.int .i64 u01) []] (.v (.bool r) []) []) := by
  intro k
  induction k with
  | zero =>
    · intro zi u01 r h
      exact (onone (by rw [pspec_l03Right] at h; exact h)).elim
  | succ k ih =>
    have ih_pspec_l03Right := @ih
    · intro zi u01 r h
      rw [pspec_l03Right] at h
      refine FnO.of Try.func120 (rfl : Try.f120.body = some _) (Nat.le_of_ble_eq_true (by kernel_rfl)) (Nat.le_of_ble_eq_true (by kernel_rfl)) ?_
      intro w0 X0 Fin pv0 pb
      apply Wc.seq
      refine Wc.region [] [] [1, 2] [2] [] ⟨[(1, (.v (.int .i64 u01), [])), (2, (.ptr 2 0, []))], [(2, .cells (GTerm.q zi) [])], []⟩ _ (by kernel_rfl) .nil ?_
      apply Wc.seq
      apply Wc.seq
      rcases oif h with ⟨h223, h⟩ | ⟨h223, h⟩
      · refine Wc.region [{}, {}, { re := some (.bool true) }] [] [1, 2, 12] [2] [] ⟨[(1, (.v (.int .i64 u01), [])), (2, (.ptr 2 0, [])), (12, (.v (.bool true), []))], [(2, .cells (GTerm.q zi) [])], []⟩ _ (by kernel_rfl) (.cons (congrArg AV.bool h223) .nil) ?_
        refine Wc.condT rfl (by kernel_rfl) ?_
        apply Wc.seq
        refine Wc.region [] [] [4] [] [] ⟨[(4, (.v (.bool false), []))], [], []⟩ _ (by kernel_rfl) .nil ?_
        refine Wc.ret ?_
        obtain rfl := Option.some.inj h
        exact ⟨.inl rfl, by kernel_rfl, by kernel_rfl⟩
      · obtain ⟨uav, h224, h⟩ := obind h
        refine Wc.region [{}, {}, { re := some (.bool false) }, {}, { r := some (.v (.bool uav) []) }] [] [1, 2, 12] [2] [] ⟨[(1, (.v (.int .i64 u01), [])), (2, (.ptr 2 0, [])), (12, (.v (.bool (!uav)), []))], [(2, .cells (GTerm.q zi) [])], []⟩ _ (by kernel_rfl) (.cons (congrArg AV.bool h223) (.cons (cspec_l03One h224) .nil)) ?_
        rcases oif h with ⟨h225, h⟩ | ⟨h225, h⟩
        · refine Wc.condT h225 (by kernel_rfl) ?_
          apply Wc.seq
          refine Wc.region [] [] [4] [] [] ⟨[(4, (.v (.bool false), []))], [], []⟩ _ (by kernel_rfl) .nil ?_
          refine Wc.ret ?_
          obtain rfl := Option.some.inj h
          exact ⟨.inl rfl, by kernel_rfl, by kernel_rfl⟩
        · refine Wc.condF h225 (by kernel_rfl) ?_
          refine Wc.fix (st' := ⟨[(1, (.v (.int .i64 u01), [])), (2, (.ptr 2 0, []))], [(2, .cells (GTerm.q zi) [])], []⟩) [] [1, 2] [2] [] (by kernel_rfl) ?_
          refine Wc.skip ?_
          apply Wc.seq
          apply Wc.seq
          refine Wc.region [] [] [1, 2, 5] [2] [] ⟨[(1, (.v (.int .i64 u01), [])), (2, (.ptr 2 0, [])), (5, (.v (.int .i64 0), []))], [(2, .cells (GTerm.q zi) [])], []⟩ _ (by kernel_rfl) .nil ?_
          obtain ⟨out1, h226, h⟩ := obind h
          refine Wc.lastJ (fun st => out1 = .done () ∧ st = ⟨[], [], []⟩) ?_ ?_
          · refine Wc.block ?_
            refine Wc.loop (fun m st => ∃ (u37 : Int), st = ⟨[(1, (.v (.int .i64 u01), [])), (2, (.ptr 2 0, [])), (5, (.v (.int .i64 u37), []))], [(2, .cells (GTerm.q zi) [])], []⟩ ∧ pspec_l03Right_L1 k (pspec_l03Right k) zi u01 m u37 = some out1) ?_ k ⟨_, rfl, h226⟩
            rintro m st ⟨u37, rfl, h226⟩
            cases m with
            | zero => exact (onone h226).elim
            | succ m =>
              apply Wc.seq
              apply Wc.seq
              refine Wc.region [{}, {}, {}, { v := some (.int .i64 (zi.gKids.length : Int)) }] [] [1, 2, 5, 17] [2] [] ⟨[(1, (.v (.int .i64 u01), [])), (2, (.ptr 2 0, [])), (5, (.v (.int .i64 u37), [])), (17, (.v (.bool (decide (u37 < (zi.gKids.length : Int)))), []))], [(2, .cells (GTerm.q zi) [])], []⟩ _ (by kernel_rfl) (.cons (len_obl GTerm.c zi.gKids) .nil) ?_
              rcases oif h226 with ⟨h227, h226⟩ | ⟨h227, h226⟩
              · refine Wc.condT h227 (by kernel_rfl) ?_
                refine Wc.fix (st' := ⟨[(1, (.v (.int .i64 u01), [])), (2, (.ptr 2 0, [])), (5, (.v (.int .i64 u37), []))], [(2, .cells (GTerm.q zi) [])], []⟩) [] [1, 2, 5] [2] [] (by kernel_rfl) ?_
                refine Wc.skip ?_
                apply Wc.seq
                refine Wc.block ?_
                apply Wc.seq
                obtain ⟨u9e, h228, h226⟩ := obind h226
                obtain ⟨uau, h229, h226⟩ := obind h226
                refine Wc.region [{}, {}, {}, { v := some (.vptr (GTerm.q u9e)) }, {}, {}, {}, { r := some (.v (.bool uau) []) }] [] [1, 2, 5, 28] [2] [] ⟨[(1, (.v (.int .i64 u01), [])), (2, (.ptr 2 0, [])), (5, (.v (.int .i64 u37), [])), (28, (.v (.bool (!uau)), []))], [(2, .cells (GTerm.q zi) [])], []⟩ _ (by kernel_rfl) (.cons (at_obl (c := GTerm.c) (GTerm.c_eq u9e) GTerm.c_len h228) (.cons (len_ok 4 (GTerm.q u9e)) (.cons (ih_pspec_l03Right h229) .nil))) ?_
                rcases oif h226 with ⟨h230, h226⟩ | ⟨h230, h226⟩
                · refine Wc.condT h230 (by kernel_rfl) ?_
                  apply Wc.seq
                  refine Wc.region [] [] [4] [] [] ⟨[(4, (.v (.bool false), []))], [], []⟩ _ (by kernel_rfl) .nil ?_
                  refine Wc.ret ?_
                  obtain rfl := Option.some.inj h226
                  obtain rfl := Option.some.inj h
                  exact ⟨.inl rfl, by kernel_rfl, by kernel_rfl⟩
                · refine Wc.condF h230 (by kernel_rfl) ?_
                  refine Wc.fix (st' := ⟨[(1, (.v (.int .i64 u01), [])), (2, (.ptr 2 0, [])), (5, (.v (.int .i64 u37), []))], [(2, .cells (GTerm.q zi) [])], []⟩) [] [1, 2, 5] [2] [] (by kernel_rfl) ?_
                  refine Wc.skip ?_
                  refine Wc.region [] [] [1, 2, 5] [2] [] ⟨[(1, (.v (.int .i64 u01), [])), (2, (.ptr 2 0, [])), (5, (.v (.int .i64 (wr.i64 (u37 + 1))), []))], [(2, .cells (GTerm.q zi) [])], []⟩ _ (by kernel_rfl) .nil ?_
                  exact ⟨_, Nat.lt_succ_self _, _, rfl, h226⟩
              · refine Wc.condF h227 (by kernel_rfl) ?_
                refine Wc.fix (st' := ⟨[], [], []⟩) [] [] [] [] (by kernel_rfl) ?_
                refine Wc.exit ?_
                obtain rfl := Option.some.inj h226
                exact ⟨rfl, rfl⟩
          · rintro st ⟨rfl, rfl⟩
            apply Wc.seq
            refine Wc.region [] [] [4] [] [] ⟨[(4, (.v (.bool true), []))], [], []⟩ _ (by kernel_rfl) .nil ?_
            refine Wc.ret ?_
            obtain rfl := Option.some.inj h
            exact ⟨.inl rfl, by kernel_rfl, by kernel_rfl⟩
theorem cspec_l03Right {k : Nat} {zi : GTerm} {u01 : Int} {r : Bool} (h : pspec_l03Right k zi u01 = some r) : FnO Try.prog 120 [.v (.agg (GTerm.q zi)) [], .v (.int .i64 u01) []] (.v (.bool r) []) [] := (all_pspec_l03Right k) h

def pspec_TermOk (k : Nat) (u7b : GTerm) : Option Bool :=
  (pspec_l03Count k u7b 400).bind fun uaw =>
  if (decide (uaw ≥ 0)) = true then
    (pspec_l03Right k u7b 1).bind fun uax =>
    some uax
  else
    some false
theorem cspec_TermOk {k : Nat} {u7b : GTerm} {r : Bool} (h : pspec_TermOk k u7b = some r) : FnO Try.prog 78 [.v (.agg (GTerm.q u7b)) []] (.v (.bool r) []) [] := by
  refine FnO.of Try.func78 (rfl : Try.f78.body = some _) (Nat.le_of_ble_eq_true (by kernel_rfl)) (Nat.le_of_ble_eq_true (by kernel_rfl)) ?_
  intro w0 X0 Fin pv0 pb
  unfold pspec_TermOk at h
  apply Wc.seq
  refine Wc.region [] [] [1] [1] [] ⟨[(1, (.ptr 1 0, []))], [(1, .cells (GTerm.q u7b) [])], []⟩ _ (by kernel_rfl) .nil ?_
  apply Wc.seq
  obtain ⟨uaw, h231, h⟩ := obind h
  rcases oif h with ⟨h232, h⟩ | ⟨h232, h⟩
  · obtain ⟨uax, h233, h⟩ := obind h
    refine Wc.region [{}, { r := some (.v (.int .i64 uaw) []) }, {}, { re := some (.bool true) }, {}, { r := some (.v (.bool uax) []) }] [] [2] [] [] ⟨[(2, (.v (.bool uax), []))], [], []⟩ _ (by kernel_rfl) (.cons (cspec_l03Count h231) (.cons (congrArg AV.bool h232) (.cons (cspec_l03Right h233) .nil))) ?_
    refine Wc.ret ?_
    obtain rfl := Option.some.inj h
    exact ⟨.inl rfl, by kernel_rfl, by kernel_rfl⟩
  · refine Wc.region [{}, { r := some (.v (.int .i64 uaw) []) }, {}, { re := some (.bool false) }] [] [2] [] [] ⟨[(2, (.v (.bool false), []))], [], []⟩ _ (by kernel_rfl) (.cons (cspec_l03Count h231) (.cons (congrArg AV.bool h232) .nil)) ?_
    refine Wc.ret ?_
    obtain rfl := Option.some.inj h
    exact ⟨.inl rfl, by kernel_rfl, by kernel_rfl⟩

def pspec_l03Has_L1 (k : Nat) (u0x : List Int) (u1m : Int) : Nat → Int → Option (Out Bool Unit)
  | 0, _ => none
  | m + 1, u38 =>
    if (decide (u38 < (u0x.length : Int))) = true then
      (at' u0x u38).bind fun u9f =>
      if (u9f == u1m) = true then
        some (.ret true)
      else
        pspec_l03Has_L1 k u0x u1m m (wr.i64 (u38 + 1))
    else
      some (.done ())
def pspec_l03Has (k : Nat) (u0x : List Int) (u1m : Int) : Option Bool :=
  (pspec_l03Has_L1 k u0x u1m k 0).bind fun out1 => match out1 with
  | .ret r => some r
  | .done () =>
    some false
theorem cspec_l03Has {k : Nat} {u0x : List Int} {u1m : Int} {r : Bool} (h : pspec_l03Has k u0x u1m = some r) : FnO Try.prog 121 [.v (.sl (List.map cI.i64 u0x)) [], .v (.int .i64 u1m) []] (.v (.bool r) []) [] := by
  refine FnO.of Try.func121 (rfl : Try.f121.body = some _) (Nat.le_of_ble_eq_true (by kernel_rfl)) (Nat.le_of_ble_eq_true (by kernel_rfl)) ?_
  intro w0 X0 Fin pv0 pb
  unfold pspec_l03Has at h
  apply Wc.seq
  refine Wc.region [] [] [0, 1] [] [] ⟨[(0, (.v (.sl (List.map cI.i64 u0x)), [])), (1, (.v (.int .i64 u1m), []))], [], []⟩ _ (by kernel_rfl) .nil ?_
  apply Wc.seq
  apply Wc.seq
  refine Wc.region [] [] [0, 1, 5] [] [] ⟨[(0, (.v (.sl (List.map cI.i64 u0x)), [])), (1, (.v (.int .i64 u1m), [])), (5, (.v (.int .i64 0), []))], [], []⟩ _ (by kernel_rfl) .nil ?_
  obtain ⟨out1, h234, h⟩ := obind h
  refine Wc.lastJ (fun st => out1 = .done () ∧ st = ⟨[], [], []⟩) ?_ ?_
  · refine Wc.block ?_
    refine Wc.loop (fun m st => ∃ (u38 : Int), st = ⟨[(0, (.v (.sl (List.map cI.i64 u0x)), [])), (1, (.v (.int .i64 u1m), [])), (5, (.v (.int .i64 u38), []))], [], []⟩ ∧ pspec_l03Has_L1 k u0x u1m m u38 = some out1) ?_ k ⟨_, rfl, h234⟩
    rintro m st ⟨u38, rfl, h234⟩
    cases m with
    | zero => exact (onone h234).elim
    | succ m =>
      apply Wc.seq
      apply Wc.seq
      refine Wc.region [{}, {}, { v := some (.int .i64 (u0x.length : Int)) }] [] [0, 1, 5, 9] [] [] ⟨[(0, (.v (.sl (List.map cI.i64 u0x)), [])), (1, (.v (.int .i64 u1m), [])), (5, (.v (.int .i64 u38), [])), (9, (.v (.bool (decide (u38 < (u0x.length : Int)))), []))], [], []⟩ _ (by kernel_rfl) (.cons (len_obl cI.i64 u0x) .nil) ?_
      rcases oif h234 with ⟨h235, h234⟩ | ⟨h235, h234⟩
      · refine Wc.condT h235 (by kernel_rfl) ?_
        refine Wc.fix (st' := ⟨[(0, (.v (.sl (List.map cI.i64 u0x)), [])), (1, (.v (.int .i64 u1m), [])), (5, (.v (.int .i64 u38), []))], [], []⟩) [] [0, 1, 5] [] [] (by kernel_rfl) ?_
        refine Wc.skip ?_
        apply Wc.seq
        refine Wc.block ?_
        apply Wc.seq
        obtain ⟨u9f, h236, h234⟩ := obind h234
        refine Wc.region [{}, {}, { v := some (.vptr [.int .i64 u9f]) }] [] [0, 1, 5, 17] [] [] ⟨[(0, (.v (.sl (List.map cI.i64 u0x)), [])), (1, (.v (.int .i64 u1m), [])), (5, (.v (.int .i64 u38), [])), (17, (.v (.bool (u9f == u1m)), []))], [], []⟩ _ (by kernel_rfl) (.cons (at_obl (c := cI.i64) rfl cI.i64_len h236) (.cons (len_ok 1 [.int .i64 u9f]) .nil)) ?_
        rcases oif h234 with ⟨h237, h234⟩ | ⟨h237, h234⟩
        · refine Wc.condT h237 (by kernel_rfl) ?_
          apply Wc.seq
          refine Wc.region [] [] [4] [] [] ⟨[(4, (.v (.bool true), []))], [], []⟩ _ (by kernel_rfl) .nil ?_
          refine Wc.ret ?_
          obtain rfl := Option.some.inj h234
          obtain rfl := Option.some.inj h
          exact ⟨.inl rfl, by kernel_rfl, by kernel_rfl⟩
        · refine Wc.condF h237 (by kernel_rfl) ?_
          refine Wc.fix (st' := ⟨[(0, (.v (.sl (List.map cI.i64 u0x)), [])), (1, (.v (.int .i64 u1m), [])), (5, (.v (.int .i64 u38), []))], [], []⟩) [] [0, 1, 5] [] [] (by kernel_rfl) ?_
          refine Wc.skip ?_
          refine Wc.region [] [] [0, 1, 5] [] [] ⟨[(0, (.v (.sl (List.map cI.i64 u0x)), [])), (1, (.v (.int .i64 u1m), [])), (5, (.v (.int .i64 (wr.i64 (u38 + 1))), []))], [], []⟩ _ (by kernel_rfl) .nil ?_
          exact ⟨_, Nat.lt_succ_self _, _, rfl, h234⟩
      · refine Wc.condF h235 (by kernel_rfl) ?_
        refine Wc.fix (st' := ⟨[], [], []⟩) [] [] [] [] (by kernel_rfl) ?_
        refine Wc.exit ?_
        obtain rfl := Option.some.inj h234
        exact ⟨rfl, rfl⟩
  · rintro st ⟨rfl, rfl⟩
    apply Wc.seq
    refine Wc.region [] [] [4] [] [] ⟨[(4, (.v (.bool false), []))], [], []⟩ _ (by kernel_rfl) .nil ?_
    refine Wc.ret ?_
    obtain rfl := Option.some.inj h
    exact ⟨.inl rfl, by kernel_rfl, by kernel_rfl⟩

def pspec_l12Words_L1 (k : Nat) (rspec_l12Words : GTerm → (List GIns) → (List Int) → Option ((List GIns) × (List Int))) (uh : GTerm) : Nat → (List GIns) → (List Int) → Int → Option (Out ((List GIns) × (List Int)) ((List GIns) × (List Int)))
  | 0, _, _, _ => none
  | m + 1, u51, u52, u3w =>
    if (decide (u3w < (uh.gKids.length : Int))) = true then
      (at' uh.gKids u3w).bind fun u9g =>
      (rspec_l12Words u9g u51 u52).bind fun u53 =>
      pspec_l12Words_L1 k rspec_l12Words uh m u53.1 u53.2 (wr.i64 (u3w + 1))
    else
      some (.done (u51, u52))
mutual
def pspec_l12Words : Nat → GTerm → (List GIns) → (List Int) → Option ((List GIns) × (List Int))
  | 0, _, _, _ => none
  | k + 1, uh, vb, vm =>
    if (uh.gKind == 2) = true then
      if vb.length + [GIns.mk 1 uh.gName 0 0].length ≤ 1073741824 then
        some (vb ++ [GIns.mk 1 uh.gName 0 0], vm)
      else none
    else
      if (uh.gKind == 3) = true then
        if vb.length + [GIns.mk 2 (bs []) uh.gNum 0].length ≤ 1073741824 then
          some (vb ++ [GIns.mk 2 (bs []) uh.gNum 0], vm)
        else none
      else
        if (uh.gKind == 1) = true then
          (pspec_l03Has k vm uh.gNum).bind fun uay =>
          if uay = true then
            if vb.length + [GIns.mk 4 (bs []) uh.gNum 0].length ≤ 1073741824 then
              some (vb ++ [GIns.mk 4 (bs []) uh.gNum 0], vm)
            else none
          else
            if vb.length + [GIns.mk 3 (bs []) uh.gNum 0].length ≤ 1073741824 then
              if ([] : List Int).length + vm.length ≤ 1073741824 then
                if vm.length + [uh.gNum].length ≤ 1073741824 then
                  some (vb ++ [GIns.mk 3 (bs []) uh.gNum 0], vm ++ [uh.gNum])
                else none
              else none
            else none
        else
          if vb.length + [GIns.mk 5 uh.gName 0 (uh.gKids.length : Int)].length ≤ 1073741824 then
            (pspec_l12Words_L1 k (pspec_l12Words k) uh k (vb ++ [GIns.mk 5 uh.gName 0 (uh.gKids.length : Int)]) vm 0).bind fun out1 => match out1 with
            | .ret r => some r
            | .done (u7c, u7d) =>
              some (u7c, u7d)
          else none
end
set_option maxHeartbeats 4000000 in
theorem all_pspec_l12Words : ∀ k : Nat, (∀ {uh : GTerm} {vb : List GIns} {vm : List Int} {r : (List GIns) × (List Int)}, pspec_l12Words k uh vb vm = some r → FnO Try.prog 122 [.v (.agg (GTerm.q uh)) [], .v (.slx) [(0, .ex 158 false (List.map GIns.c vb))], .v (.sl (List.map cI.i64 vm)) []] (.v (.tup [.slx, .sl (List.map cI.i64 r.2)]) [(0, .ex 158 false (List.map GIns.c r.1))]) []) := by
  intro k
  induction k with
  | zero =>
    · intro uh vb vm r h
      exact (onone (by rw [pspec_l12Words] at h; exact h)).elim
  | succ k ih =>
    have ih_pspec_l12Words := @ih
    · intro uh vb vm r h
      rw [pspec_l12Words] at h
      refine FnO.of Try.func122 (rfl : Try.f122.body = some _) (Nat.le_of_ble_eq_true (by kernel_rfl)) (Nat.le_of_ble_eq_true (by kernel_rfl)) ?_
      intro w0 X0 Fin pv0 pb
      apply Wc.seq
      refine Wc.region [] [] [1, 2, 3] [3] [] ⟨[(1, (.v (.slx), [(0, .ex 158 false (List.map GIns.c vb))])), (2, (.v (.sl (List.map cI.i64 vm)), [])), (3, (.ptr 3 0, []))], [(3, .cells (GTerm.q uh) [])], []⟩ _ (by kernel_rfl) .nil ?_
      apply Wc.seq
      apply Wc.seq
      refine Wc.region [] [] [1, 2, 3, 10] [3] [] ⟨[(1, (.v (.slx), [(0, .ex 158 false (List.map GIns.c vb))])), (2, (.v (.sl (List.map cI.i64 vm)), [])), (3, (.ptr 3 0, [])), (10, (.v (.int .i64 uh.gKind), []))], [(3, .cells (GTerm.q uh) [])], []⟩ _ (by kernel_rfl) .nil ?_
      refine Wc.block ?_
      apply Wc.seq
      refine Wc.region [] [] [1, 2, 3, 10, 11] [3] [] ⟨[(1, (.v (.slx), [(0, .ex 158 false (List.map GIns.c vb))])), (2, (.v (.sl (List.map cI.i64 vm)), [])), (3, (.ptr 3 0, [])), (10, (.v (.int .i64 uh.gKind), [])), (11, (.v (.bool (uh.gKind == 2)), []))], [(3, .cells (GTerm.q uh) [])], []⟩ _ (by kernel_rfl) .nil ?_
      rcases oif h with ⟨h254, h⟩ | ⟨h254, h⟩
      · refine Wc.condT h254 (by kernel_rfl) ?_
        apply Wc.seq
        obtain ⟨h255, h⟩ := oguard h
        refine Wc.region [{ tk := [1] }, {}, {}, {}, { c := some (List.map GIns.c [GIns.mk 1 uh.gName 0 0]) }, { c := some (List.map GIns.c (vb ++ [GIns.mk 1 uh.gName 0 0])), tk := [13], md := 1 }, {}, { tk := [18] }] [] [6, 7] [] [] ⟨[(6, (.v (.slx), [(0, .ex 158 false (List.map GIns.c (vb ++ [GIns.mk 1 uh.gName 0 0])))])), (7, (.v (.sl (List.map cI.i64 vm)), []))], [], []⟩ _ (by kernel_rfl) (.cons (cl_cons (c := GIns.c) (x := GIns.mk 1 uh.gName 0 0) (GIns.c_eq (GIns.mk 1 uh.gName 0 0)) (cl_nil GIns.c)) (.cons (app_re2 GIns.c vb [GIns.mk 1 uh.gName 0 0]) (.cons (app_leaf (c := GIns.c) (ys := [GIns.mk 1 uh.gName 0 0]) GIns.c_leaf) (.cons (app_obl2 (c := GIns.c) (xs := vb) (ys := [GIns.mk 1 uh.gName 0 0]) GIns.c_len h255) .nil)))) ?_
        refine Wc.ret ?_
        obtain rfl := Option.some.inj h
        exact ⟨.inl rfl, by kernel_rfl, by kernel_rfl⟩
      · refine Wc.condF h254 (by kernel_rfl) ?_
        apply Wc.seq
        refine Wc.region [] [] [1, 2, 3, 10, 20] [3] [] ⟨[(1, (.v (.slx), [(0, .ex 158 false (List.map GIns.c vb))])), (2, (.v (.sl (List.map cI.i64 vm)), [])), (3, (.ptr 3 0, [])), (10, (.v (.int .i64 uh.gKind), [])), (20, (.v (.bool (uh.gKind == 3)), []))], [(3, .cells (GTerm.q uh) [])], []⟩ _ (by kernel_rfl) .nil ?_
        rcases oif h with ⟨h256, h⟩ | ⟨h256, h⟩
        · refine Wc.condT h256 (by kernel_rfl) ?_
          apply Wc.seq
          obtain ⟨h257, h⟩ := oguard h
          refine Wc.region [{ tk := [1] }, {}, {}, {}, { c := some (List.map GIns.c [GIns.mk 2 (bs []) uh.gNum 0]) }, { c := some (List.map GIns.c (vb ++ [GIns.mk 2 (bs []) uh.gNum 0])), tk := [22], md := 1 }, {}, { tk := [27] }] [] [6, 7] [] [] ⟨[(6, (.v (.slx), [(0, .ex 158 false (List.map GIns.c (vb ++ [GIns.mk 2 (bs []) uh.gNum 0])))])), (7, (.v (.sl (List.map cI.i64 vm)), []))], [], []⟩ _ (by kernel_rfl) (.cons (cl_cons (c := GIns.c) (x := GIns.mk 2 (bs []) uh.gNum 0) (GIns.c_eq (GIns.mk 2 (bs []) uh.gNum 0)) (cl_nil GIns.c)) (.cons (app_re2 GIns.c vb [GIns.mk 2 (bs []) uh.gNum 0]) (.cons (app_leaf (c := GIns.c) (ys := [GIns.mk 2 (bs []) uh.gNum 0]) GIns.c_leaf) (.cons (app_obl2 (c := GIns.c) (xs := vb) (ys := [GIns.mk 2 (bs []) uh.gNum 0]) GIns.c_len h257) .nil)))) ?_
          refine Wc.ret ?_
          obtain rfl := Option.some.inj h
          exact ⟨.inl rfl, by kernel_rfl, by kernel_rfl⟩
        · refine Wc.condF h256 (by kernel_rfl) ?_
          apply Wc.seq
          refine Wc.region [] [] [1, 2, 3, 29] [3] [] ⟨[(1, (.v (.slx), [(0, .ex 158 false (List.map GIns.c vb))])), (2, (.v (.sl (List.map cI.i64 vm)), [])), (3, (.ptr 3 0, [])), (29, (.v (.bool (uh.gKind == 1)), []))], [(3, .cells (GTerm.q uh) [])], []⟩ _ (by kernel_rfl) .nil ?_
          rcases oif h with ⟨h258, h⟩ | ⟨h258, h⟩
          · refine Wc.condT h258 (by kernel_rfl) ?_
            apply Wc.seq
            apply Wc.seq
            obtain ⟨uay, h259, h⟩ := obind h
            refine Wc.region [{}, {}, {}, { r := some (.v (.bool uay) []) }] [] [1, 2, 3, 34] [3] [] ⟨[(1, (.v (.slx), [(0, .ex 158 false (List.map GIns.c vb))])), (2, (.v (.sl (List.map cI.i64 vm)), [])), (3, (.ptr 3 0, [])), (34, (.v (.bool uay), []))], [(3, .cells (GTerm.q uh) [])], []⟩ _ (by kernel_rfl) (.cons (cspec_l03Has h259) .nil) ?_
            rcases oif h with ⟨h260, h⟩ | ⟨h260, h⟩
            · refine Wc.condT h260 (by kernel_rfl) ?_
              apply Wc.seq
              obtain ⟨h261, h⟩ := oguard h
              refine Wc.region [{ tk := [1] }, {}, {}, {}, { c := some (List.map GIns.c [GIns.mk 4 (bs []) uh.gNum 0]) }, { c := some (List.map GIns.c (vb ++ [GIns.mk 4 (bs []) uh.gNum 0])), tk := [35], md := 1 }, {}, { tk := [40] }] [] [6, 7] [] [] ⟨[(6, (.v (.slx), [(0, .ex 158 false (List.map GIns.c (vb ++ [GIns.mk 4 (bs []) uh.gNum 0])))])), (7, (.v (.sl (List.map cI.i64 vm)), []))], [], []⟩ _ (by kernel_rfl) (.cons (cl_cons (c := GIns.c) (x := GIns.mk 4 (bs []) uh.gNum 0) (GIns.c_eq (GIns.mk 4 (bs []) uh.gNum 0)) (cl_nil GIns.c)) (.cons (app_re2 GIns.c vb [GIns.mk 4 (bs []) uh.gNum 0]) (.cons (app_leaf (c := GIns.c) (ys := [GIns.mk 4 (bs []) uh.gNum 0]) GIns.c_leaf) (.cons (app_obl2 (c := GIns.c) (xs := vb) (ys := [GIns.mk 4 (bs []) uh.gNum 0]) GIns.c_len h261) .nil)))) ?_
              refine Wc.ret ?_
              obtain rfl := Option.some.inj h
              exact ⟨.inl rfl, by kernel_rfl, by kernel_rfl⟩
            · refine Wc.condF h260 (by kernel_rfl) ?_
              refine Wc.fix (st' := ⟨[(1, (.v (.slx), [(0, .ex 158 false (List.map GIns.c vb))])), (2, (.v (.sl (List.map cI.i64 vm)), [])), (3, (.ptr 3 0, []))], [(3, .cells (GTerm.q uh) [])], []⟩) [] [1, 2, 3] [3] [] (by kernel_rfl) ?_
              refine Wc.skip ?_
              apply Wc.seq
              obtain ⟨h262, h⟩ := oguard h
              obtain ⟨h263, h⟩ := oguard h
              obtain ⟨h264, h⟩ := oguard h
              refine Wc.draw hmix [{ tk := [1] }, {}, {}, {}, { c := some (List.map GIns.c [GIns.mk 3 (bs []) uh.gNum 0]) }, { c := some (List.map GIns.c (vb ++ [GIns.mk 3 (bs []) uh.gNum 0])), tk := [42], md := 1 }, { c := some (List.map cI.i64 []) }, {}, { c := some (List.map cI.i64 vm), tk := [48] }, {}, {}, { c := some (List.map cI.i64 [uh.gNum]) }, { c := some (List.map cI.i64 (vm ++ [uh.gNum])), tk := [50] }, { tk := [47] }, { tk := [54] }] [] [6, 7] [] [] ⟨[(6, (.v (.slx), [(0, .ex 158 false (List.map GIns.c (vb ++ [GIns.mk 3 (bs []) uh.gNum 0])))])), (7, (.v (.sl (List.map cI.i64 (vm ++ [uh.gNum]))), [(0, .app 3)]))], [], []⟩ _ (by kernel_rfl) (fun X => by kernel_rfl) (.cons (cl_cons (c := GIns.c) (x := GIns.mk 3 (bs []) uh.gNum 0) (GIns.c_eq (GIns.mk 3 (bs []) uh.gNum 0)) (cl_nil GIns.c)) (.cons (app_re2 GIns.c vb [GIns.mk 3 (bs []) uh.gNum 0]) (.cons (app_leaf (c := GIns.c) (ys := [GIns.mk 3 (bs []) uh.gNum 0]) GIns.c_leaf) (.cons (app_obl2 (c := GIns.c) (xs := vb) (ys := [GIns.mk 3 (bs []) uh.gNum 0]) GIns.c_len h262) (.cons (cl_nil cI.i64) (.cons (app_re0 cI.i64 vm) (.cons (app_leaf (c := cI.i64) (ys := vm) cI.i64_leaf) (.cons (app_obl2 (c := cI.i64) (xs := []) (ys := vm) cI.i64_len h263) (.cons (cl_cons (c := cI.i64) (x := uh.gNum) rfl (cl_nil cI.i64)) (.cons (app_re2 cI.i64 vm [uh.gNum]) (.cons (app_leaf (c := cI.i64) (ys := [uh.gNum]) cI.i64_leaf) (.cons (app_obl2 (c := cI.i64) (xs := vm) (ys := [uh.gNum]) cI.i64_len h264) .nil)))))))))))) ?_
              refine Wc.fix (st' := ⟨[(6, (.v (.slx), [(0, .ex 158 false (List.map GIns.c (vb ++ [GIns.mk 3 (bs []) uh.gNum 0])))])), (7, (.v (.sl (List.map cI.i64 (vm ++ [uh.gNum]))), []))], [], []⟩) [.un (.t 7 0)] [6, 7] [] [] (by kernel_rfl) ?_
              refine Wc.ret ?_
              obtain rfl := Option.some.inj h
              exact ⟨.inl rfl, by kernel_rfl, by kernel_rfl⟩
          · refine Wc.condF h258 (by kernel_rfl) ?_
            refine Wc.fix (st' := ⟨[(1, (.v (.slx), [(0, .ex 158 false (List.map GIns.c vb))])), (2, (.v (.sl (List.map cI.i64 vm)), [])), (3, (.ptr 3 0, []))], [(3, .cells (GTerm.q uh) [])], []⟩) [] [1, 2, 3] [3] [] (by kernel_rfl) ?_
            refine Wc.skip ?_
            apply Wc.seq
            obtain ⟨h265, h⟩ := oguard h
            refine Wc.region [{ tk := [1] }, {}, {}, {}, {}, { v := some (.int .i64 (uh.gKids.length : Int)) }, {}, { c := some (List.map GIns.c [GIns.mk 5 uh.gName 0 (uh.gKids.length : Int)]) }, { c := some (List.map GIns.c (vb ++ [GIns.mk 5 uh.gName 0 (uh.gKids.length : Int)])), tk := [55], md := 1 }, { tk := [63] }] [] [1, 2, 3] [3] [] ⟨[(1, (.v (.slx), [(0, .ex 158 false (List.map GIns.c (vb ++ [GIns.mk 5 uh.gName 0 (uh.gKids.length : Int)])))])), (2, (.v (.sl (List.map cI.i64 vm)), [])), (3, (.ptr 3 0, []))], [(3, .cells (GTerm.q uh) [])], []⟩ _ (by kernel_rfl) (.cons (len_obl GTerm.c uh.gKids) (.cons (cl_cons (c := GIns.c) (x := GIns.mk 5 uh.gName 0 (uh.gKids.length : Int)) (GIns.c_eq (GIns.mk 5 uh.gName 0 (uh.gKids.length : Int))) (cl_nil GIns.c)) (.cons (app_re2 GIns.c vb [GIns.mk 5 uh.gName 0 (uh.gKids.length : Int)]) (.cons (app_leaf (c := GIns.c) (ys := [GIns.mk 5 uh.gName 0 (uh.gKids.length : Int)]) GIns.c_leaf) (.cons (app_obl2 (c := GIns.c) (xs := vb) (ys := [GIns.mk 5 uh.gName 0 (uh.gKids.length : Int)]) GIns.c_len h265) .nil))))) ?_
            apply Wc.seq
            apply Wc.seq
            refine Wc.region [] [] [1, 2, 3, 8] [3] [] ⟨[(1, (.v (.slx), [(0, .ex 158 false (List.map GIns.c (vb ++ [GIns.mk 5 uh.gName 0 (uh.gKids.length : Int)])))])), (2, (.v (.sl (List.map cI.i64 vm)), [])), (3, (.ptr 3 0, [])), (8, (.v (.int .i64 0), []))], [(3, .cells (GTerm.q uh) [])], []⟩ _ (by kernel_rfl) .nil ?_
            obtain ⟨out1, h266, h⟩ := obind h
            refine Wc.lastJ (fun st => ∃ (u7c : List GIns) (u7d : List Int), out1 = .done (u7c, u7d) ∧ st = ⟨[(1, (.v (.slx), [(0, .ex 158 false (List.map GIns.c u7c))])), (2, (.v (.sl (List.map cI.i64 u7d)), []))], [], []⟩) ?_ ?_
            · refine Wc.block ?_
              refine Wc.loop (fun m st => ∃ (u51 : List GIns) (u52 : List Int) (u3w : Int), st = ⟨[(1, (.v (.slx), [(0, .ex 158 false (List.map GIns.c u51))])), (2, (.v (.sl (List.map cI.i64 u52)), [])), (3, (.ptr 3 0, [])), (8, (.v (.int .i64 u3w), []))], [(3, .cells (GTerm.q uh) [])], []⟩ ∧ pspec_l12Words_L1 k (pspec_l12Words k) uh m u51 u52 u3w = some out1) ?_ k ⟨_, _, _, rfl, h266⟩
              rintro m st ⟨u51, u52, u3w, rfl, h266⟩
              cases m with
              | zero => exact (onone h266).elim
              | succ m =>
                apply Wc.seq
                apply Wc.seq
                refine Wc.region [{}, {}, {}, { v := some (.int .i64 (uh.gKids.length : Int)) }] [] [1, 2, 3, 8, 68] [3] [] ⟨[(1, (.v (.slx), [(0, .ex 158 false (List.map GIns.c u51))])), (2, (.v (.sl (List.map cI.i64 u52)), [])), (3, (.ptr 3 0, [])), (8, (.v (.int .i64 u3w), [])), (68, (.v (.bool (decide (u3w < (uh.gKids.length : Int)))), []))], [(3, .cells (GTerm.q uh) [])], []⟩ _ (by kernel_rfl) (.cons (len_obl GTerm.c uh.gKids) .nil) ?_
                rcases oif h266 with ⟨h267, h266⟩ | ⟨h267, h266⟩
                · refine Wc.condT h267 (by kernel_rfl) ?_
                  refine Wc.fix (st' := ⟨[(1, (.v (.slx), [(0, .ex 158 false (List.map GIns.c u51))])), (2, (.v (.sl (List.map cI.i64 u52)), [])), (3, (.ptr 3 0, [])), (8, (.v (.int .i64 u3w), []))], [(3, .cells (GTerm.q uh) [])], []⟩) [] [1, 2, 3, 8] [3] [] (by kernel_rfl) ?_
                  refine Wc.skip ?_
                  apply Wc.seq
                  refine Wc.block ?_
                  obtain ⟨u9g, h268, h266⟩ := obind h266
                  obtain ⟨u53, h269, h266⟩ := obind h266
                  refine Wc.region [{}, {}, {}, { v := some (.vptr (GTerm.q u9g)) }, {}, { tk := [1] }, {}, { tk := [77], r := some (.v (.tup [.slx, .sl (List.map cI.i64 u53.2)]) [(0, .ex 158 false (List.map GIns.c u53.1))]) }, { tk := [79] }, { tk := [71] }, {}, { tk := [80] }] [] [1, 2, 3, 8] [3] [] ⟨[(1, (.v (.slx), [(0, .ex 158 false (List.map GIns.c u53.1))])), (2, (.v (.sl (List.map cI.i64 u53.2)), [])), (3, (.ptr 3 0, [])), (8, (.v (.int .i64 u3w), []))], [(3, .cells (GTerm.q uh) [])], []⟩ _ (by kernel_rfl) (.cons (at_obl (c := GTerm.c) (GTerm.c_eq u9g) GTerm.c_len h268) (.cons (len_ok 4 (GTerm.q u9g)) (.cons (ih_pspec_l12Words h269) .nil))) ?_
                  refine Wc.region [] [] [1, 2, 3, 8] [3] [] ⟨[(1, (.v (.slx), [(0, .ex 158 false (List.map GIns.c u53.1))])), (2, (.v (.sl (List.map cI.i64 u53.2)), [])), (3, (.ptr 3 0, [])), (8, (.v (.int .i64 (wr.i64 (u3w + 1))), []))], [(3, .cells (GTerm.q uh) [])], []⟩ _ (by kernel_rfl) .nil ?_
                  exact ⟨_, Nat.lt_succ_self _, _, _, _, rfl, h266⟩
                · refine Wc.condF h267 (by kernel_rfl) ?_
                  refine Wc.fix (st' := ⟨[(1, (.v (.slx), [(0, .ex 158 false (List.map GIns.c u51))])), (2, (.v (.sl (List.map cI.i64 u52)), []))], [], []⟩) [] [1, 2] [] [] (by kernel_rfl) ?_
                  refine Wc.exit ?_
                  obtain rfl := Option.some.inj h266
                  exact ⟨_, _, rfl, rfl⟩
            · rintro st ⟨u7c, u7d, rfl, rfl⟩
              apply Wc.seq
              refine Wc.region [{ tk := [1] }, {}, { tk := [82] }] [] [6, 7] [] [] ⟨[(6, (.v (.slx), [(0, .ex 158 false (List.map GIns.c u7c))])), (7, (.v (.sl (List.map cI.i64 u7d)), []))], [], []⟩ _ (by kernel_rfl) .nil ?_
              refine Wc.ret ?_
              obtain rfl := Option.some.inj h
              exact ⟨.inl rfl, by kernel_rfl, by kernel_rfl⟩
theorem cspec_l12Words {k : Nat} {uh : GTerm} {vb : List GIns} {vm : List Int} {r : (List GIns) × (List Int)} (h : pspec_l12Words k uh vb vm = some r) : FnO Try.prog 122 [.v (.agg (GTerm.q uh)) [], .v (.slx) [(0, .ex 158 false (List.map GIns.c vb))], .v (.sl (List.map cI.i64 vm)) []] (.v (.tup [.slx, .sl (List.map cI.i64 r.2)]) [(0, .ex 158 false (List.map GIns.c r.1))]) [] := (all_pspec_l12Words k) h

def pspec_WordsOf_L1 (k : Nat) (u02 : List Int) : Nat → (List Int) → Int → Option (Out ((List GIns) × (List Int)) (List Int))
  | 0, _, _ => none
  | m + 1, u0y, u1n =>
    if (decide (u1n < (u02.length : Int))) = true then
      (at' u02 u1n).bind fun uaz =>
      (pspec_l03Has k u0y uaz).bind fun ub0 =>
      if (!ub0) = true then
        (at' u02 u1n).bind fun u39 =>
        if u0y.length + [u39].length ≤ 1073741824 then
          pspec_WordsOf_L1 k u02 m (u0y ++ [u39]) (wr.i64 (u1n + 1))
        else none
      else
        pspec_WordsOf_L1 k u02 m u0y (wr.i64 (u1n + 1))
    else
      some (.done u0y)
def pspec_WordsOf (k : Nat) (u0z : GTerm) (u02 : List Int) : Option ((List GIns) × (List Int)) :=
  (pspec_WordsOf_L1 k u02 k [] 0).bind fun out1 => match out1 with
  | .ret r => some r
  | .done u4m =>
    (pspec_TermOk k u0z).bind fun ub1 =>
    if (!ub1) = true then
      some ([], u4m)
    else
      (pspec_l12Words k u0z [] u4m).bind fun u54 =>
      some (u54.1, u54.2)
theorem cspec_WordsOf {k : Nat} {u0z : GTerm} {u02 : List Int} {r : (List GIns) × (List Int)} (h : pspec_WordsOf k u0z u02 = some r) : FnO Try.prog 79 [.v (.agg (GTerm.q u0z)) [], .v (.sl (List.map cI.i64 u02)) []] (.v (.tup [.sl (List.map GIns.c r.1), .sl (List.map cI.i64 r.2)]) []) [] := by
  refine FnO.of Try.func79 (rfl : Try.f79.body = some _) (Nat.le_of_ble_eq_true (by kernel_rfl)) (Nat.le_of_ble_eq_true (by kernel_rfl)) ?_
  intro w0 X0 Fin pv0 pb
  unfold pspec_WordsOf at h
  apply Wc.seq
  refine Wc.region [] [] [1, 2] [2] [] ⟨[(1, (.v (.sl (List.map cI.i64 u02)), [])), (2, (.ptr 2 0, []))], [(2, .cells (GTerm.q u0z) [])], []⟩ _ (by kernel_rfl) .nil ?_
  apply Wc.seq
  refine Wc.region [{ c := some (List.map cI.i64 []) }, { tk := [8] }] [] [1, 2, 6] [2] [] ⟨[(1, (.v (.sl (List.map cI.i64 u02)), [])), (2, (.ptr 2 0, [])), (6, (.v (.sl (List.map cI.i64 [])), [(0, .app 3)]))], [(2, .cells (GTerm.q u0z) [])], []⟩ _ (by kernel_rfl) (.cons (cl_nil cI.i64) .nil) ?_
  apply Wc.seq
  apply Wc.seq
  refine Wc.region [] [] [1, 2, 6, 7] [2] [] ⟨[(1, (.v (.sl (List.map cI.i64 u02)), [])), (2, (.ptr 2 0, [])), (6, (.v (.sl (List.map cI.i64 [])), [(0, .app 3)])), (7, (.v (.int .i64 0), []))], [(2, .cells (GTerm.q u0z) [])], []⟩ _ (by kernel_rfl) .nil ?_
  obtain ⟨out1, h280, h⟩ := obind h
  refine Wc.lastJ (fun st => ∃ (u4m : List Int), out1 = .done u4m ∧ st = ⟨[(2, (.ptr 2 0, [])), (6, (.v (.sl (List.map cI.i64 u4m)), [(0, .app 3)]))], [(2, .cells (GTerm.q u0z) [])], []⟩) ?_ ?_
  · refine Wc.block ?_
    refine Wc.loop (fun m st => ∃ (u0y : List Int) (u1n : Int), st = ⟨[(1, (.v (.sl (List.map cI.i64 u02)), [])), (2, (.ptr 2 0, [])), (6, (.v (.sl (List.map cI.i64 u0y)), [(0, .app 3)])), (7, (.v (.int .i64 u1n), []))], [(2, .cells (GTerm.q u0z) [])], []⟩ ∧ pspec_WordsOf_L1 k u02 m u0y u1n = some out1) ?_ k ⟨_, _, rfl, h280⟩
    rintro m st ⟨u0y, u1n, rfl, h280⟩
    cases m with
    | zero => exact (onone h280).elim
    | succ m =>
      apply Wc.seq
      apply Wc.seq
      refine Wc.region [{}, {}, { v := some (.int .i64 (u02.length : Int)) }] [] [1, 2, 6, 7, 12] [2] [] ⟨[(1, (.v (.sl (List.map cI.i64 u02)), [])), (2, (.ptr 2 0, [])), (6, (.v (.sl (List.map cI.i64 u0y)), [(0, .app 3)])), (7, (.v (.int .i64 u1n), [])), (12, (.v (.bool (decide (u1n < (u02.length : Int)))), []))], [(2, .cells (GTerm.q u0z) [])], []⟩ _ (by kernel_rfl) (.cons (len_obl cI.i64 u02) .nil) ?_
      rcases oif h280 with ⟨h281, h280⟩ | ⟨h281, h280⟩
      · refine Wc.condT h281 (by kernel_rfl) ?_
        refine Wc.fix (st' := ⟨[(1, (.v (.sl (List.map cI.i64 u02)), [])), (2, (.ptr 2 0, [])), (6, (.v (.sl (List.map cI.i64 u0y)), [(0, .app 3)])), (7, (.v (.int .i64 u1n), []))], [(2, .cells (GTerm.q u0z) [])], []⟩) [] [1, 2, 6, 7] [2] [] (by kernel_rfl) ?_
        refine Wc.skip ?_
        apply Wc.seq
        refine Wc.block ?_
        apply Wc.seq
        obtain ⟨uaz, h282, h280⟩ := obind h280
        obtain ⟨ub0, h283, h280⟩ := obind h280
        refine Wc.region [{}, {}, {}, { v := some (.vptr [.int .i64 uaz]) }, {}, { r := some (.v (.bool ub0) []) }] [] [1, 2, 6, 7, 21] [2] [] ⟨[(1, (.v (.sl (List.map cI.i64 u02)), [])), (2, (.ptr 2 0, [])), (6, (.v (.sl (List.map cI.i64 u0y)), [(0, .app 3)])), (7, (.v (.int .i64 u1n), [])), (21, (.v (.bool (!ub0)), []))], [(2, .cells (GTerm.q u0z) [])], []⟩ _ (by kernel_rfl) (.cons (at_obl (c := cI.i64) rfl cI.i64_len h282) (.cons (len_ok 1 [.int .i64 uaz]) (.cons (cspec_l03Has h283) .nil))) ?_
        rcases oif h280 with ⟨h284, h280⟩ | ⟨h284, h280⟩
        · refine Wc.condT h284 (by kernel_rfl) ?_
          obtain ⟨u39, h285, h280⟩ := obind h280
          obtain ⟨h286, h280⟩ := oguard h280
          refine Wc.region [{ tk := [6] }, {}, {}, { v := some (.vptr [.int .i64 u39]) }, {}, { c := some (List.map cI.i64 [u39]) }, { c := some (List.map cI.i64 (u0y ++ [u39])), tk := [22] }, { tk := [28] }] [] [1, 2, 6, 7] [2] [] ⟨[(1, (.v (.sl (List.map cI.i64 u02)), [])), (2, (.ptr 2 0, [])), (6, (.v (.sl (List.map cI.i64 (u0y ++ [u39]))), [(0, .app 3)])), (7, (.v (.int .i64 u1n), []))], [(2, .cells (GTerm.q u0z) [])], []⟩ _ (by kernel_rfl) (.cons (at_obl (c := cI.i64) rfl cI.i64_len h285) (.cons (len_ok 1 [.int .i64 u39]) (.cons (cl_cons (c := cI.i64) (x := u39) rfl (cl_nil cI.i64)) (.cons (app_re2 cI.i64 u0y [u39]) (.cons (app_leaf (c := cI.i64) (ys := [u39]) cI.i64_leaf) (.cons (app_obl2 (c := cI.i64) (xs := u0y) (ys := [u39]) cI.i64_len h286) .nil)))))) ?_
          refine Wc.region [] [] [1, 2, 6, 7] [2] [] ⟨[(1, (.v (.sl (List.map cI.i64 u02)), [])), (2, (.ptr 2 0, [])), (6, (.v (.sl (List.map cI.i64 (u0y ++ [u39]))), [(0, .app 3)])), (7, (.v (.int .i64 (wr.i64 (u1n + 1))), []))], [(2, .cells (GTerm.q u0z) [])], []⟩ _ (by kernel_rfl) .nil ?_
          exact ⟨_, Nat.lt_succ_self _, _, _, rfl, h280⟩
        · refine Wc.condF h284 (by kernel_rfl) ?_
          refine Wc.fix (st' := ⟨[(1, (.v (.sl (List.map cI.i64 u02)), [])), (2, (.ptr 2 0, [])), (6, (.v (.sl (List.map cI.i64 u0y)), [(0, .app 3)])), (7, (.v (.int .i64 u1n), []))], [(2, .cells (GTerm.q u0z) [])], []⟩) [] [1, 2, 6, 7] [2] [] (by kernel_rfl) ?_
          refine Wc.skip ?_
          refine Wc.region [] [] [1, 2, 6, 7] [2] [] ⟨[(1, (.v (.sl (List.map cI.i64 u02)), [])), (2, (.ptr 2 0, [])), (6, (.v (.sl (List.map cI.i64 u0y)), [(0, .app 3)])), (7, (.v (.int .i64 (wr.i64 (u1n + 1))), []))], [(2, .cells (GTerm.q u0z) [])], []⟩ _ (by kernel_rfl) .nil ?_
          exact ⟨_, Nat.lt_succ_self _, _, _, rfl, h280⟩
      · refine Wc.condF h281 (by kernel_rfl) ?_
        refine Wc.fix (st' := ⟨[(2, (.ptr 2 0, [])), (6, (.v (.sl (List.map cI.i64 u0y)), [(0, .app 3)]))], [(2, .cells (GTerm.q u0z) [])], []⟩) [] [2, 6] [2] [] (by kernel_rfl) ?_
        refine Wc.exit ?_
        obtain rfl := Option.some.inj h280
        exact ⟨_, rfl, rfl⟩
  · rintro st ⟨u4m, rfl, rfl⟩
    apply Wc.seq
    apply Wc.seq
    obtain ⟨ub1, h287, h⟩ := obind h
    refine Wc.region [{}, { r := some (.v (.bool ub1) []) }] [] [2, 6, 31] [2] [] ⟨[(2, (.ptr 2 0, [])), (6, (.v (.sl (List.map cI.i64 u4m)), [(0, .app 3)])), (31, (.v (.bool (!ub1)), []))], [(2, .cells (GTerm.q u0z) [])], []⟩ _ (by kernel_rfl) (.cons (cspec_TermOk h287) .nil) ?_
    rcases oif h with ⟨h288, h⟩ | ⟨h288, h⟩
    · refine Wc.condT h288 (by kernel_rfl) ?_
      apply Wc.seq
      refine Wc.region [{ c := some (List.map GIns.c []) }, { tk := [6] }, { tk := [32] }, { tk := [33] }] [] [4, 5] [] [] ⟨[(4, (.v (.sl (List.map GIns.c [])), [(0, .app 158)])), (5, (.v (.sl (List.map cI.i64 u4m)), [(0, .app 3)]))], [], []⟩ _ (by kernel_rfl) (.cons (cl_nil GIns.c) .nil) ?_
      refine Wc.fix (st' := ⟨[(4, (.v (.sl (List.map GIns.c [])), [])), (5, (.v (.sl (List.map cI.i64 u4m)), []))], [], []⟩) [.un (.t 4 0), .un (.t 5 0)] [4, 5] [] [] (by kernel_rfl) ?_
      refine Wc.ret ?_
      obtain rfl := Option.some.inj h
      exact ⟨.inl rfl, by kernel_rfl, by kernel_rfl⟩
    · refine Wc.condF h288 (by kernel_rfl) ?_
      refine Wc.fix (st' := ⟨[(2, (.ptr 2 0, [])), (6, (.v (.sl (List.map cI.i64 u4m)), [(0, .app 3)]))], [(2, .cells (GTerm.q u0z) [])], []⟩) [] [2, 6] [2] [] (by kernel_rfl) ?_
      refine Wc.skip ?_
      apply Wc.seq
      obtain ⟨u54, h289, h⟩ := obind h
      refine Wc.region [{}, { c := some (List.map GIns.c []), md := 1 }, { tk := [6] }, { tk := [35], r := some (.v (.tup [.slx, .sl (List.map cI.i64 u54.2)]) [(0, .ex 158 false (List.map GIns.c u54.1))]) }, { tk := [37] }, {}, { tk := [38] }] [] [4, 5] [] [] ⟨[(4, (.v (.slx), [(0, .ex 158 false (List.map GIns.c u54.1))])), (5, (.v (.sl (List.map cI.i64 u54.2)), []))], [], []⟩ _ (by kernel_rfl) (.cons (cl_nil GIns.c) (.cons (cspec_l12Words h289) .nil)) ?_
      refine Wc.fix (st' := ⟨[(4, (.v (.sl (List.map GIns.c u54.1)), [])), (5, (.v (.sl (List.map cI.i64 u54.2)), []))], [], []⟩) [.sh (.t 4 0)] [4, 5] [] [] (by kernel_rfl) ?_
      refine Wc.ret ?_
      obtain rfl := Option.some.inj h
      exact ⟨.inl rfl, by kernel_rfl, by kernel_rfl⟩

def pspec_l03Vars_L2 (k : Nat) (rspec_l03Vars : GTerm → (List Int) → Option (List Int)) (v8 : GTerm) : Nat → (List Int) → Int → Option (Out (List Int) (List Int))
  | 0, _, _ => none
  | m + 1, u55, u3x =>
    if (decide (u3x < (v8.gKids.length : Int))) = true then
      (at' v8.gKids u3x).bind fun u9h =>
      (rspec_l03Vars u9h u55).bind fun u9i =>
      pspec_l03Vars_L2 k rspec_l03Vars v8 m u9i (wr.i64 (u3x + 1))
    else
      some (.done u55)
def pspec_l03Vars_J1 (k : Nat) (rspec_l03Vars : GTerm → (List Int) → Option (List Int)) (v8 : GTerm) (u7e : List Int) : Option (List Int) :=
  (pspec_l03Vars_L2 k rspec_l03Vars v8 k u7e 0).bind fun out2 => match out2 with
  | .ret r => some r
  | .done u7f =>
    some u7f
def pspec_l03Vars_J3 (k : Nat) (rspec_l03Vars : GTerm → (List Int) → Option (List Int)) (u03 : List Int) (v8 : GTerm) (u9j : Bool) : Option (List Int) :=
  if u9j = true then
    if u03.length + [v8.gNum].length ≤ 1073741824 then
      pspec_l03Vars_J1 k rspec_l03Vars v8 (u03 ++ [v8.gNum])
    else none
  else
    pspec_l03Vars_J1 k rspec_l03Vars v8 u03
mutual
def pspec_l03Vars : Nat → GTerm → (List Int) → Option (List Int)
  | 0, _, _ => none
  | k + 1, v8, u03 =>
    if (v8.gKind == 1) = true then
      (pspec_l03Has k u03 v8.gNum).bind fun ub2 =>
      pspec_l03Vars_J3 k (pspec_l03Vars k) u03 v8 (!ub2)
    else
      pspec_l03Vars_J3 k (pspec_l03Vars k) u03 v8 false
end
theorem all_pspec_l03Vars : ∀ k : Nat, (∀ {v8 : GTerm} {u03 : List Int} {r : (List Int)}, pspec_l03Vars k v8 u03 = some r → FnO Try.prog 142 [.v (.agg (GTerm.q v8)) [], .v (.slx) [(0, .ex 3 false (List.map cI.i64 u03))]] (.v (.slx) [(0, .ex 3 false (List.map cI.i64 r))]) []) := by
  intro k
  induction k with
  | zero =>
    · intro v8 u03 r h
      exact (onone (by rw [pspec_l03Vars] at h; exact h)).elim
  | succ k ih =>
    have ih_pspec_l03Vars := @ih
    · intro v8 u03 r h
      rw [pspec_l03Vars] at h
      refine FnO.of Try.func142 (rfl : Try.f142.body = some _) (Nat.le_of_ble_eq_true (by kernel_rfl)) (Nat.le_of_ble_eq_true (by kernel_rfl)) ?_
      intro w0 X0 Fin pv0 pb
      apply Wc.seq
      refine Wc.region [] [] [1, 2] [2] [] ⟨[(1, (.v (.slx), [(0, .ex 3 false (List.map cI.i64 u03))])), (2, (.ptr 2 0, []))], [(2, .cells (GTerm.q v8) [])], []⟩ _ (by kernel_rfl) .nil ?_
      refine Wc.seqJ (fun st => ∃ (u7e : List Int), st = ⟨[(1, (.v (.slx), [(0, .ex 3 false (List.map cI.i64 u7e))])), (2, (.ptr 2 0, []))], [(2, .cells (GTerm.q v8) [])], []⟩ ∧ pspec_l03Vars_J1 k (pspec_l03Vars k) v8 u7e = some r) ?_ ?_
      · refine Wc.seqJ (fun st => ∃ (u9j : Bool), st = ⟨[(1, (.v (.slx), [(0, .ex 3 false (List.map cI.i64 u03))])), (2, (.ptr 2 0, [])), (15, (.v (.bool u9j), []))], [(2, .cells (GTerm.q v8) [])], []⟩ ∧ pspec_l03Vars_J3 k (pspec_l03Vars k) u03 v8 u9j = some r) ?_ ?_
        · rcases oif h with ⟨h304, h⟩ | ⟨h304, h⟩
          · obtain ⟨ub2, h305, h⟩ := obind h
            refine Wc.region [{}, {}, {}, { re := some (.bool true) }, {}, {}, {}, { r := some (.v (.bool ub2) []) }] [] [1, 2, 15] [2] [] ⟨[(1, (.v (.slx), [(0, .ex 3 false (List.map cI.i64 u03))])), (2, (.ptr 2 0, [])), (15, (.v (.bool (!ub2)), []))], [(2, .cells (GTerm.q v8) [])], []⟩ _ (by kernel_rfl) (.cons (congrArg AV.bool h304) (.cons (cspec_l03Has h305) .nil)) ?_
            exact ⟨_, rfl, h⟩
          · refine Wc.region [{}, {}, {}, { re := some (.bool false) }] [] [1, 2, 15] [2] [] ⟨[(1, (.v (.slx), [(0, .ex 3 false (List.map cI.i64 u03))])), (2, (.ptr 2 0, [])), (15, (.v (.bool false), []))], [(2, .cells (GTerm.q v8) [])], []⟩ _ (by kernel_rfl) (.cons (congrArg AV.bool h304) .nil) ?_
            exact ⟨_, rfl, h⟩
        · rintro st ⟨u9j, rfl, h⟩
          rcases oif h with ⟨h302, h⟩ | ⟨h302, h⟩
          · refine Wc.condT h302 (by kernel_rfl) ?_
            obtain ⟨h303, h⟩ := oguard h
            refine Wc.region [{ tk := [1] }, {}, {}, { c := some (List.map cI.i64 [v8.gNum]) }, { c := some (List.map cI.i64 (u03 ++ [v8.gNum])), tk := [16], md := 1 }, { tk := [20] }] [] [1, 2] [2] [] ⟨[(1, (.v (.slx), [(0, .ex 3 false (List.map cI.i64 (u03 ++ [v8.gNum])))])), (2, (.ptr 2 0, []))], [(2, .cells (GTerm.q v8) [])], []⟩ _ (by kernel_rfl) (.cons (cl_cons (c := cI.i64) (x := v8.gNum) rfl (cl_nil cI.i64)) (.cons (app_re2 cI.i64 u03 [v8.gNum]) (.cons (app_leaf (c := cI.i64) (ys := [v8.gNum]) cI.i64_leaf) (.cons (app_obl2 (c := cI.i64) (xs := u03) (ys := [v8.gNum]) cI.i64_len h303) .nil)))) ?_
            exact ⟨_, rfl, h⟩
          · refine Wc.condF h302 (by kernel_rfl) ?_
            refine Wc.fix (st' := ⟨[(1, (.v (.slx), [(0, .ex 3 false (List.map cI.i64 u03))])), (2, (.ptr 2 0, []))], [(2, .cells (GTerm.q v8) [])], []⟩) [] [1, 2] [2] [] (by kernel_rfl) ?_
            refine Wc.skip ?_
            exact ⟨_, rfl, h⟩
      · rintro st ⟨u7e, rfl, h⟩
        apply Wc.seq
        apply Wc.seq
        refine Wc.region [] [] [1, 2, 5] [2] [] ⟨[(1, (.v (.slx), [(0, .ex 3 false (List.map cI.i64 u7e))])), (2, (.ptr 2 0, [])), (5, (.v (.int .i64 0), []))], [(2, .cells (GTerm.q v8) [])], []⟩ _ (by kernel_rfl) .nil ?_
        obtain ⟨out2, h298, h⟩ := obind h
        refine Wc.lastJ (fun st => ∃ (u7f : List Int), out2 = .done u7f ∧ st = ⟨[(1, (.v (.slx), [(0, .ex 3 false (List.map cI.i64 u7f))]))], [], []⟩) ?_ ?_
        · refine Wc.block ?_
          refine Wc.loop (fun m st => ∃ (u55 : List Int) (u3x : Int), st = ⟨[(1, (.v (.slx), [(0, .ex 3 false (List.map cI.i64 u55))])), (2, (.ptr 2 0, [])), (5, (.v (.int .i64 u3x), []))], [(2, .cells (GTerm.q v8) [])], []⟩ ∧ pspec_l03Vars_L2 k (pspec_l03Vars k) v8 m u55 u3x = some out2) ?_ k ⟨_, _, rfl, h298⟩
          rintro m st ⟨u55, u3x, rfl, h298⟩
          cases m with
          | zero => exact (onone h298).elim
          | succ m =>
            apply Wc.seq
            apply Wc.seq
            refine Wc.region [{}, {}, {}, { v := some (.int .i64 (v8.gKids.length : Int)) }] [] [1, 2, 5, 25] [2] [] ⟨[(1, (.v (.slx), [(0, .ex 3 false (List.map cI.i64 u55))])), (2, (.ptr 2 0, [])), (5, (.v (.int .i64 u3x), [])), (25, (.v (.bool (decide (u3x < (v8.gKids.length : Int)))), []))], [(2, .cells (GTerm.q v8) [])], []⟩ _ (by kernel_rfl) (.cons (len_obl GTerm.c v8.gKids) .nil) ?_
            rcases oif h298 with ⟨h299, h298⟩ | ⟨h299, h298⟩
            · refine Wc.condT h299 (by kernel_rfl) ?_
              refine Wc.fix (st' := ⟨[(1, (.v (.slx), [(0, .ex 3 false (List.map cI.i64 u55))])), (2, (.ptr 2 0, [])), (5, (.v (.int .i64 u3x), []))], [(2, .cells (GTerm.q v8) [])], []⟩) [] [1, 2, 5] [2] [] (by kernel_rfl) ?_
              refine Wc.skip ?_
              apply Wc.seq
              refine Wc.block ?_
              obtain ⟨u9h, h300, h298⟩ := obind h298
              obtain ⟨u9i, h301, h298⟩ := obind h298
              refine Wc.region [{}, {}, {}, { v := some (.vptr (GTerm.q u9h)) }, {}, { tk := [1] }, { tk := [33], r := some (.v (.slx) [(0, .ex 3 false (List.map cI.i64 u9i))]) }, { tk := [34] }] [] [1, 2, 5] [2] [] ⟨[(1, (.v (.slx), [(0, .ex 3 false (List.map cI.i64 u9i))])), (2, (.ptr 2 0, [])), (5, (.v (.int .i64 u3x), []))], [(2, .cells (GTerm.q v8) [])], []⟩ _ (by kernel_rfl) (.cons (at_obl (c := GTerm.c) (GTerm.c_eq u9h) GTerm.c_len h300) (.cons (len_ok 4 (GTerm.q u9h)) (.cons (ih_pspec_l03Vars h301) .nil))) ?_
              refine Wc.region [] [] [1, 2, 5] [2] [] ⟨[(1, (.v (.slx), [(0, .ex 3 false (List.map cI.i64 u9i))])), (2, (.ptr 2 0, [])), (5, (.v (.int .i64 (wr.i64 (u3x + 1))), []))], [(2, .cells (GTerm.q v8) [])], []⟩ _ (by kernel_rfl) .nil ?_
              exact ⟨_, Nat.lt_succ_self _, _, _, rfl, h298⟩
            · refine Wc.condF h299 (by kernel_rfl) ?_
              refine Wc.fix (st' := ⟨[(1, (.v (.slx), [(0, .ex 3 false (List.map cI.i64 u55))]))], [], []⟩) [] [1] [] [] (by kernel_rfl) ?_
              refine Wc.exit ?_
              obtain rfl := Option.some.inj h298
              exact ⟨_, rfl, rfl⟩
        · rintro st ⟨u7f, rfl, rfl⟩
          apply Wc.seq
          refine Wc.region [{ tk := [1] }, { tk := [35] }] [] [4] [] [] ⟨[(4, (.v (.slx), [(0, .ex 3 false (List.map cI.i64 u7f))]))], [], []⟩ _ (by kernel_rfl) .nil ?_
          refine Wc.ret ?_
          obtain rfl := Option.some.inj h
          exact ⟨.inl rfl, by kernel_rfl, by kernel_rfl⟩
theorem cspec_l03Vars {k : Nat} {v8 : GTerm} {u03 : List Int} {r : (List Int)} (h : pspec_l03Vars k v8 u03 = some r) : FnO Try.prog 142 [.v (.agg (GTerm.q v8)) [], .v (.slx) [(0, .ex 3 false (List.map cI.i64 u03))]] (.v (.slx) [(0, .ex 3 false (List.map cI.i64 r))]) [] := (all_pspec_l03Vars k) h

def pspec_VarsOf (k : Nat) (u9k : GTerm) : Option (List Int) :=
  (pspec_l03Vars k u9k []).bind fun u9l =>
  some u9l
theorem cspec_VarsOf {k : Nat} {u9k : GTerm} {r : (List Int)} (h : pspec_VarsOf k u9k = some r) : FnO Try.prog 123 [.v (.agg (GTerm.q u9k)) []] (.v (.sl (List.map cI.i64 r)) []) [] := by
  refine FnO.of Try.func123 (rfl : Try.f123.body = some _) (Nat.le_of_ble_eq_true (by kernel_rfl)) (Nat.le_of_ble_eq_true (by kernel_rfl)) ?_
  intro w0 X0 Fin pv0 pb
  unfold pspec_VarsOf at h
  apply Wc.seq
  refine Wc.region [] [] [1] [1] [] ⟨[(1, (.ptr 1 0, []))], [(1, .cells (GTerm.q u9k) [])], []⟩ _ (by kernel_rfl) .nil ?_
  apply Wc.seq
  obtain ⟨u9l, h306, h⟩ := obind h
  refine Wc.region [{}, { c := some (List.map cI.i64 []), md := 1 }, { tk := [4], r := some (.v (.slx) [(0, .ex 3 false (List.map cI.i64 u9l))]) }, { tk := [5] }] [] [2] [] [] ⟨[(2, (.v (.slx), [(0, .ex 3 false (List.map cI.i64 u9l))]))], [], []⟩ _ (by kernel_rfl) (.cons (cl_nil cI.i64) (.cons (cspec_l03Vars h306) .nil)) ?_
  refine Wc.fix (st' := ⟨[(2, (.v (.sl (List.map cI.i64 u9l)), []))], [], []⟩) [.sh (.t 2 0)] [2] [] [] (by kernel_rfl) ?_
  refine Wc.ret ?_
  obtain rfl := Option.some.inj h
  exact ⟨.inl rfl, by kernel_rfl, by kernel_rfl⟩

def pspec_l03Two (k : Nat) (u7g : ByteArray) (u56 : GTerm) (u57 : GTerm) : Option GTerm :=
  some (GTerm.mk 4 u7g 0 [u56, u57])
theorem cspec_l03Two {k : Nat} {u7g : ByteArray} {u56 : GTerm} {u57 : GTerm} {r : GTerm} (h : pspec_l03Two k u7g u56 u57 = some r) : FnO Try.prog 157 [.v (.str u7g) [], .v (.agg (GTerm.q u56)) [], .v (.agg (GTerm.q u57)) []] (.v (.agg (GTerm.q r)) [(3, .app 42)]) [] := by
  refine FnO.of Try.func157 (rfl : Try.f157.body = some _) (Nat.le_of_ble_eq_true (by kernel_rfl)) (Nat.le_of_ble_eq_true (by kernel_rfl)) ?_
  intro w0 X0 Fin pv0 pb
  unfold pspec_l03Two at h
  apply Wc.seq
  refine Wc.region [] [] [0, 4, 5, 6] [4, 5, 6] [] ⟨[(0, (.v (.str u7g), [])), (4, (.ptr 4 0, [])), (5, (.ptr 5 0, [])), (6, (.ptr 6 0, []))], [(4, .cells (GTerm.q u56) []), (5, .cells (GTerm.q u57) []), (6, .cells [.int .i64 0, .str (bs []), .int .i64 0, .sl (List.map GTerm.c [])] [(3, .app 42)])], []⟩ _ (by kernel_rfl) .nil ?_
  apply Wc.seq
  refine Wc.region [{}, {}, {}, { c := some (List.map GTerm.c [u56, u57]) }, { tk := [10] }, { tk := [11] }] [] [6] [6] [] ⟨[(6, (.ptr 6 0, []))], [(6, .cells [.int .i64 4, .str u7g, .int .i64 0, .sl (List.map GTerm.c [u56, u57])] [(3, .app 42)])], []⟩ _ (by kernel_rfl) (.cons (cl_cons (c := GTerm.c) (x := u56) (GTerm.c_eq u56) (cl_cons (c := GTerm.c) (x := u57) (GTerm.c_eq u57) (cl_nil GTerm.c))) .nil) ?_
  refine Wc.ret ?_
  obtain rfl := Option.some.inj h
  exact ⟨.inl rfl, by kernel_rfl, by kernel_rfl⟩

def pspec_l08ClauseTermRaw (k : Nat) (u7h : GClause) : Option GTerm :=
  (pspec_l03Two k (bs [58, 45]) u7h.gHead u7h.gBody).bind fun ub3 =>
  some ub3
theorem cspec_l08ClauseTermRaw {k : Nat} {u7h : GClause} {r : GTerm} (h : pspec_l08ClauseTermRaw k u7h = some r) : FnO Try.prog 143 [.v (.agg (GClause.q u7h)) []] (.v (.agg (GTerm.q r)) [(3, .app 42)]) [] := by
  refine FnO.of Try.func143 (rfl : Try.f143.body = some _) (Nat.le_of_ble_eq_true (by kernel_rfl)) (Nat.le_of_ble_eq_true (by kernel_rfl)) ?_
  intro w0 X0 Fin pv0 pb
  unfold pspec_l08ClauseTermRaw at h
  apply Wc.seq
  refine Wc.region [] [] [1, 2] [1, 2] [] ⟨[(1, (.ptr 1 0, [])), (2, (.ptr 2 0, []))], [(1, .cells (GClause.q u7h) []), (2, .cells [.int .i64 0, .str (bs []), .int .i64 0, .sl (List.map GTerm.c [])] [(3, .app 42)])], []⟩ _ (by kernel_rfl) .nil ?_
  apply Wc.seq
  obtain ⟨ub3, h308, h⟩ := obind h
  refine Wc.region [{}, {}, {}, {}, { r := some (.v (.agg (GTerm.q ub3)) [(3, .app 42)]) }, { tk := [7] }] [] [2] [2] [] ⟨[(2, (.ptr 2 0, []))], [(2, .cells (GTerm.q ub3) [(3, .app 42)])], []⟩ _ (by kernel_rfl) (.cons (cspec_l03Two h308) .nil) ?_
  refine Wc.ret ?_
  obtain rfl := Option.some.inj h
  exact ⟨.inl rfl, by kernel_rfl, by kernel_rfl⟩

def pspec_l34Terms_L1 (k : Nat) (rspec_l34Term : GTerm → Option GTerm) (rspec_l34Terms : (List GTerm) → Option (List GTerm)) (u04 : List GTerm) : Nat → (List GTerm) → Int → Option (Out (List GTerm) (List GTerm))
  | 0, _, _ => none
  | m + 1, u28, u3y =>
    if (decide (u3y < (u04.length : Int))) = true then
      (at' u04 u3y).bind fun u9m =>
      (rspec_l34Term u9m).bind fun u3a =>
      if u28.length + [u3a].length ≤ 1073741824 then
        pspec_l34Terms_L1 k rspec_l34Term rspec_l34Terms u04 m (u28 ++ [u3a]) (wr.i64 (u3y + 1))
      else none
    else
      some (.done u28)
mutual
def pspec_l34Term : Nat → GTerm → Option GTerm
  | 0, _ => none
  | k + 1, u17 =>
    (pspec_l34Terms k u17.gKids).bind fun u9n =>
    some (GTerm.mk u17.gKind u17.gName u17.gNum u9n)
def pspec_l34Terms : Nat → (List GTerm) → Option (List GTerm)
  | 0, _ => none
  | k + 1, u04 =>
    (pspec_l34Terms_L1 k (pspec_l34Term k) (pspec_l34Terms k) u04 k [] 0).bind fun out1 => match out1 with
    | .ret r => some r
    | .done u7i =>
      some u7i
end
theorem all_pspec_l34Term : ∀ k : Nat, (∀ {u17 : GTerm} {r : GTerm}, pspec_l34Term k u17 = some r → FnO Try.prog 144 [.v (.agg (GTerm.q u17)) []] (.v (.agg (GTerm.q r)) [(3, .app 42)]) []) ∧
    (∀ {u04 : List GTerm} {r : (List GTerm)}, pspec_l34Terms k u04 = some r → FnO Try.prog 158 [.v (.sl (List.map GTerm.c u04)) []] (.v (.sl (List.map GTerm.c r)) [(0, .app 42)]) []) := by
  intro k
  induction k with
  | zero =>
    refine ⟨?_, ?_⟩
    · intro u17 r h
      exact (onone (by rw [pspec_l34Term] at h; exact h)).elim
    · intro u04 r h
      exact (onone (by rw [pspec_l34Terms] at h; exact h)).elim
  | succ k ih =>
    obtain ⟨ih_pspec_l34Term, ih_pspec_l34Terms⟩ := ih
    refine ⟨?_, ?_⟩
    · intro u17 r h
      rw [pspec_l34Term] at h
      refine FnO.of Try.func144 (rfl : Try.f144.body = some _) (Nat.le_of_ble_eq_true (by kernel_rfl)) (Nat.le_of_ble_eq_true (by kernel_rfl)) ?_
      intro w0 X0 Fin pv0 pb
      apply Wc.seq
      refine Wc.region [] [] [1, 2] [1, 2] [] ⟨[(1, (.ptr 1 0, [])), (2, (.ptr 2 0, []))], [(1, .cells (GTerm.q u17) []), (2, .cells [.int .i64 0, .str (bs []), .int .i64 0, .sl (List.map GTerm.c [])] [(3, .app 42)])], []⟩ _ (by kernel_rfl) .nil ?_
      apply Wc.seq
      obtain ⟨u9n, h321, h⟩ := obind h
      refine Wc.region [{}, {}, { r := some (.v (.sl (List.map GTerm.c u9n)) [(0, .app 42)]) }, {}, { tk := [5] }] [] [1, 2] [1, 2] [] ⟨[(1, (.ptr 1 0, [])), (2, (.ptr 2 0, []))], [(1, .cells [.int .i64 u17.gKind, .str u17.gName, .int .i64 u17.gNum, .sl (List.map GTerm.c u9n)] [(3, .app 42)]), (2, .cells [.int .i64 0, .str (bs []), .int .i64 0, .sl (List.map GTerm.c [])] [(3, .app 42)])], []⟩ _ (by kernel_rfl) (.cons (ih_pspec_l34Terms h321) .nil) ?_
      apply Wc.seq
      refine Wc.region [{ md := 1 }, { tk := [7] }] [] [2] [2] [] ⟨[(2, (.ptr 2 0, []))], [(2, .cells [.int .i64 u17.gKind, .str u17.gName, .int .i64 u17.gNum, .sl (List.map GTerm.c u9n)] [(3, .app 42)])], []⟩ _ (by kernel_rfl) .nil ?_
      refine Wc.ret ?_
      obtain rfl := Option.some.inj h
      exact ⟨.inl rfl, by kernel_rfl, by kernel_rfl⟩
    · intro u04 r h
      rw [pspec_l34Terms] at h
      refine FnO.of Try.func158 (rfl : Try.f158.body = some _) (Nat.le_of_ble_eq_true (by kernel_rfl)) (Nat.le_of_ble_eq_true (by kernel_rfl)) ?_
      intro w0 X0 Fin pv0 pb
      apply Wc.seq
      refine Wc.region [] [] [0] [] [] ⟨[(0, (.v (.sl (List.map GTerm.c u04)), []))], [], []⟩ _ (by kernel_rfl) .nil ?_
      apply Wc.seq
      refine Wc.region [{ c := some (List.map GTerm.c []) }, { tk := [5] }] [] [0, 3] [] [] ⟨[(0, (.v (.sl (List.map GTerm.c u04)), [])), (3, (.v (.sl (List.map GTerm.c [])), [(0, .app 42)]))], [], []⟩ _ (by kernel_rfl) (.cons (cl_nil GTerm.c) .nil) ?_
      apply Wc.seq
      apply Wc.seq
      refine Wc.region [] [] [0, 3, 4] [] [] ⟨[(0, (.v (.sl (List.map GTerm.c u04)), [])), (3, (.v (.sl (List.map GTerm.c [])), [(0, .app 42)])), (4, (.v (.int .i64 0), []))], [], []⟩ _ (by kernel_rfl) .nil ?_
      obtain ⟨out1, h322, h⟩ := obind h
      refine Wc.lastJ (fun st => ∃ (u7i : List GTerm), out1 = .done u7i ∧ st = ⟨[(3, (.v (.sl (List.map GTerm.c u7i)), [(0, .app 42)]))], [], []⟩) ?_ ?_
      · refine Wc.block ?_
        refine Wc.loop (fun m st => ∃ (u28 : List GTerm) (u3y : Int), st = ⟨[(0, (.v (.sl (List.map GTerm.c u04)), [])), (3, (.v (.sl (List.map GTerm.c u28)), [(0, .app 42)])), (4, (.v (.int .i64 u3y), []))], [], []⟩ ∧ pspec_l34Terms_L1 k (pspec_l34Term k) (pspec_l34Terms k) u04 m u28 u3y = some out1) ?_ k ⟨_, _, rfl, h322⟩
        rintro m st ⟨u28, u3y, rfl, h322⟩
        cases m with
        | zero => exact (onone h322).elim
        | succ m =>
          apply Wc.seq
          apply Wc.seq
          refine Wc.region [{}, {}, { v := some (.int .i64 (u04.length : Int)) }] [] [0, 3, 4, 9] [] [] ⟨[(0, (.v (.sl (List.map GTerm.c u04)), [])), (3, (.v (.sl (List.map GTerm.c u28)), [(0, .app 42)])), (4, (.v (.int .i64 u3y), [])), (9, (.v (.bool (decide (u3y < (u04.length : Int)))), []))], [], []⟩ _ (by kernel_rfl) (.cons (len_obl GTerm.c u04) .nil) ?_
          rcases oif h322 with ⟨h323, h322⟩ | ⟨h323, h322⟩
          · refine Wc.condT h323 (by kernel_rfl) ?_
            refine Wc.fix (st' := ⟨[(0, (.v (.sl (List.map GTerm.c u04)), [])), (3, (.v (.sl (List.map GTerm.c u28)), [(0, .app 42)])), (4, (.v (.int .i64 u3y), []))], [], []⟩) [] [0, 3, 4] [] [] (by kernel_rfl) ?_
            refine Wc.skip ?_
            apply Wc.seq
            refine Wc.block ?_
            obtain ⟨u9m, h324, h322⟩ := obind h322
            obtain ⟨u3a, h325, h322⟩ := obind h322
            obtain ⟨h326, h322⟩ := oguard h322
            refine Wc.region [{ tk := [3] }, {}, {}, { v := some (.vptr (GTerm.q u9m)) }, {}, { r := some (.v (.agg (GTerm.q u3a)) [(3, .app 42)]) }, { c := some (List.map GTerm.c [u3a]) }, { c := some (List.map GTerm.c (u28 ++ [u3a])), tk := [12] }, { tk := [19] }] [] [0, 3, 4] [] [] ⟨[(0, (.v (.sl (List.map GTerm.c u04)), [])), (3, (.v (.sl (List.map GTerm.c (u28 ++ [u3a]))), [(0, .app 42)])), (4, (.v (.int .i64 u3y), []))], [], []⟩ _ (by kernel_rfl) (.cons (at_obl (c := GTerm.c) (GTerm.c_eq u9m) GTerm.c_len h324) (.cons (len_ok 4 (GTerm.q u9m)) (.cons (ih_pspec_l34Term h325) (.cons (cl_cons (c := GTerm.c) (x := u3a) (GTerm.c_eq u3a) (cl_nil GTerm.c)) (.cons (app_re2 GTerm.c u28 [u3a]) (.cons (app_leaf (c := GTerm.c) (ys := [u3a]) GTerm.c_leaf) (.cons (app_obl2 (c := GTerm.c) (xs := u28) (ys := [u3a]) GTerm.c_len h326) .nil))))))) ?_
            refine Wc.region [] [] [0, 3, 4] [] [] ⟨[(0, (.v (.sl (List.map GTerm.c u04)), [])), (3, (.v (.sl (List.map GTerm.c (u28 ++ [u3a]))), [(0, .app 42)])), (4, (.v (.int .i64 (wr.i64 (u3y + 1))), []))], [], []⟩ _ (by kernel_rfl) .nil ?_
            exact ⟨_, Nat.lt_succ_self _, _, _, rfl, h322⟩
          · refine Wc.condF h323 (by kernel_rfl) ?_
            refine Wc.fix (st' := ⟨[(3, (.v (.sl (List.map GTerm.c u28)), [(0, .app 42)]))], [], []⟩) [] [3] [] [] (by kernel_rfl) ?_
            refine Wc.exit ?_
            obtain rfl := Option.some.inj h322
            exact ⟨_, rfl, rfl⟩
      · rintro st ⟨u7i, rfl, rfl⟩
        apply Wc.seq
        refine Wc.region [{ tk := [3] }, { tk := [20] }] [] [2] [] [] ⟨[(2, (.v (.sl (List.map GTerm.c u7i)), [(0, .app 42)]))], [], []⟩ _ (by kernel_rfl) .nil ?_
        refine Wc.ret ?_
        obtain rfl := Option.some.inj h
        exact ⟨.inl rfl, by kernel_rfl, by kernel_rfl⟩
theorem cspec_l34Term {k : Nat} {u17 : GTerm} {r : GTerm} (h : pspec_l34Term k u17 = some r) : FnO Try.prog 144 [.v (.agg (GTerm.q u17)) []] (.v (.agg (GTerm.q r)) [(3, .app 42)]) [] := (all_pspec_l34Term k).1 h
theorem cspec_l34Terms {k : Nat} {u04 : List GTerm} {r : (List GTerm)} (h : pspec_l34Terms k u04 = some r) : FnO Try.prog 158 [.v (.sl (List.map GTerm.c u04)) []] (.v (.sl (List.map GTerm.c r)) [(0, .app 42)]) [] := (all_pspec_l34Term k).2 h

def pspec_ClauseTerm (k : Nat) (u9o : GClause) : Option GTerm :=
  (pspec_l08ClauseTermRaw k u9o).bind fun ub4 =>
  (pspec_l34Term k ub4).bind fun ub5 =>
  some ub5
theorem cspec_ClauseTerm {k : Nat} {u9o : GClause} {r : GTerm} (h : pspec_ClauseTerm k u9o = some r) : FnO Try.prog 124 [.v (.agg (GClause.q u9o)) []] (.v (.agg (GTerm.q r)) [(3, .app 42)]) [] := by
  refine FnO.of Try.func124 (rfl : Try.f124.body = some _) (Nat.le_of_ble_eq_true (by kernel_rfl)) (Nat.le_of_ble_eq_true (by kernel_rfl)) ?_
  intro w0 X0 Fin pv0 pb
  unfold pspec_ClauseTerm at h
  apply Wc.seq
  refine Wc.region [] [] [1, 2] [1, 2] [] ⟨[(1, (.ptr 1 0, [])), (2, (.ptr 2 0, []))], [(1, .cells (GClause.q u9o) []), (2, .cells [.int .i64 0, .str (bs []), .int .i64 0, .sl (List.map GTerm.c [])] [(3, .app 42)])], []⟩ _ (by kernel_rfl) .nil ?_
  apply Wc.seq
  obtain ⟨ub4, h329, h⟩ := obind h
  refine Wc.region [{}, { r := some (.v (.agg (GTerm.q ub4)) [(3, .app 42)]) }, {}, { tk := [5] }] [] [2, 3] [2, 3] [] ⟨[(2, (.ptr 2 0, [])), (3, (.ptr 3 0, []))], [(2, .cells [.int .i64 0, .str (bs []), .int .i64 0, .sl (List.map GTerm.c [])] [(3, .app 42)]), (3, .cells (GTerm.q ub4) [(3, .app 42)])], []⟩ _ (by kernel_rfl) (.cons (cspec_l08ClauseTermRaw h329) .nil) ?_
  apply Wc.seq
  obtain ⟨ub5, h330, h⟩ := obind h
  refine Wc.region [{}, { r := some (.v (.agg (GTerm.q ub5)) [(3, .app 42)]) }, { tk := [7] }] [] [2] [2] [] ⟨[(2, (.ptr 2 0, []))], [(2, .cells (GTerm.q ub5) [(3, .app 42)])], []⟩ _ (by kernel_rfl) (.cons (cspec_l34Term h330) .nil) ?_
  refine Wc.ret ?_
  obtain rfl := Option.some.inj h
  exact ⟨.inl rfl, by kernel_rfl, by kernel_rfl⟩

def pspec_l11Many_L1 (k : Nat) (u0a : (List Int)) : Nat → Int → Int → Option (Out Int Int)
  | 0, _, _ => none
  | m + 1, u2s, u1o =>
    if (decide (u1o < (u0a.length : Int))) = true then
      (at' u0a u1o).bind fun u9p =>
      if (decide (u9p ≥ u2s)) = true then
        (at' u0a u1o).bind fun u7j =>
        pspec_l11Many_L1 k u0a m (wr.i64 (u7j + 1)) (wr.i64 (u1o + 1))
      else
        pspec_l11Many_L1 k u0a m u2s (wr.i64 (u1o + 1))
    else
      some (.done u2s)
def pspec_l11Many (k : Nat) (u7k : GClause) : Option Int :=
  (pspec_ClauseTerm k u7k).bind fun uc4 =>
  (pspec_VarsOf k uc4).bind fun u0a =>
  (pspec_l11Many_L1 k u0a k 0 0).bind fun out1 => match out1 with
  | .ret r => some r
  | .done u7l =>
    some u7l
theorem cspec_l11Many {k : Nat} {u7k : GClause} {r : Int} (h : pspec_l11Many k u7k = some r) : FnO Try.prog 80 [.v (.agg (GClause.q u7k)) []] (.v (.int .i64 r) []) [] := by
  refine FnO.of Try.func80 (rfl : Try.f80.body = some _) (Nat.le_of_ble_eq_true (by kernel_rfl)) (Nat.le_of_ble_eq_true (by kernel_rfl)) ?_
  intro w0 X0 Fin pv0 pb
  unfold pspec_l11Many at h
  apply Wc.seq
  refine Wc.region [] [] [1] [1] [] ⟨[(1, (.ptr 1 0, []))], [(1, .cells (GClause.q u7k) [])], []⟩ _ (by kernel_rfl) .nil ?_
  apply Wc.seq
  refine Wc.region [] [] [1, 3] [1] [] ⟨[(1, (.ptr 1 0, [])), (3, (.v (.int .i64 0), []))], [(1, .cells (GClause.q u7k) [])], []⟩ _ (by kernel_rfl) .nil ?_
  apply Wc.seq
  obtain ⟨uc4, h331, h⟩ := obind h
  obtain ⟨u0a, h332, h⟩ := obind h
  refine Wc.region [{}, { r := some (.v (.agg (GTerm.q uc4)) [(3, .app 42)]) }, { r := some (.v (.sl (List.map cI.i64 u0a)) []) }] [] [3, 4] [] [] ⟨[(3, (.v (.int .i64 0), [])), (4, (.v (.sl (List.map cI.i64 u0a)), []))], [], []⟩ _ (by kernel_rfl) (.cons (cspec_ClauseTerm h331) (.cons (cspec_VarsOf h332) .nil)) ?_
  apply Wc.seq
  apply Wc.seq
  refine Wc.region [] [] [3, 4, 5] [] [] ⟨[(3, (.v (.int .i64 0), [])), (4, (.v (.sl (List.map cI.i64 u0a)), [])), (5, (.v (.int .i64 0), []))], [], []⟩ _ (by kernel_rfl) .nil ?_
  obtain ⟨out1, h333, h⟩ := obind h
  refine Wc.lastJ (fun st => ∃ (u7l : Int), out1 = .done u7l ∧ st = ⟨[(3, (.v (.int .i64 u7l), []))], [], []⟩) ?_ ?_
  · refine Wc.block ?_
    refine Wc.loop (fun m st => ∃ (u2s : Int) (u1o : Int), st = ⟨[(3, (.v (.int .i64 u2s), [])), (4, (.v (.sl (List.map cI.i64 u0a)), [])), (5, (.v (.int .i64 u1o), []))], [], []⟩ ∧ pspec_l11Many_L1 k u0a m u2s u1o = some out1) ?_ k ⟨_, _, rfl, h333⟩
    rintro m st ⟨u2s, u1o, rfl, h333⟩
    cases m with
    | zero => exact (onone h333).elim
    | succ m =>
      apply Wc.seq
      apply Wc.seq
      refine Wc.region [{}, {}, { v := some (.int .i64 (u0a.length : Int)) }] [] [3, 4, 5, 12] [] [] ⟨[(3, (.v (.int .i64 u2s), [])), (4, (.v (.sl (List.map cI.i64 u0a)), [])), (5, (.v (.int .i64 u1o), [])), (12, (.v (.bool (decide (u1o < (u0a.length : Int)))), []))], [], []⟩ _ (by kernel_rfl) (.cons (len_obl cI.i64 u0a) .nil) ?_
      rcases oif h333 with ⟨h334, h333⟩ | ⟨h334, h333⟩
      · refine Wc.condT h334 (by kernel_rfl) ?_
        refine Wc.fix (st' := ⟨[(3, (.v (.int .i64 u2s), [])), (4, (.v (.sl (List.map cI.i64 u0a)), [])), (5, (.v (.int .i64 u1o), []))], [], []⟩) [] [3, 4, 5] [] [] (by kernel_rfl) ?_
        refine Wc.skip ?_
        apply Wc.seq
        refine Wc.block ?_
        apply Wc.seq
        obtain ⟨u9p, h335, h333⟩ := obind h333
        refine Wc.region [{}, {}, { v := some (.vptr [.int .i64 u9p]) }] [] [3, 4, 5, 20] [] [] ⟨[(3, (.v (.int .i64 u2s), [])), (4, (.v (.sl (List.map cI.i64 u0a)), [])), (5, (.v (.int .i64 u1o), [])), (20, (.v (.bool (decide (u9p ≥ u2s))), []))], [], []⟩ _ (by kernel_rfl) (.cons (at_obl (c := cI.i64) rfl cI.i64_len h335) (.cons (len_ok 1 [.int .i64 u9p]) .nil)) ?_
        rcases oif h333 with ⟨h336, h333⟩ | ⟨h336, h333⟩
        · refine Wc.condT h336 (by kernel_rfl) ?_
          obtain ⟨u7j, h337, h333⟩ := obind h333
          refine Wc.region [{}, {}, { v := some (.vptr [.int .i64 u7j]) }] [] [3, 4, 5] [] [] ⟨[(3, (.v (.int .i64 (wr.i64 (u7j + 1))), [])), (4, (.v (.sl (List.map cI.i64 u0a)), [])), (5, (.v (.int .i64 u1o), []))], [], []⟩ _ (by kernel_rfl) (.cons (at_obl (c := cI.i64) rfl cI.i64_len h337) (.cons (len_ok 1 [.int .i64 u7j]) .nil)) ?_
          refine Wc.region [] [] [3, 4, 5] [] [] ⟨[(3, (.v (.int .i64 (wr.i64 (u7j + 1))), [])), (4, (.v (.sl (List.map cI.i64 u0a)), [])), (5, (.v (.int .i64 (wr.i64 (u1o + 1))), []))], [], []⟩ _ (by kernel_rfl) .nil ?_
          exact ⟨_, Nat.lt_succ_self _, _, _, rfl, h333⟩
        · refine Wc.condF h336 (by kernel_rfl) ?_
          refine Wc.fix (st' := ⟨[(3, (.v (.int .i64 u2s), [])), (4, (.v (.sl (List.map cI.i64 u0a)), [])), (5, (.v (.int .i64 u1o), []))], [], []⟩) [] [3, 4, 5] [] [] (by kernel_rfl) ?_
          refine Wc.skip ?_
          refine Wc.region [] [] [3, 4, 5] [] [] ⟨[(3, (.v (.int .i64 u2s), [])), (4, (.v (.sl (List.map cI.i64 u0a)), [])), (5, (.v (.int .i64 (wr.i64 (u1o + 1))), []))], [], []⟩ _ (by kernel_rfl) .nil ?_
          exact ⟨_, Nat.lt_succ_self _, _, _, rfl, h333⟩
      · refine Wc.condF h334 (by kernel_rfl) ?_
        refine Wc.fix (st' := ⟨[(3, (.v (.int .i64 u2s), []))], [], []⟩) [] [3] [] [] (by kernel_rfl) ?_
        refine Wc.exit ?_
        obtain rfl := Option.some.inj h333
        exact ⟨_, rfl, rfl⟩
  · rintro st ⟨u7l, rfl, rfl⟩
    apply Wc.seq
    refine Wc.region [] [] [2] [] [] ⟨[(2, (.v (.int .i64 u7l), []))], [], []⟩ _ (by kernel_rfl) .nil ?_
    refine Wc.ret ?_
    obtain rfl := Option.some.inj h
    exact ⟨.inl rfl, by kernel_rfl, by kernel_rfl⟩

def pspec_CodeOf (k : Nat) (u2t : GClause) : Option (GCode × Bool) :=
  (pspec_TermOk k u2t.gHead).bind fun ub6 =>
  if (!ub6) = true then
    some (GCode.mk [] [] 0, false)
  else
    (pspec_TermOk k u2t.gBody).bind fun ub7 =>
    if (!ub7) = true then
      some (GCode.mk [] [] 0, false)
    else
      (pspec_WordsOf k u2t.gHead []).bind fun u58 =>
      (pspec_WordsOf k u2t.gBody u58.2).bind fun u7m =>
      (pspec_l11Many k u2t).bind fun ub8 =>
      some (GCode.mk u58.1 u7m.1 ub8, true)
theorem cspec_CodeOf {k : Nat} {u2t : GClause} {r : GCode × Bool} (h : pspec_CodeOf k u2t = some r) : FnO Try.prog 26 [.v (.agg (GClause.q u2t)) []] (.v (.tup [.agg (GCode.q r.1), .bool r.2]) []) [] := by
  refine FnO.of Try.func26 (rfl : Try.f26.body = some _) (Nat.le_of_ble_eq_true (by kernel_rfl)) (Nat.le_of_ble_eq_true (by kernel_rfl)) ?_
  intro w0 X0 Fin pv0 pb
  unfold pspec_CodeOf at h
  apply Wc.seq
  refine Wc.region [] [] [1, 2] [1, 2] [] ⟨[(1, (.ptr 1 0, [])), (2, (.ptr 2 0, []))], [(1, .cells (GClause.q u2t) []), (2, .cells [.sl (List.map GIns.c []), .sl (List.map GIns.c []), .int .i64 0] [(0, .app 158), (1, .app 158)])], []⟩ _ (by kernel_rfl) .nil ?_
  apply Wc.seq
  apply Wc.seq
  obtain ⟨ub6, h345, h⟩ := obind h
  rcases oif h with ⟨h346, h⟩ | ⟨h346, h⟩
  · refine Wc.region [{}, {}, { r := some (.v (.bool ub6) []) }, {}, { re := some (.bool true) }] [] [1, 2, 17] [1, 2] [] ⟨[(1, (.ptr 1 0, [])), (2, (.ptr 2 0, [])), (17, (.v (.bool true), []))], [(1, .cells (GClause.q u2t) []), (2, .cells [.sl (List.map GIns.c []), .sl (List.map GIns.c []), .int .i64 0] [(0, .app 158), (1, .app 158)])], []⟩ _ (by kernel_rfl) (.cons (cspec_TermOk h345) (.cons (congrArg AV.bool h346) .nil)) ?_
    refine Wc.condT rfl (by kernel_rfl) ?_
    apply Wc.seq
    refine Wc.region [{}, { tk := [18] }] [] [2, 3] [2] [] ⟨[(2, (.ptr 2 0, [])), (3, (.v (.bool false), []))], [(2, .cells [.sl (List.map GIns.c []), .sl (List.map GIns.c []), .int .i64 0] [(0, .app 158), (1, .app 158)])], []⟩ _ (by kernel_rfl) .nil ?_
    refine Wc.fix (st' := ⟨[(2, (.ptr 2 0, [])), (3, (.v (.bool false), []))], [(2, .cells [.sl (List.map GIns.c []), .sl (List.map GIns.c []), .int .i64 0] [])], []⟩) [.un (.b 2 0), .un (.b 2 1)] [2, 3] [2] [] (by kernel_rfl) ?_
    refine Wc.ret ?_
    obtain rfl := Option.some.inj h
    exact ⟨.inl rfl, by kernel_rfl, by kernel_rfl⟩
  · obtain ⟨ub7, h347, h⟩ := obind h
    refine Wc.region [{}, {}, { r := some (.v (.bool ub6) []) }, {}, { re := some (.bool false) }, {}, {}, { r := some (.v (.bool ub7) []) }] [] [1, 2, 17] [1, 2] [] ⟨[(1, (.ptr 1 0, [])), (2, (.ptr 2 0, [])), (17, (.v (.bool (!ub7)), []))], [(1, .cells (GClause.q u2t) []), (2, .cells [.sl (List.map GIns.c []), .sl (List.map GIns.c []), .int .i64 0] [(0, .app 158), (1, .app 158)])], []⟩ _ (by kernel_rfl) (.cons (cspec_TermOk h345) (.cons (congrArg AV.bool h346) (.cons (cspec_TermOk h347) .nil))) ?_
    rcases oif h with ⟨h348, h⟩ | ⟨h348, h⟩
    · refine Wc.condT h348 (by kernel_rfl) ?_
      apply Wc.seq
      refine Wc.region [{}, { tk := [18] }] [] [2, 3] [2] [] ⟨[(2, (.ptr 2 0, [])), (3, (.v (.bool false), []))], [(2, .cells [.sl (List.map GIns.c []), .sl (List.map GIns.c []), .int .i64 0] [(0, .app 158), (1, .app 158)])], []⟩ _ (by kernel_rfl) .nil ?_
      refine Wc.fix (st' := ⟨[(2, (.ptr 2 0, [])), (3, (.v (.bool false), []))], [(2, .cells [.sl (List.map GIns.c []), .sl (List.map GIns.c []), .int .i64 0] [])], []⟩) [.un (.b 2 0), .un (.b 2 1)] [2, 3] [2] [] (by kernel_rfl) ?_
      refine Wc.ret ?_
      obtain rfl := Option.some.inj h
      exact ⟨.inl rfl, by kernel_rfl, by kernel_rfl⟩
    · refine Wc.condF h348 (by kernel_rfl) ?_
      refine Wc.fix (st' := ⟨[(1, (.ptr 1 0, [])), (2, (.ptr 2 0, []))], [(1, .cells (GClause.q u2t) []), (2, .cells [.sl (List.map GIns.c []), .sl (List.map GIns.c []), .int .i64 0] [(0, .app 158), (1, .app 158)])], []⟩) [] [1, 2] [1, 2] [] (by kernel_rfl) ?_
      refine Wc.skip ?_
      apply Wc.seq
      obtain ⟨u58, h349, h⟩ := obind h
      refine Wc.region [{}, {}, { c := some (List.map cI.i64 []) }, { r := some (.v (.tup [.sl (List.map GIns.c u58.1), .sl (List.map cI.i64 u58.2)]) []) }] [] [1, 2, 4, 5] [1, 2] [] ⟨[(1, (.ptr 1 0, [])), (2, (.ptr 2 0, [])), (4, (.v (.sl (List.map GIns.c u58.1)), [])), (5, (.v (.sl (List.map cI.i64 u58.2)), []))], [(1, .cells (GClause.q u2t) []), (2, .cells [.sl (List.map GIns.c []), .sl (List.map GIns.c []), .int .i64 0] [(0, .app 158), (1, .app 158)])], []⟩ _ (by kernel_rfl) (.cons (cl_nil cI.i64) (.cons (cspec_WordsOf h349) .nil)) ?_
      apply Wc.seq
      obtain ⟨u7m, h350, h⟩ := obind h
      refine Wc.region [{}, {}, {}, { r := some (.v (.tup [.sl (List.map GIns.c u7m.1), .sl (List.map cI.i64 u7m.2)]) []) }] [] [1, 2, 4, 6] [1, 2] [] ⟨[(1, (.ptr 1 0, [])), (2, (.ptr 2 0, [])), (4, (.v (.sl (List.map GIns.c u58.1)), [])), (6, (.v (.sl (List.map GIns.c u7m.1)), []))], [(1, .cells (GClause.q u2t) []), (2, .cells [.sl (List.map GIns.c []), .sl (List.map GIns.c []), .int .i64 0] [(0, .app 158), (1, .app 158)])], []⟩ _ (by kernel_rfl) (.cons (cspec_WordsOf h350) .nil) ?_
      apply Wc.seq
      obtain ⟨ub8, h351, h⟩ := obind h
      refine Wc.region [{}, {}, {}, { r := some (.v (.int .i64 ub8) []) }] [] [2, 3] [2] [] ⟨[(2, (.ptr 2 0, [])), (3, (.v (.bool true), []))], [(2, .cells [.sl (List.map GIns.c u58.1), .sl (List.map GIns.c u7m.1), .int .i64 ub8] [])], []⟩ _ (by kernel_rfl) (.cons (cspec_l11Many h351) .nil) ?_
      refine Wc.ret ?_
      obtain rfl := Option.some.inj h
      exact ⟨.inl rfl, by kernel_rfl, by kernel_rfl⟩

def pspec_l15StoreOfRaw_L1 (k : Nat) (zc : GDb) : Nat → Int → GStore → Option (Out GStore GStore)
  | 0, _, _ => none
  | m + 1, u2u, u0k =>
    if (decide (u2u < (zc.gClauses.length : Int))) = true then
      (at' zc.gClauses u2u).bind fun u9q =>
      (pspec_CodeOf k u9q).bind fun vr =>
      (at' zc.gClauses u2u).bind fun u29 =>
      if u0k.gList.length + [GKept.mk u29 (GCode.mk vr.1.gHead vr.1.gBody vr.1.gVars) 0 0].length ≤ 1073741824 then
        pspec_l15StoreOfRaw_L1 k zc m (wr.i64 (u2u + 1)) (GStore.mk (u0k.gList ++ [GKept.mk u29 (GCode.mk vr.1.gHead vr.1.gBody vr.1.gVars) 0 0]) u0k.gOpen u0k.gNow)
      else none
    else
      some (.done u0k)
def pspec_l15StoreOfRaw (k : Nat) (zc : GDb) : Option GStore :=
  if ([] : List ByteArray).length + zc.gOpen.length ≤ 1073741824 then
    (pspec_l15StoreOfRaw_L1 k zc k 0 (GStore.mk [] zc.gOpen 1)).bind fun out1 => match out1 with
    | .ret r => some r
    | .done u7n =>
      some u7n
  else none
theorem cspec_l15StoreOfRaw {k : Nat} {zc : GDb} {r : GStore} (h : pspec_l15StoreOfRaw k zc = some r) : FnO Try.prog 101 [.v (.agg (GDb.q zc)) []] (.v (.agg (GStore.q r)) [(0, .app 128), (1, .app 9)]) [] := by
  refine FnO.of Try.func101 (rfl : Try.f101.body = some _) (Nat.le_of_ble_eq_true (by kernel_rfl)) (Nat.le_of_ble_eq_true (by kernel_rfl)) ?_
  intro w0 X0 Fin pv0 pb
  unfold pspec_l15StoreOfRaw at h
  apply Wc.seq
  refine Wc.region [] [] [1, 2] [1, 2] [] ⟨[(1, (.ptr 1 0, [])), (2, (.ptr 2 0, []))], [(1, .cells (GDb.q zc) []), (2, .cells [.sl (List.map GKept.c []), .sl (List.map cS []), .int .i64 0] [(0, .app 128), (1, .app 9)])], []⟩ _ (by kernel_rfl) .nil ?_
  apply Wc.seq
  obtain ⟨h359, h⟩ := oguard h
  refine Wc.region [{ c := some (List.map cS []) }, {}, {}, { c := some (List.map cS zc.gOpen), tk := [7] }, { tk := [10] }, {}, { tk := [11] }] [] [1, 2, 3] [1, 2, 3] [] ⟨[(1, (.ptr 1 0, [])), (2, (.ptr 2 0, [])), (3, (.ptr 3 0, []))], [(1, .cells (GDb.q zc) []), (2, .cells [.sl (List.map GKept.c []), .sl (List.map cS []), .int .i64 0] [(0, .app 128), (1, .app 9)]), (3, .cells [.sl (List.map GKept.c []), .sl (List.map cS zc.gOpen), .int .i64 1] [(0, .app 128), (1, .app 9)])], []⟩ _ (by kernel_rfl) (.cons (cl_nil cS) (.cons (app_re0 cS zc.gOpen) (.cons (app_leaf (c := cS) (ys := zc.gOpen) cS_leaf) (.cons (app_obl2 (c := cS) (xs := []) (ys := zc.gOpen) cS_len h359) .nil)))) ?_
  apply Wc.seq
  apply Wc.seq
  refine Wc.region [] [] [1, 2, 3, 4] [1, 2, 3] [] ⟨[(1, (.ptr 1 0, [])), (2, (.ptr 2 0, [])), (3, (.ptr 3 0, [])), (4, (.v (.int .i64 0), []))], [(1, .cells (GDb.q zc) []), (2, .cells [.sl (List.map GKept.c []), .sl (List.map cS []), .int .i64 0] [(0, .app 128), (1, .app 9)]), (3, .cells [.sl (List.map GKept.c []), .sl (List.map cS zc.gOpen), .int .i64 1] [(0, .app 128), (1, .app 9)])], []⟩ _ (by kernel_rfl) .nil ?_
  obtain ⟨out1, h360, h⟩ := obind h
  refine Wc.lastJ (fun st => ∃ (u7n : GStore), out1 = .done u7n ∧ st = ⟨[(2, (.ptr 2 0, [])), (3, (.ptr 3 0, []))], [(2, .cells [.sl (List.map GKept.c []), .sl (List.map cS []), .int .i64 0] [(0, .app 128), (1, .app 9)]), (3, .cells (GStore.q u7n) [(0, .app 128), (1, .app 9)])], []⟩) ?_ ?_
  · refine Wc.block ?_
    refine Wc.loop (fun m st => ∃ (u2u : Int) (u0k : GStore), st = ⟨[(1, (.ptr 1 0, [])), (2, (.ptr 2 0, [])), (3, (.ptr 3 0, [])), (4, (.v (.int .i64 u2u), []))], [(1, .cells (GDb.q zc) []), (2, .cells [.sl (List.map GKept.c []), .sl (List.map cS []), .int .i64 0] [(0, .app 128), (1, .app 9)]), (3, .cells (GStore.q u0k) [(0, .app 128), (1, .app 9)])], []⟩ ∧ pspec_l15StoreOfRaw_L1 k zc m u2u u0k = some out1) ?_ k ⟨_, _, rfl, h360⟩
    rintro m st ⟨u2u, u0k, rfl, h360⟩
    cases m with
    | zero => exact (onone h360).elim
    | succ m =>
      apply Wc.seq
      apply Wc.seq
      refine Wc.region [{}, {}, {}, { v := some (.int .i64 (zc.gClauses.length : Int)) }] [] [1, 2, 3, 4, 16] [1, 2, 3] [] ⟨[(1, (.ptr 1 0, [])), (2, (.ptr 2 0, [])), (3, (.ptr 3 0, [])), (4, (.v (.int .i64 u2u), [])), (16, (.v (.bool (decide (u2u < (zc.gClauses.length : Int)))), []))], [(1, .cells (GDb.q zc) []), (2, .cells [.sl (List.map GKept.c []), .sl (List.map cS []), .int .i64 0] [(0, .app 128), (1, .app 9)]), (3, .cells (GStore.q u0k) [(0, .app 128), (1, .app 9)])], []⟩ _ (by kernel_rfl) (.cons (len_obl GClause.c zc.gClauses) .nil) ?_
      rcases oif h360 with ⟨h361, h360⟩ | ⟨h361, h360⟩
      · refine Wc.condT h361 (by kernel_rfl) ?_
        refine Wc.fix (st' := ⟨[(1, (.ptr 1 0, [])), (2, (.ptr 2 0, [])), (3, (.ptr 3 0, [])), (4, (.v (.int .i64 u2u), []))], [(1, .cells (GDb.q zc) []), (2, .cells [.sl (List.map GKept.c []), .sl (List.map cS []), .int .i64 0] [(0, .app 128), (1, .app 9)]), (3, .cells (GStore.q u0k) [(0, .app 128), (1, .app 9)])], []⟩) [] [1, 2, 3, 4] [1, 2, 3] [] (by kernel_rfl) ?_
        refine Wc.skip ?_
        apply Wc.seq
        refine Wc.block ?_
        apply Wc.seq
        obtain ⟨u9q, h362, h360⟩ := obind h360
        obtain ⟨vr, h363, h360⟩ := obind h360
        refine Wc.region [{}, {}, {}, { v := some (.vptr (GClause.q u9q)) }, {}, { r := some (.v (.tup [.agg (GCode.q vr.1), .bool vr.2]) []) }] [] [1, 2, 3, 4, 5] [1, 2, 3, 5] [] ⟨[(1, (.ptr 1 0, [])), (2, (.ptr 2 0, [])), (3, (.ptr 3 0, [])), (4, (.v (.int .i64 u2u), [])), (5, (.ptr 5 0, []))], [(1, .cells (GDb.q zc) []), (2, .cells [.sl (List.map GKept.c []), .sl (List.map cS []), .int .i64 0] [(0, .app 128), (1, .app 9)]), (3, .cells (GStore.q u0k) [(0, .app 128), (1, .app 9)]), (5, .cells (GCode.q vr.1) [])], []⟩ _ (by kernel_rfl) (.cons (at_obl (c := GClause.c) (GClause.c_eq u9q) GClause.c_len h362) (.cons (len_ok 9 (GClause.q u9q)) (.cons (cspec_CodeOf h363) .nil))) ?_
        obtain ⟨u29, h364, h360⟩ := obind h360
        obtain ⟨h365, h360⟩ := oguard h360
        refine Wc.draw hmix [{}, { md := 1 }, {}, {}, {}, { v := some (.vptr (GClause.q u29)) }, {}, {}, {}, { c := some (List.map GKept.c [GKept.mk u29 (GCode.mk vr.1.gHead vr.1.gBody vr.1.gVars) 0 0]) }, { c := some (List.map GKept.c (u0k.gList ++ [GKept.mk u29 (GCode.mk vr.1.gHead vr.1.gBody vr.1.gVars) 0 0])), tk := [29] }, {}, { tk := [38] }] [.so 3] [1, 2, 3, 4] [1, 2, 3] [] ⟨[(1, (.ptr 1 0, [])), (2, (.ptr 2 0, [])), (3, (.ptr 3 0, [])), (4, (.v (.int .i64 u2u), []))], [(1, .cells (GDb.q zc) []), (2, .cells [.sl (List.map GKept.c []), .sl (List.map cS []), .int .i64 0] [(0, .app 128), (1, .app 9)]), (3, .cells [.sl (List.map GKept.c (u0k.gList ++ [GKept.mk u29 (GCode.mk vr.1.gHead vr.1.gBody vr.1.gVars) 0 0])), .sl (List.map cS u0k.gOpen), .int .i64 u0k.gNow] [(0, .app 128), (1, .app 9)])], []⟩ _ (by kernel_rfl) (fun X => by kernel_rfl) (.cons (at_obl (c := GClause.c) (GClause.c_eq u29) GClause.c_len h364) (.cons (len_ok 9 (GClause.q u29)) (.cons (cl_cons (c := GKept.c) (x := GKept.mk u29 (GCode.mk vr.1.gHead vr.1.gBody vr.1.gVars) 0 0) (GKept.c_eq (GKept.mk u29 (GCode.mk vr.1.gHead vr.1.gBody vr.1.gVars) 0 0)) (cl_nil GKept.c)) (.cons (app_re2 GKept.c u0k.gList [GKept.mk u29 (GCode.mk vr.1.gHead vr.1.gBody vr.1.gVars) 0 0]) (.cons (app_leaf (c := GKept.c) (ys := [GKept.mk u29 (GCode.mk vr.1.gHead vr.1.gBody vr.1.gVars) 0 0]) GKept.c_leaf) (.cons (app_obl2 (c := GKept.c) (xs := u0k.gList) (ys := [GKept.mk u29 (GCode.mk vr.1.gHead vr.1.gBody vr.1.gVars) 0 0]) GKept.c_len h365) .nil)))))) ?_
        refine Wc.region [] [] [1, 2, 3, 4] [1, 2, 3] [] ⟨[(1, (.ptr 1 0, [])), (2, (.ptr 2 0, [])), (3, (.ptr 3 0, [])), (4, (.v (.int .i64 (wr.i64 (u2u + 1))), []))], [(1, .cells (GDb.q zc) []), (2, .cells [.sl (List.map GKept.c []), .sl (List.map cS []), .int .i64 0] [(0, .app 128), (1, .app 9)]), (3, .cells [.sl (List.map GKept.c (u0k.gList ++ [GKept.mk u29 (GCode.mk vr.1.gHead vr.1.gBody vr.1.gVars) 0 0])), .sl (List.map cS u0k.gOpen), .int .i64 u0k.gNow] [(0, .app 128), (1, .app 9)])], []⟩ _ (by kernel_rfl) .nil ?_
        exact ⟨_, Nat.lt_succ_self _, _, _, rfl, h360⟩
      · refine Wc.condF h361 (by kernel_rfl) ?_
        refine Wc.fix (st' := ⟨[(2, (.ptr 2 0, [])), (3, (.ptr 3 0, []))], [(2, .cells [.sl (List.map GKept.c []), .sl (List.map cS []), .int .i64 0] [(0, .app 128), (1, .app 9)]), (3, .cells (GStore.q u0k) [(0, .app 128), (1, .app 9)])], []⟩) [] [2, 3] [2, 3] [] (by kernel_rfl) ?_
        refine Wc.exit ?_
        obtain rfl := Option.some.inj h360
        exact ⟨_, rfl, rfl⟩
  · rintro st ⟨u7n, rfl, rfl⟩
    apply Wc.seq
    refine Wc.region [{ md := 1 }, { tk := [40] }] [] [2] [2] [] ⟨[(2, (.ptr 2 0, []))], [(2, .cells (GStore.q u7n) [(0, .app 128), (1, .app 9)])], []⟩ _ (by kernel_rfl) .nil ?_
    refine Wc.ret ?_
    obtain rfl := Option.some.inj h
    exact ⟨.inl rfl, by kernel_rfl, by kernel_rfl⟩

def pspec_l34Strings (k : Nat) (u48 : List ByteArray) : Option (List ByteArray) :=
  if ([] : List ByteArray).length + u48.length ≤ 1073741824 then
    some u48
  else none
theorem cspec_l34Strings {k : Nat} {u48 : List ByteArray} {r : (List ByteArray)} (h : pspec_l34Strings k u48 = some r) : FnO Try.prog 105 [.v (.sl (List.map cS u48)) []] (.v (.sl (List.map cS r)) [(0, .app 9)]) [] := by
  refine FnO.of Try.func105 (rfl : Try.f105.body = some _) (Nat.le_of_ble_eq_true (by kernel_rfl)) (Nat.le_of_ble_eq_true (by kernel_rfl)) ?_
  intro w0 X0 Fin pv0 pb
  unfold pspec_l34Strings at h
  apply Wc.seq
  refine Wc.region [] [] [0] [] [] ⟨[(0, (.v (.sl (List.map cS u48)), []))], [], []⟩ _ (by kernel_rfl) .nil ?_
  apply Wc.seq
  obtain ⟨h367, h⟩ := oguard h
  refine Wc.region [{ c := some (List.map cS []) }, {}, { c := some (List.map cS u48), tk := [3] }, { tk := [5] }] [] [2] [] [] ⟨[(2, (.v (.sl (List.map cS u48)), [(0, .app 9)]))], [], []⟩ _ (by kernel_rfl) (.cons (cl_nil cS) (.cons (app_re0 cS u48) (.cons (app_leaf (c := cS) (ys := u48) cS_leaf) (.cons (app_obl2 (c := cS) (xs := []) (ys := u48) cS_len h367) .nil)))) ?_
  refine Wc.ret ?_
  obtain rfl := Option.some.inj h
  exact ⟨.inl rfl, by kernel_rfl, by kernel_rfl⟩

def pspec_l34Clause (k : Nat) (u2v : GClause) : Option GClause :=
  (pspec_l34Term k u2v.gHead).bind fun u2a =>
  (pspec_l34Term k u2v.gBody).bind fun u49 =>
  some (GClause.mk u2a u49 u2v.gFile)
theorem cspec_l34Clause {k : Nat} {u2v : GClause} {r : GClause} (h : pspec_l34Clause k u2v = some r) : FnO Try.prog 139 [.v (.agg (GClause.q u2v)) []] (.v (.agg (GClause.q r)) [(3, .app 42), (7, .app 42)]) [] := by
  refine FnO.of Try.func139 (rfl : Try.f139.body = some _) (Nat.le_of_ble_eq_true (by kernel_rfl)) (Nat.le_of_ble_eq_true (by kernel_rfl)) ?_
  intro w0 X0 Fin pv0 pb
  unfold pspec_l34Clause at h
  apply Wc.seq
  refine Wc.region [] [] [1, 2] [1, 2] [] ⟨[(1, (.ptr 1 0, [])), (2, (.ptr 2 0, []))], [(1, .cells (GClause.q u2v) []), (2, .cells [.int .i64 0, .str (bs []), .int .i64 0, .sl (List.map GTerm.c []), .int .i64 0, .str (bs []), .int .i64 0, .sl (List.map GTerm.c []), .str (bs [])] [(3, .app 42), (7, .app 42)])], []⟩ _ (by kernel_rfl) .nil ?_
  apply Wc.seq
  obtain ⟨u2a, h370, h⟩ := obind h
  refine Wc.region [{}, {}, { r := some (.v (.agg (GTerm.q u2a)) [(3, .app 42)]) }, {}, { tk := [5] }] [] [1, 2] [1, 2] [] ⟨[(1, (.ptr 1 0, [])), (2, (.ptr 2 0, []))], [(1, .cells [.int .i64 u2a.gKind, .str u2a.gName, .int .i64 u2a.gNum, .sl (List.map GTerm.c u2a.gKids), .int .i64 u2v.gBody.gKind, .str u2v.gBody.gName, .int .i64 u2v.gBody.gNum, .sl (List.map GTerm.c u2v.gBody.gKids), .str u2v.gFile] [(3, .app 42)]), (2, .cells [.int .i64 0, .str (bs []), .int .i64 0, .sl (List.map GTerm.c []), .int .i64 0, .str (bs []), .int .i64 0, .sl (List.map GTerm.c []), .str (bs [])] [(3, .app 42), (7, .app 42)])], []⟩ _ (by kernel_rfl) (.cons (cspec_l34Term h370) .nil) ?_
  apply Wc.seq
  obtain ⟨u49, h371, h⟩ := obind h
  refine Wc.region [{}, {}, { r := some (.v (.agg (GTerm.q u49)) [(3, .app 42)]) }, {}, { tk := [9] }] [] [1, 2] [1, 2] [] ⟨[(1, (.ptr 1 0, [])), (2, (.ptr 2 0, []))], [(1, .cells [.int .i64 u2a.gKind, .str u2a.gName, .int .i64 u2a.gNum, .sl (List.map GTerm.c u2a.gKids), .int .i64 u49.gKind, .str u49.gName, .int .i64 u49.gNum, .sl (List.map GTerm.c u49.gKids), .str u2v.gFile] [(3, .app 42), (7, .app 42)]), (2, .cells [.int .i64 0, .str (bs []), .int .i64 0, .sl (List.map GTerm.c []), .int .i64 0, .str (bs []), .int .i64 0, .sl (List.map GTerm.c []), .str (bs [])] [(3, .app 42), (7, .app 42)])], []⟩ _ (by kernel_rfl) (.cons (cspec_l34Term h371) .nil) ?_
  apply Wc.seq
  refine Wc.region [{ md := 1 }, { tk := [11] }] [] [2] [2] [] ⟨[(2, (.ptr 2 0, []))], [(2, .cells [.int .i64 u2a.gKind, .str u2a.gName, .int .i64 u2a.gNum, .sl (List.map GTerm.c u2a.gKids), .int .i64 u49.gKind, .str u49.gName, .int .i64 u49.gNum, .sl (List.map GTerm.c u49.gKids), .str u2v.gFile] [(3, .app 42), (7, .app 42)])], []⟩ _ (by kernel_rfl) .nil ?_
  refine Wc.ret ?_
  obtain rfl := Option.some.inj h
  exact ⟨.inl rfl, by kernel_rfl, by kernel_rfl⟩

def pspec_l34Inss (k : Nat) (u4a : List GIns) : Option (List GIns) :=
  if ([] : List GIns).length + u4a.length ≤ 1073741824 then
    some u4a
  else none
theorem cspec_l34Inss {k : Nat} {u4a : List GIns} {r : (List GIns)} (h : pspec_l34Inss k u4a = some r) : FnO Try.prog 164 [.v (.sl (List.map GIns.c u4a)) []] (.v (.sl (List.map GIns.c r)) [(0, .app 158)]) [] := by
  refine FnO.of Try.func164 (rfl : Try.f164.body = some _) (Nat.le_of_ble_eq_true (by kernel_rfl)) (Nat.le_of_ble_eq_true (by kernel_rfl)) ?_
  intro w0 X0 Fin pv0 pb
  unfold pspec_l34Inss at h
  apply Wc.seq
  refine Wc.region [] [] [0] [] [] ⟨[(0, (.v (.sl (List.map GIns.c u4a)), []))], [], []⟩ _ (by kernel_rfl) .nil ?_
  apply Wc.seq
  obtain ⟨h373, h⟩ := oguard h
  refine Wc.region [{ c := some (List.map GIns.c []) }, {}, { c := some (List.map GIns.c u4a), tk := [3] }, { tk := [5] }] [] [2] [] [] ⟨[(2, (.v (.sl (List.map GIns.c u4a)), [(0, .app 158)]))], [], []⟩ _ (by kernel_rfl) (.cons (cl_nil GIns.c) (.cons (app_re0 GIns.c u4a) (.cons (app_leaf (c := GIns.c) (ys := u4a) GIns.c_leaf) (.cons (app_obl2 (c := GIns.c) (xs := []) (ys := u4a) GIns.c_len h373) .nil)))) ?_
  refine Wc.ret ?_
  obtain rfl := Option.some.inj h
  exact ⟨.inl rfl, by kernel_rfl, by kernel_rfl⟩

def pspec_l34Code (k : Nat) (u4b : GCode) : Option GCode :=
  (pspec_l34Inss k u4b.gHead).bind fun u7o =>
  (pspec_l34Inss k u4b.gBody).bind fun u9r =>
  some (GCode.mk u7o u9r u4b.gVars)
theorem cspec_l34Code {k : Nat} {u4b : GCode} {r : GCode} (h : pspec_l34Code k u4b = some r) : FnO Try.prog 161 [.v (.agg (GCode.q u4b)) []] (.v (.agg (GCode.q r)) [(0, .app 158), (1, .app 158)]) [] := by
  refine FnO.of Try.func161 (rfl : Try.f161.body = some _) (Nat.le_of_ble_eq_true (by kernel_rfl)) (Nat.le_of_ble_eq_true (by kernel_rfl)) ?_
  intro w0 X0 Fin pv0 pb
  unfold pspec_l34Code at h
  apply Wc.seq
  refine Wc.region [] [] [1, 2] [1, 2] [] ⟨[(1, (.ptr 1 0, [])), (2, (.ptr 2 0, []))], [(1, .cells (GCode.q u4b) []), (2, .cells [.sl (List.map GIns.c []), .sl (List.map GIns.c []), .int .i64 0] [(0, .app 158), (1, .app 158)])], []⟩ _ (by kernel_rfl) .nil ?_
  apply Wc.seq
  obtain ⟨u7o, h376, h⟩ := obind h
  refine Wc.region [{}, {}, { r := some (.v (.sl (List.map GIns.c u7o)) [(0, .app 158)]) }, {}, { tk := [5] }] [] [1, 2] [1, 2] [] ⟨[(1, (.ptr 1 0, [])), (2, (.ptr 2 0, []))], [(1, .cells [.sl (List.map GIns.c u7o), .sl (List.map GIns.c u4b.gBody), .int .i64 u4b.gVars] [(0, .app 158)]), (2, .cells [.sl (List.map GIns.c []), .sl (List.map GIns.c []), .int .i64 0] [(0, .app 158), (1, .app 158)])], []⟩ _ (by kernel_rfl) (.cons (cspec_l34Inss h376) .nil) ?_
  apply Wc.seq
  obtain ⟨u9r, h377, h⟩ := obind h
  refine Wc.region [{}, {}, { r := some (.v (.sl (List.map GIns.c u9r)) [(0, .app 158)]) }, {}, { tk := [9] }] [] [1, 2] [1, 2] [] ⟨[(1, (.ptr 1 0, [])), (2, (.ptr 2 0, []))], [(1, .cells [.sl (List.map GIns.c u7o), .sl (List.map GIns.c u9r), .int .i64 u4b.gVars] [(0, .app 158), (1, .app 158)]), (2, .cells [.sl (List.map GIns.c []), .sl (List.map GIns.c []), .int .i64 0] [(0, .app 158), (1, .app 158)])], []⟩ _ (by kernel_rfl) (.cons (cspec_l34Inss h377) .nil) ?_
  apply Wc.seq
  refine Wc.region [{ md := 1 }, { tk := [11] }] [] [2] [2] [] ⟨[(2, (.ptr 2 0, []))], [(2, .cells [.sl (List.map GIns.c u7o), .sl (List.map GIns.c u9r), .int .i64 u4b.gVars] [(0, .app 158), (1, .app 158)])], []⟩ _ (by kernel_rfl) .nil ?_
  refine Wc.ret ?_
  obtain rfl := Option.some.inj h
  exact ⟨.inl rfl, by kernel_rfl, by kernel_rfl⟩

def pspec_l34Kept (k : Nat) (u1p : GKept) : Option GKept :=
  (pspec_l34Clause k u1p.gClause).bind fun zd =>
  (pspec_l34Code k u1p.gCode).bind fun u59 =>
  some (GKept.mk zd u59 u1p.gBorn u1p.gDied)
theorem cspec_l34Kept {k : Nat} {u1p : GKept} {r : GKept} (h : pspec_l34Kept k u1p = some r) : FnO Try.prog 155 [.v (.agg (GKept.q u1p)) []] (.v (.agg (GKept.q r)) [(3, .app 42), (7, .app 42), (9, .app 158), (10, .app 158)]) [] := by
  refine FnO.of Try.func155 (rfl : Try.f155.body = some _) (Nat.le_of_ble_eq_true (by kernel_rfl)) (Nat.le_of_ble_eq_true (by kernel_rfl)) ?_
  intro w0 X0 Fin pv0 pb
  unfold pspec_l34Kept at h
  apply Wc.seq
  refine Wc.region [] [] [1, 2] [1, 2] [] ⟨[(1, (.ptr 1 0, [])), (2, (.ptr 2 0, []))], [(1, .cells (GKept.q u1p) []), (2, .cells [.int .i64 0, .str (bs []), .int .i64 0, .sl (List.map GTerm.c []), .int .i64 0, .str (bs []), .int .i64 0, .sl (List.map GTerm.c []), .str (bs []), .sl (List.map GIns.c []), .sl (List.map GIns.c []), .int .i64 0, .int .i64 0, .int .i64 0] [(3, .app 42), (7, .app 42), (9, .app 158), (10, .app 158)])], []⟩ _ (by kernel_rfl) .nil ?_
  apply Wc.seq
  obtain ⟨zd, h380, h⟩ := obind h
  refine Wc.region [{}, {}, { r := some (.v (.agg (GClause.q zd)) [(3, .app 42), (7, .app 42)]) }, {}, { tk := [5] }] [] [1, 2] [1, 2] [] ⟨[(1, (.ptr 1 0, [])), (2, (.ptr 2 0, []))], [(1, .cells [.int .i64 zd.gHead.gKind, .str zd.gHead.gName, .int .i64 zd.gHead.gNum, .sl (List.map GTerm.c zd.gHead.gKids), .int .i64 zd.gBody.gKind, .str zd.gBody.gName, .int .i64 zd.gBody.gNum, .sl (List.map GTerm.c zd.gBody.gKids), .str zd.gFile, .sl (List.map GIns.c u1p.gCode.gHead), .sl (List.map GIns.c u1p.gCode.gBody), .int .i64 u1p.gCode.gVars, .int .i64 u1p.gBorn, .int .i64 u1p.gDied] [(3, .app 42), (7, .app 42)]), (2, .cells [.int .i64 0, .str (bs []), .int .i64 0, .sl (List.map GTerm.c []), .int .i64 0, .str (bs []), .int .i64 0, .sl (List.map GTerm.c []), .str (bs []), .sl (List.map GIns.c []), .sl (List.map GIns.c []), .int .i64 0, .int .i64 0, .int .i64 0] [(3, .app 42), (7, .app 42), (9, .app 158), (10, .app 158)])], []⟩ _ (by kernel_rfl) (.cons (cspec_l34Clause h380) .nil) ?_
  apply Wc.seq
  obtain ⟨u59, h381, h⟩ := obind h
  refine Wc.region [{}, {}, { r := some (.v (.agg (GCode.q u59)) [(0, .app 158), (1, .app 158)]) }, {}, { tk := [9] }] [] [1, 2] [1, 2] [] ⟨[(1, (.ptr 1 0, [])), (2, (.ptr 2 0, []))], [(1, .cells [.int .i64 zd.gHead.gKind, .str zd.gHead.gName, .int .i64 zd.gHead.gNum, .sl (List.map GTerm.c zd.gHead.gKids), .int .i64 zd.gBody.gKind, .str zd.gBody.gName, .int .i64 zd.gBody.gNum, .sl (List.map GTerm.c zd.gBody.gKids), .str zd.gFile, .sl (List.map GIns.c u59.gHead), .sl (List.map GIns.c u59.gBody), .int .i64 u59.gVars, .int .i64 u1p.gBorn, .int .i64 u1p.gDied] [(3, .app 42), (7, .app 42), (9, .app 158), (10, .app 158)]), (2, .cells [.int .i64 0, .str (bs []), .int .i64 0, .sl (List.map GTerm.c []), .int .i64 0, .str (bs []), .int .i64 0, .sl (List.map GTerm.c []), .str (bs []), .sl (List.map GIns.c []), .sl (List.map GIns.c []), .int .i64 0, .int .i64 0, .int .i64 0] [(3, .app 42), (7, .app 42), (9, .app 158), (10, .app 158)])], []⟩ _ (by kernel_rfl) (.cons (cspec_l34Code h381) .nil) ?_
  apply Wc.seq
  refine Wc.region [{ md := 1 }, { tk := [11] }] [] [2] [2] [] ⟨[(2, (.ptr 2 0, []))], [(2, .cells [.int .i64 zd.gHead.gKind, .str zd.gHead.gName, .int .i64 zd.gHead.gNum, .sl (List.map GTerm.c zd.gHead.gKids), .int .i64 zd.gBody.gKind, .str zd.gBody.gName, .int .i64 zd.gBody.gNum, .sl (List.map GTerm.c zd.gBody.gKids), .str zd.gFile, .sl (List.map GIns.c u59.gHead), .sl (List.map GIns.c u59.gBody), .int .i64 u59.gVars, .int .i64 u1p.gBorn, .int .i64 u1p.gDied] [(3, .app 42), (7, .app 42), (9, .app 158), (10, .app 158)])], []⟩ _ (by kernel_rfl) .nil ?_
  refine Wc.ret ?_
  obtain rfl := Option.some.inj h
  exact ⟨.inl rfl, by kernel_rfl, by kernel_rfl⟩

def pspec_l34Kepts_L1 (k : Nat) (u10 : List GKept) : Nat → (List GKept) → Int → Option (Out (List GKept) (List GKept))
  | 0, _, _ => none
  | m + 1, u2b, u3z =>
    if (decide (u3z < (u10.length : Int))) = true then
      (at' u10 u3z).bind fun u9s =>
      (pspec_l34Kept k u9s).bind fun u3b =>
      if u2b.length + [u3b].length ≤ 1073741824 then
        pspec_l34Kepts_L1 k u10 m (u2b ++ [u3b]) (wr.i64 (u3z + 1))
      else none
    else
      some (.done u2b)
def pspec_l34Kepts (k : Nat) (u10 : List GKept) : Option (List GKept) :=
  (pspec_l34Kepts_L1 k u10 k [] 0).bind fun out1 => match out1 with
  | .ret r => some r
  | .done u7p =>
    some u7p
theorem cspec_l34Kepts {k : Nat} {u10 : List GKept} {r : (List GKept)} (h : pspec_l34Kepts k u10 = some r) : FnO Try.prog 138 [.v (.sl (List.map GKept.c u10)) []] (.v (.sl (List.map GKept.c r)) [(0, .app 128)]) [] := by
  refine FnO.of Try.func138 (rfl : Try.f138.body = some _) (Nat.le_of_ble_eq_true (by kernel_rfl)) (Nat.le_of_ble_eq_true (by kernel_rfl)) ?_
  intro w0 X0 Fin pv0 pb
  unfold pspec_l34Kepts at h
  apply Wc.seq
  refine Wc.region [] [] [0] [] [] ⟨[(0, (.v (.sl (List.map GKept.c u10)), []))], [], []⟩ _ (by kernel_rfl) .nil ?_
  apply Wc.seq
  refine Wc.region [{ c := some (List.map GKept.c []) }, { tk := [5] }] [] [0, 3] [] [] ⟨[(0, (.v (.sl (List.map GKept.c u10)), [])), (3, (.v (.sl (List.map GKept.c [])), [(0, .app 128)]))], [], []⟩ _ (by kernel_rfl) (.cons (cl_nil GKept.c) .nil) ?_
  apply Wc.seq
  apply Wc.seq
  refine Wc.region [] [] [0, 3, 4] [] [] ⟨[(0, (.v (.sl (List.map GKept.c u10)), [])), (3, (.v (.sl (List.map GKept.c [])), [(0, .app 128)])), (4, (.v (.int .i64 0), []))], [], []⟩ _ (by kernel_rfl) .nil ?_
  obtain ⟨out1, h387, h⟩ := obind h
  refine Wc.lastJ (fun st => ∃ (u7p : List GKept), out1 = .done u7p ∧ st = ⟨[(3, (.v (.sl (List.map GKept.c u7p)), [(0, .app 128)]))], [], []⟩) ?_ ?_
  · refine Wc.block ?_
    refine Wc.loop (fun m st => ∃ (u2b : List GKept) (u3z : Int), st = ⟨[(0, (.v (.sl (List.map GKept.c u10)), [])), (3, (.v (.sl (List.map GKept.c u2b)), [(0, .app 128)])), (4, (.v (.int .i64 u3z), []))], [], []⟩ ∧ pspec_l34Kepts_L1 k u10 m u2b u3z = some out1) ?_ k ⟨_, _, rfl, h387⟩
    rintro m st ⟨u2b, u3z, rfl, h387⟩
    cases m with
    | zero => exact (onone h387).elim
    | succ m =>
      apply Wc.seq
      apply Wc.seq
      refine Wc.region [{}, {}, { v := some (.int .i64 (u10.length : Int)) }] [] [0, 3, 4, 9] [] [] ⟨[(0, (.v (.sl (List.map GKept.c u10)), [])), (3, (.v (.sl (List.map GKept.c u2b)), [(0, .app 128)])), (4, (.v (.int .i64 u3z), [])), (9, (.v (.bool (decide (u3z < (u10.length : Int)))), []))], [], []⟩ _ (by kernel_rfl) (.cons (len_obl GKept.c u10) .nil) ?_
      rcases oif h387 with ⟨h388, h387⟩ | ⟨h388, h387⟩
      · refine Wc.condT h388 (by kernel_rfl) ?_
        refine Wc.fix (st' := ⟨[(0, (.v (.sl (List.map GKept.c u10)), [])), (3, (.v (.sl (List.map GKept.c u2b)), [(0, .app 128)])), (4, (.v (.int .i64 u3z), []))], [], []⟩) [] [0, 3, 4] [] [] (by kernel_rfl) ?_
        refine Wc.skip ?_
        apply Wc.seq
        refine Wc.block ?_
        obtain ⟨u9s, h389, h387⟩ := obind h387
        obtain ⟨u3b, h390, h387⟩ := obind h387
        obtain ⟨h391, h387⟩ := oguard h387
        refine Wc.region [{ tk := [3] }, {}, {}, { v := some (.vptr (GKept.q u9s)) }, {}, { r := some (.v (.agg (GKept.q u3b)) [(3, .app 42), (7, .app 42), (9, .app 158), (10, .app 158)]) }, { c := some (List.map GKept.c [u3b]) }, { c := some (List.map GKept.c (u2b ++ [u3b])), tk := [12] }, { tk := [19] }] [] [0, 3, 4] [] [] ⟨[(0, (.v (.sl (List.map GKept.c u10)), [])), (3, (.v (.sl (List.map GKept.c (u2b ++ [u3b]))), [(0, .app 128)])), (4, (.v (.int .i64 u3z), []))], [], []⟩ _ (by kernel_rfl) (.cons (at_obl (c := GKept.c) (GKept.c_eq u9s) GKept.c_len h389) (.cons (len_ok 14 (GKept.q u9s)) (.cons (cspec_l34Kept h390) (.cons (cl_cons (c := GKept.c) (x := u3b) (GKept.c_eq u3b) (cl_nil GKept.c)) (.cons (app_re2 GKept.c u2b [u3b]) (.cons (app_leaf (c := GKept.c) (ys := [u3b]) GKept.c_leaf) (.cons (app_obl2 (c := GKept.c) (xs := u2b) (ys := [u3b]) GKept.c_len h391) .nil))))))) ?_
        refine Wc.region [] [] [0, 3, 4] [] [] ⟨[(0, (.v (.sl (List.map GKept.c u10)), [])), (3, (.v (.sl (List.map GKept.c (u2b ++ [u3b]))), [(0, .app 128)])), (4, (.v (.int .i64 (wr.i64 (u3z + 1))), []))], [], []⟩ _ (by kernel_rfl) .nil ?_
        exact ⟨_, Nat.lt_succ_self _, _, _, rfl, h387⟩
      · refine Wc.condF h388 (by kernel_rfl) ?_
        refine Wc.fix (st' := ⟨[(3, (.v (.sl (List.map GKept.c u2b)), [(0, .app 128)]))], [], []⟩) [] [3] [] [] (by kernel_rfl) ?_
        refine Wc.exit ?_
        obtain rfl := Option.some.inj h387
        exact ⟨_, rfl, rfl⟩
  · rintro st ⟨u7p, rfl, rfl⟩
    apply Wc.seq
    refine Wc.region [{ tk := [3] }, { tk := [20] }] [] [2] [] [] ⟨[(2, (.v (.sl (List.map GKept.c u7p)), [(0, .app 128)]))], [], []⟩ _ (by kernel_rfl) .nil ?_
    refine Wc.ret ?_
    obtain rfl := Option.some.inj h
    exact ⟨.inl rfl, by kernel_rfl, by kernel_rfl⟩

def pspec_l34Store (k : Nat) (u4c : GStore) : Option GStore :=
  (pspec_l34Kepts k u4c.gList).bind fun u7q =>
  (pspec_l34Strings k u4c.gOpen).bind fun u9t =>
  some (GStore.mk u7q u9t u4c.gNow)
theorem cspec_l34Store {k : Nat} {u4c : GStore} {r : GStore} (h : pspec_l34Store k u4c = some r) : FnO Try.prog 102 [.v (.agg (GStore.q u4c)) []] (.v (.agg (GStore.q r)) [(0, .app 128), (1, .app 9)]) [] := by
  refine FnO.of Try.func102 (rfl : Try.f102.body = some _) (Nat.le_of_ble_eq_true (by kernel_rfl)) (Nat.le_of_ble_eq_true (by kernel_rfl)) ?_
  intro w0 X0 Fin pv0 pb
  unfold pspec_l34Store at h
  apply Wc.seq
  refine Wc.region [] [] [1, 2] [1, 2] [] ⟨[(1, (.ptr 1 0, [])), (2, (.ptr 2 0, []))], [(1, .cells (GStore.q u4c) []), (2, .cells [.sl (List.map GKept.c []), .sl (List.map cS []), .int .i64 0] [(0, .app 128), (1, .app 9)])], []⟩ _ (by kernel_rfl) .nil ?_
  apply Wc.seq
  obtain ⟨u7q, h394, h⟩ := obind h
  refine Wc.region [{}, {}, { r := some (.v (.sl (List.map GKept.c u7q)) [(0, .app 128)]) }, {}, { tk := [5] }] [] [1, 2] [1, 2] [] ⟨[(1, (.ptr 1 0, [])), (2, (.ptr 2 0, []))], [(1, .cells [.sl (List.map GKept.c u7q), .sl (List.map cS u4c.gOpen), .int .i64 u4c.gNow] [(0, .app 128)]), (2, .cells [.sl (List.map GKept.c []), .sl (List.map cS []), .int .i64 0] [(0, .app 128), (1, .app 9)])], []⟩ _ (by kernel_rfl) (.cons (cspec_l34Kepts h394) .nil) ?_
  apply Wc.seq
  obtain ⟨u9t, h395, h⟩ := obind h
  refine Wc.region [{}, {}, { r := some (.v (.sl (List.map cS u9t)) [(0, .app 9)]) }, {}, { tk := [9] }] [] [1, 2] [1, 2] [] ⟨[(1, (.ptr 1 0, [])), (2, (.ptr 2 0, []))], [(1, .cells [.sl (List.map GKept.c u7q), .sl (List.map cS u9t), .int .i64 u4c.gNow] [(0, .app 128), (1, .app 9)]), (2, .cells [.sl (List.map GKept.c []), .sl (List.map cS []), .int .i64 0] [(0, .app 128), (1, .app 9)])], []⟩ _ (by kernel_rfl) (.cons (cspec_l34Strings h395) .nil) ?_
  apply Wc.seq
  refine Wc.region [{ md := 1 }, { tk := [11] }] [] [2] [2] [] ⟨[(2, (.ptr 2 0, []))], [(2, .cells [.sl (List.map GKept.c u7q), .sl (List.map cS u9t), .int .i64 u4c.gNow] [(0, .app 128), (1, .app 9)])], []⟩ _ (by kernel_rfl) .nil ?_
  refine Wc.ret ?_
  obtain rfl := Option.some.inj h
  exact ⟨.inl rfl, by kernel_rfl, by kernel_rfl⟩

def pspec_StoreOf (k : Nat) (u9u : GDb) : Option GStore :=
  (pspec_l15StoreOfRaw k u9u).bind fun ub9 =>
  (pspec_l34Store k ub9).bind fun uba =>
  some uba
theorem cspec_StoreOf {k : Nat} {u9u : GDb} {r : GStore} (h : pspec_StoreOf k u9u = some r) : FnO Try.prog 45 [.v (.agg (GDb.q u9u)) []] (.v (.agg (GStore.q r)) [(0, .app 128), (1, .app 9)]) [] := by
  refine FnO.of Try.func45 (rfl : Try.f45.body = some _) (Nat.le_of_ble_eq_true (by kernel_rfl)) (Nat.le_of_ble_eq_true (by kernel_rfl)) ?_
  intro w0 X0 Fin pv0 pb
  unfold pspec_StoreOf at h
  apply Wc.seq
  refine Wc.region [] [] [1, 2] [1, 2] [] ⟨[(1, (.ptr 1 0, [])), (2, (.ptr 2 0, []))], [(1, .cells (GDb.q u9u) []), (2, .cells [.sl (List.map GKept.c []), .sl (List.map cS []), .int .i64 0] [(0, .app 128), (1, .app 9)])], []⟩ _ (by kernel_rfl) .nil ?_
  apply Wc.seq
  obtain ⟨ub9, h398, h⟩ := obind h
  refine Wc.region [{}, { r := some (.v (.agg (GStore.q ub9)) [(0, .app 128), (1, .app 9)]) }, {}, { tk := [5] }] [] [2, 3] [2, 3] [] ⟨[(2, (.ptr 2 0, [])), (3, (.ptr 3 0, []))], [(2, .cells [.sl (List.map GKept.c []), .sl (List.map cS []), .int .i64 0] [(0, .app 128), (1, .app 9)]), (3, .cells (GStore.q ub9) [(0, .app 128), (1, .app 9)])], []⟩ _ (by kernel_rfl) (.cons (cspec_l15StoreOfRaw h398) .nil) ?_
  apply Wc.seq
  obtain ⟨uba, h399, h⟩ := obind h
  refine Wc.region [{}, { r := some (.v (.agg (GStore.q uba)) [(0, .app 128), (1, .app 9)]) }, { tk := [7] }] [] [2] [2] [] ⟨[(2, (.ptr 2 0, []))], [(2, .cells (GStore.q uba) [(0, .app 128), (1, .app 9)])], []⟩ _ (by kernel_rfl) (.cons (cspec_l34Store h399) .nil) ?_
  refine Wc.ret ?_
  obtain rfl := Option.some.inj h
  exact ⟨.inl rfl, by kernel_rfl, by kernel_rfl⟩

def pimpl_within (k : Nat) (u6d : Int) (u9v : Int) (u7r : Int) : Option Bool :=
  if (decide (u6d ≥ u9v)) = true then
    some (decide (u6d ≤ u7r))
  else
    some false
theorem cimpl_within {k : Nat} {u6d : Int} {u9v : Int} {u7r : Int} {r : Bool} (h : pimpl_within k u6d u9v u7r = some r) : FnO Try.prog 114 [.v (.int .i64 u6d) [], .v (.int .i64 u9v) [], .v (.int .i64 u7r) []] (.v (.bool r) []) [] := by
  refine FnO.of Try.func114 (rfl : Try.f114.body = some _) (Nat.le_of_ble_eq_true (by kernel_rfl)) (Nat.le_of_ble_eq_true (by kernel_rfl)) ?_
  intro w0 X0 Fin pv0 pb
  unfold pimpl_within at h
  apply Wc.seq
  refine Wc.region [] [] [0, 1, 2] [] [] ⟨[(0, (.v (.int .i64 u6d), [])), (1, (.v (.int .i64 u9v), [])), (2, (.v (.int .i64 u7r), []))], [], []⟩ _ (by kernel_rfl) .nil ?_
  apply Wc.seq
  rcases oif h with ⟨h400, h⟩ | ⟨h400, h⟩
  · refine Wc.region [{}, {}, {}, { re := some (.bool true) }] [] [6] [] [] ⟨[(6, (.v (.bool (decide (u6d ≤ u7r))), []))], [], []⟩ _ (by kernel_rfl) (.cons (congrArg AV.bool h400) .nil) ?_
    refine Wc.ret ?_
    obtain rfl := Option.some.inj h
    exact ⟨.inl rfl, by kernel_rfl, by kernel_rfl⟩
  · refine Wc.region [{}, {}, {}, { re := some (.bool false) }] [] [6] [] [] ⟨[(6, (.v (.bool false), []))], [], []⟩ _ (by kernel_rfl) (.cons (congrArg AV.bool h400) .nil) ?_
    refine Wc.ret ?_
    obtain rfl := Option.some.inj h
    exact ⟨.inl rfl, by kernel_rfl, by kernel_rfl⟩

def pimpl_nameOk_L1 (k : Nat) (zj : ByteArray) : Nat → Int → Option (Out Bool Unit)
  | 0, _ => none
  | m + 1, u07 =>
    if (decide (u07 < (zj.size : Int))) = true then
      if 0 ≤ u07 ∧ (u07).toNat < zj.size then
        (pimpl_within k (wr.i64 (bt zj u07)) 33 126).bind fun u9w =>
        if (!u9w) = true then
          some (.ret false)
        else
          if 0 ≤ u07 ∧ (u07).toNat < zj.size then
            if ((bt zj u07) == 39) = true then
              some (.ret false)
            else
              if 0 ≤ u07 ∧ (u07).toNat < zj.size then
                if ((bt zj u07) == 34) = true then
                  some (.ret false)
                else
                  pimpl_nameOk_L1 k zj m (wr.i64 (u07 + 1))
              else none
          else none
      else none
    else
      some (.done ())
def pimpl_nameOk (k : Nat) (zj : ByteArray) : Option Bool :=
  (pimpl_nameOk_L1 k zj k 0).bind fun out1 => match out1 with
  | .ret r => some r
  | .done () =>
    (pimpl_within k (zj.size : Int) 1 20).bind fun ubb =>
    some ubb
theorem cimpl_nameOk {k : Nat} {zj : ByteArray} {r : Bool} (h : pimpl_nameOk k zj = some r) : FnO Try.prog 145 [.v (.str zj) []] (.v (.bool r) []) [] := by
  refine FnO.of Try.func145 (rfl : Try.f145.body = some _) (Nat.le_of_ble_eq_true (by kernel_rfl)) (Nat.le_of_ble_eq_true (by kernel_rfl)) ?_
  intro w0 X0 Fin pv0 pb
  unfold pimpl_nameOk at h
  apply Wc.seq
  refine Wc.region [] [] [0] [] [] ⟨[(0, (.v (.str zj), []))], [], []⟩ _ (by kernel_rfl) .nil ?_
  apply Wc.seq
  apply Wc.seq
  refine Wc.region [] [] [0, 3] [] [] ⟨[(0, (.v (.str zj), [])), (3, (.v (.int .i64 0), []))], [], []⟩ _ (by kernel_rfl) .nil ?_
  obtain ⟨out1, h401, h⟩ := obind h
  refine Wc.lastJ (fun st => out1 = .done () ∧ st = ⟨[(0, (.v (.str zj), []))], [], []⟩) ?_ ?_
  · refine Wc.block ?_
    refine Wc.loop (fun m st => ∃ (u07 : Int), st = ⟨[(0, (.v (.str zj), [])), (3, (.v (.int .i64 u07), []))], [], []⟩ ∧ pimpl_nameOk_L1 k zj m u07 = some out1) ?_ k ⟨_, rfl, h401⟩
    rintro m st ⟨u07, rfl, h401⟩
    cases m with
    | zero => exact (onone h401).elim
    | succ m =>
      apply Wc.seq
      apply Wc.seq
      refine Wc.region [] [] [0, 3, 7] [] [] ⟨[(0, (.v (.str zj), [])), (3, (.v (.int .i64 u07), [])), (7, (.v (.bool (decide (u07 < (zj.size : Int)))), []))], [], []⟩ _ (by kernel_rfl) .nil ?_
      rcases oif h401 with ⟨h402, h401⟩ | ⟨h402, h401⟩
      · refine Wc.condT h402 (by kernel_rfl) ?_
        refine Wc.fix (st' := ⟨[(0, (.v (.str zj), [])), (3, (.v (.int .i64 u07), []))], [], []⟩) [] [0, 3] [] [] (by kernel_rfl) ?_
        refine Wc.skip ?_
        apply Wc.seq
        refine Wc.block ?_
        apply Wc.seq
        obtain ⟨h403, h401⟩ := oguard h401
        obtain ⟨u9w, h404, h401⟩ := obind h401
        rcases oif h401 with ⟨h405, h401⟩ | ⟨h405, h401⟩
        · refine Wc.region [{}, {}, {}, {}, { r := some (.v (.bool u9w) []) }, {}, { re := some (.bool true) }] [] [0, 3, 27] [] [] ⟨[(0, (.v (.str zj), [])), (3, (.v (.int .i64 u07), [])), (27, (.v (.bool true), []))], [], []⟩ _ (by kernel_rfl) (.cons h403 (.cons (cimpl_within h404) (.cons (congrArg AV.bool h405) .nil))) ?_
          refine Wc.condT rfl (by kernel_rfl) ?_
          apply Wc.seq
          refine Wc.region [] [] [2] [] [] ⟨[(2, (.v (.bool false), []))], [], []⟩ _ (by kernel_rfl) .nil ?_
          refine Wc.ret ?_
          obtain rfl := Option.some.inj h401
          obtain rfl := Option.some.inj h
          exact ⟨.inl rfl, by kernel_rfl, by kernel_rfl⟩
        · obtain ⟨h406, h401⟩ := oguard h401
          rcases oif h401 with ⟨h407, h401⟩ | ⟨h407, h401⟩
          · refine Wc.region [{}, {}, {}, {}, { r := some (.v (.bool u9w) []) }, {}, { re := some (.bool false) }, {}, {}, {}, {}, {}, { re := some (.bool true) }] [] [0, 3, 27] [] [] ⟨[(0, (.v (.str zj), [])), (3, (.v (.int .i64 u07), [])), (27, (.v (.bool true), []))], [], []⟩ _ (by kernel_rfl) (.cons h403 (.cons (cimpl_within h404) (.cons (congrArg AV.bool h405) (.cons h406 (.cons (congrArg AV.bool h407) .nil))))) ?_
            refine Wc.condT rfl (by kernel_rfl) ?_
            apply Wc.seq
            refine Wc.region [] [] [2] [] [] ⟨[(2, (.v (.bool false), []))], [], []⟩ _ (by kernel_rfl) .nil ?_
            refine Wc.ret ?_
            obtain rfl := Option.some.inj h401
            obtain rfl := Option.some.inj h
            exact ⟨.inl rfl, by kernel_rfl, by kernel_rfl⟩
          · obtain ⟨h408, h401⟩ := oguard h401
            refine Wc.region [{}, {}, {}, {}, { r := some (.v (.bool u9w) []) }, {}, { re := some (.bool false) }, {}, {}, {}, {}, {}, { re := some (.bool false) }] [] [0, 3, 27] [] [] ⟨[(0, (.v (.str zj), [])), (3, (.v (.int .i64 u07), [])), (27, (.v (.bool ((bt zj u07) == 34)), []))], [], []⟩ _ (by kernel_rfl) (.cons h403 (.cons (cimpl_within h404) (.cons (congrArg AV.bool h405) (.cons h406 (.cons (congrArg AV.bool h407) (.cons h408 .nil)))))) ?_
            rcases oif h401 with ⟨h409, h401⟩ | ⟨h409, h401⟩
            · refine Wc.condT h409 (by kernel_rfl) ?_
              apply Wc.seq
              refine Wc.region [] [] [2] [] [] ⟨[(2, (.v (.bool false), []))], [], []⟩ _ (by kernel_rfl) .nil ?_
              refine Wc.ret ?_
              obtain rfl := Option.some.inj h401
              obtain rfl := Option.some.inj h
              exact ⟨.inl rfl, by kernel_rfl, by kernel_rfl⟩
            · refine Wc.condF h409 (by kernel_rfl) ?_
              refine Wc.fix (st' := ⟨[(0, (.v (.str zj), [])), (3, (.v (.int .i64 u07), []))], [], []⟩) [] [0, 3] [] [] (by kernel_rfl) ?_
              refine Wc.skip ?_
              refine Wc.region [] [] [0, 3] [] [] ⟨[(0, (.v (.str zj), [])), (3, (.v (.int .i64 (wr.i64 (u07 + 1))), []))], [], []⟩ _ (by kernel_rfl) .nil ?_
              exact ⟨_, Nat.lt_succ_self _, _, rfl, h401⟩
      · refine Wc.condF h402 (by kernel_rfl) ?_
        refine Wc.fix (st' := ⟨[(0, (.v (.str zj), []))], [], []⟩) [] [0] [] [] (by kernel_rfl) ?_
        refine Wc.exit ?_
        obtain rfl := Option.some.inj h401
        exact ⟨rfl, rfl⟩
  · rintro st ⟨rfl, rfl⟩
    apply Wc.seq
    obtain ⟨ubb, h410, h⟩ := obind h
    refine Wc.region [{}, {}, { r := some (.v (.bool ubb) []) }] [] [2] [] [] ⟨[(2, (.v (.bool ubb), []))], [], []⟩ _ (by kernel_rfl) (.cons (cimpl_within h410) .nil) ?_
    refine Wc.ret ?_
    obtain rfl := Option.some.inj h
    exact ⟨.inl rfl, by kernel_rfl, by kernel_rfl⟩
end Go.Proofs.Ytgfpmdaihkdhkaa

/- What the functions do, part 2. -/
import Derived.Test.YthemaodhckmnkaaGreatDoorFna
set_option linter.unusedVariables false
set_option linter.unusedSimpArgs false
namespace Go.Proofs.YthemaodhckmnkaaGreatDoor
open Go.RowKit Go.Bv
def pspec_l06Read_atom_J3 (k : Nat) (rspec_l06Read_atom : GL06Read → Int → Option (GL06Read × GTerm × Int)) (rspec_l06Read_primary : GL06Read → Int → Option (GL06Read × GTerm × Int)) (rspec_l06Read_round : GL06Read → Option (GL06Read × GTerm)) (rspec_l06Read_row : GL06Read → Option (GL06Read × GTerm)) (rspec_l06Read_some : GL06Read → ByteArray → Option (GL06Read × GTerm)) (rspec_l06Read_term : GL06Read → Int → Option (GL06Read × GTerm)) (u2 : GL06Read) (uu : GSign) (u9k : Bool) : Option (GL06Read × GTerm × Int) :=
  if u9k = true then
    some (GL06Read.mk u2.gList u2.gAt true u2.gDeep u2.gNames, GTerm.mk 0 (bs []) 0 [], 0)
  else
    (pspec_l03Atom k uu.gText).bind fun u9l =>
    some (GL06Read.mk u2.gList (wr.i64 (u2.gAt + 1)) u2.gBad u2.gDeep u2.gNames, u9l, 0)
def pspec_l06Read_atom_J2 (k : Nat) (rspec_l06Read_atom : GL06Read → Int → Option (GL06Read × GTerm × Int)) (rspec_l06Read_primary : GL06Read → Int → Option (GL06Read × GTerm × Int)) (rspec_l06Read_round : GL06Read → Option (GL06Read × GTerm)) (rspec_l06Read_row : GL06Read → Option (GL06Read × GTerm)) (rspec_l06Read_some : GL06Read → ByteArray → Option (GL06Read × GTerm)) (rspec_l06Read_term : GL06Read → Int → Option (GL06Read × GTerm)) (u2 : GL06Read) (zb : GOp × Bool) (uu : GSign) (u9m : Bool) : Option (GL06Read × GTerm × Int) :=
  if u9m = true then
    (rspec_l06Read_term (GL06Read.mk u2.gList (wr.i64 (u2.gAt + 1)) u2.gBad u2.gDeep u2.gNames) zb.1.gRight).bind fun vr =>
    some (vr.1, GTerm.mk 4 uu.gText 0 [vr.2], zb.1.gPrio)
  else
    (pspec_InfixOf k uu.gText).bind fun u71 =>
    if zb.2 = true then
      pspec_l06Read_atom_J3 k rspec_l06Read_atom rspec_l06Read_primary rspec_l06Read_round rspec_l06Read_row rspec_l06Read_some rspec_l06Read_term u2 uu true
    else
      pspec_l06Read_atom_J3 k rspec_l06Read_atom rspec_l06Read_primary rspec_l06Read_round rspec_l06Read_row rspec_l06Read_some rspec_l06Read_term u2 uu u71.2
def pspec_l06Read_atom_J1 (k : Nat) (rspec_l06Read_atom : GL06Read → Int → Option (GL06Read × GTerm × Int)) (rspec_l06Read_primary : GL06Read → Int → Option (GL06Read × GTerm × Int)) (rspec_l06Read_round : GL06Read → Option (GL06Read × GTerm)) (rspec_l06Read_row : GL06Read → Option (GL06Read × GTerm)) (rspec_l06Read_some : GL06Read → ByteArray → Option (GL06Read × GTerm)) (rspec_l06Read_term : GL06Read → Int → Option (GL06Read × GTerm)) (uu : GSign) (u05 : Int) (u9n : Bool) (u2 : GL06Read) : Option (GL06Read × GTerm × Int) :=
  if u9n = true then
    (at' u2.gList (wr.i64 ((wr.i64 (u2.gAt + 2)) - 1))).bind fun u65 =>
    (pspec_l03Num k (wr.i64 (0 - u65.gNum))).bind fun u9o =>
    some (GL06Read.mk u2.gList (wr.i64 (u2.gAt + 2)) u2.gBad u2.gDeep u2.gNames, u9o, 0)
  else
    (pspec_PrefixOf k uu.gText).bind fun zb =>
    if zb.2 = true then
      pspec_l06Read_atom_J2 k rspec_l06Read_atom rspec_l06Read_primary rspec_l06Read_round rspec_l06Read_row rspec_l06Read_some rspec_l06Read_term u2 zb uu (decide (zb.1.gPrio ≤ u05))
    else
      pspec_l06Read_atom_J2 k rspec_l06Read_atom rspec_l06Read_primary rspec_l06Read_round rspec_l06Read_row rspec_l06Read_some rspec_l06Read_term u2 zb uu false
def pspec_l06Read_round_J1 (k : Nat) (rspec_l06Read_atom : GL06Read → Int → Option (GL06Read × GTerm × Int)) (rspec_l06Read_primary : GL06Read → Int → Option (GL06Read × GTerm × Int)) (rspec_l06Read_round : GL06Read → Option (GL06Read × GTerm)) (rspec_l06Read_row : GL06Read → Option (GL06Read × GTerm)) (rspec_l06Read_some : GL06Read → ByteArray → Option (GL06Read × GTerm)) (rspec_l06Read_term : GL06Read → Int → Option (GL06Read × GTerm)) (u9p : Bool) (va : GL06Read) : Option (GL06Read × GTerm) :=
  if u9p = true then
    (at' va.gList (wr.i64 ((wr.i64 (va.gAt + 2)) - 2))).bind fun u5g =>
    (pspec_l03Atom k u5g.gText).bind fun u9q =>
    some (GL06Read.mk va.gList (wr.i64 (va.gAt + 2)) va.gBad va.gDeep va.gNames, u9q)
  else
    (rspec_l06Read_term va 1200).bind fun u1t =>
    (pspec_l06Read_wants k u1t.1 (bs [41])).bind fun u1u =>
    some (u1u, u1t.2)
def pspec_l06Read_row_L1 (k : Nat) (rspec_l06Read_atom : GL06Read → Int → Option (GL06Read × GTerm × Int)) (rspec_l06Read_primary : GL06Read → Int → Option (GL06Read × GTerm × Int)) (rspec_l06Read_round : GL06Read → Option (GL06Read × GTerm)) (rspec_l06Read_row : GL06Read → Option (GL06Read × GTerm)) (rspec_l06Read_some : GL06Read → ByteArray → Option (GL06Read × GTerm)) (rspec_l06Read_term : GL06Read → Int → Option (GL06Read × GTerm)) (u0w : GTerm) : Nat → (List GTerm) → GL06Read → Option (Out (GL06Read × GTerm) ((List GTerm) × GTerm × GL06Read))
  | 0, _, _ => none
  | m + 1, u01, zc =>
    if (!zc.gBad) = true then
      (rspec_l06Read_term zc 999).bind fun vd =>
      if u01.length + [vd.2].length ≤ 1073741824 then
        (pspec_l06Read_mark k vd.1 (bs [93])).bind fun zl =>
        if zl.2 = true then
          some (.done (u01 ++ [vd.2], u0w, zl.1))
        else
          (pspec_l06Read_mark k zl.1 (bs [124])).bind fun u0p =>
          if u0p.2 = true then
            (rspec_l06Read_term u0p.1 999).bind fun u24 =>
            (pspec_l06Read_wants k u24.1 (bs [93])).bind fun u3q =>
            some (.done (u01 ++ [vd.2], u24.2, u3q))
          else
            (pspec_l06Read_wants k u0p.1 (bs [44])).bind fun u3r =>
            pspec_l06Read_row_L1 k rspec_l06Read_atom rspec_l06Read_primary rspec_l06Read_round rspec_l06Read_row rspec_l06Read_some rspec_l06Read_term u0w m (u01 ++ [vd.2]) u3r
      else none
    else
      some (.done (u01, u0w, zc))
def pspec_l06Read_row_L2 (k : Nat) (rspec_l06Read_atom : GL06Read → Int → Option (GL06Read × GTerm × Int)) (rspec_l06Read_primary : GL06Read → Int → Option (GL06Read × GTerm × Int)) (rspec_l06Read_round : GL06Read → Option (GL06Read × GTerm)) (rspec_l06Read_row : GL06Read → Option (GL06Read × GTerm)) (rspec_l06Read_some : GL06Read → ByteArray → Option (GL06Read × GTerm)) (rspec_l06Read_term : GL06Read → Int → Option (GL06Read × GTerm)) (u17 : List GTerm) : Nat → Int → GTerm → Option (Out (GL06Read × GTerm) GTerm)
  | 0, _, _ => none
  | m + 1, u3s, u50 =>
    if (decide (u3s ≥ 0)) = true then
      (at' u17 u3s).bind fun u9r =>
      (pspec_l03Two k (bs [46]) u9r u50).bind fun u9s =>
      pspec_l06Read_row_L2 k rspec_l06Read_atom rspec_l06Read_primary rspec_l06Read_round rspec_l06Read_row rspec_l06Read_some rspec_l06Read_term u17 m (wr.i64 (u3s - 1)) u9s
    else
      some (.done u50)
def pspec_l06Read_some_L1 (k : Nat) (rspec_l06Read_atom : GL06Read → Int → Option (GL06Read × GTerm × Int)) (rspec_l06Read_primary : GL06Read → Int → Option (GL06Read × GTerm × Int)) (rspec_l06Read_round : GL06Read → Option (GL06Read × GTerm)) (rspec_l06Read_row : GL06Read → Option (GL06Read × GTerm)) (rspec_l06Read_some : GL06Read → ByteArray → Option (GL06Read × GTerm)) (rspec_l06Read_term : GL06Read → Int → Option (GL06Read × GTerm)) : Nat → GTerm → GL06Read → Option (Out (GL06Read × GTerm) (GTerm × GL06Read))
  | 0, _, _ => none
  | m + 1, us, zd =>
    if (!zd.gBad) = true then
      (rspec_l06Read_term zd 999).bind fun un =>
      if (decide ((us.gKids.length : Int) ≥ 5)) = true then
        some (.done (us, GL06Read.mk un.1.gList un.1.gAt true un.1.gDeep un.1.gNames))
      else
        if us.gKids.length + [un.2].length ≤ 1073741824 then
          (pspec_l06Read_mark k un.1 (bs [41])).bind fun zm =>
          if zm.2 = true then
            some (.done (GTerm.mk us.gKind us.gName us.gNum (us.gKids ++ [un.2]), zm.1))
          else
            (pspec_l06Read_wants k zm.1 (bs [44])).bind fun u3t =>
            pspec_l06Read_some_L1 k rspec_l06Read_atom rspec_l06Read_primary rspec_l06Read_round rspec_l06Read_row rspec_l06Read_some rspec_l06Read_term m (GTerm.mk us.gKind us.gName us.gNum (us.gKids ++ [un.2])) u3t
        else none
    else
      some (.done (us, zd))
def pspec_l06Read_term_L2 (k : Nat) (rspec_l06Read_atom : GL06Read → Int → Option (GL06Read × GTerm × Int)) (rspec_l06Read_primary : GL06Read → Int → Option (GL06Read × GTerm × Int)) (rspec_l06Read_round : GL06Read → Option (GL06Read × GTerm)) (rspec_l06Read_row : GL06Read → Option (GL06Read × GTerm)) (rspec_l06Read_some : GL06Read → ByteArray → Option (GL06Read × GTerm)) (rspec_l06Read_term : GL06Read → Int → Option (GL06Read × GTerm)) (v6 : Int) : Nat → Int → GTerm → GL06Read → Option (Out (GL06Read × GTerm) (GTerm × GL06Read))
  | 0, _, _, _ => none
  | m + 1, u51, u0g, ze =>
    if (!ze.gBad) = true then
      (pspec_l06Read_infix k ze).bind fun ua =>
      if (!ua.2.2) = true then
        some (.done (u0g, ua.1))
      else
        if (decide (ua.2.1.gPrio > v6)) = true then
          some (.done (u0g, ua.1))
        else
          if (decide (ua.2.1.gLeft < u51)) = true then
            some (.done (u0g, ua.1))
          else
            (rspec_l06Read_term (GL06Read.mk ua.1.gList (wr.i64 (ua.1.gAt + 1)) ua.1.gBad ua.1.gDeep ua.1.gNames) ua.2.1.gRight).bind fun zt =>
            (pspec_l03Two k ua.2.1.gName u0g zt.2).bind fun u9t =>
            pspec_l06Read_term_L2 k rspec_l06Read_atom rspec_l06Read_primary rspec_l06Read_round rspec_l06Read_row rspec_l06Read_some rspec_l06Read_term v6 m ua.2.1.gPrio u9t zt.1
    else
      some (.done (u0g, ze))
def pspec_l06Read_term_J1 (k : Nat) (rspec_l06Read_atom : GL06Read → Int → Option (GL06Read × GTerm × Int)) (rspec_l06Read_primary : GL06Read → Int → Option (GL06Read × GTerm × Int)) (rspec_l06Read_round : GL06Read → Option (GL06Read × GTerm)) (rspec_l06Read_row : GL06Read → Option (GL06Read × GTerm)) (rspec_l06Read_some : GL06Read → ByteArray → Option (GL06Read × GTerm)) (rspec_l06Read_term : GL06Read → Int → Option (GL06Read × GTerm)) (ub : GL06Read) (v6 : Int) (u9u : Bool) : Option (GL06Read × GTerm) :=
  if u9u = true then
    some (GL06Read.mk ub.gList ub.gAt true (wr.i64 (ub.gDeep + 1)) ub.gNames, GTerm.mk 0 (bs []) 0 [])
  else
    (rspec_l06Read_primary (GL06Read.mk ub.gList ub.gAt ub.gBad (wr.i64 (ub.gDeep + 1)) ub.gNames) v6).bind fun u1g =>
    (pspec_l06Read_term_L2 k rspec_l06Read_atom rspec_l06Read_primary rspec_l06Read_round rspec_l06Read_row rspec_l06Read_some rspec_l06Read_term v6 k u1g.2.2 u1g.2.1 u1g.1).bind fun out2 => match out2 with
    | .ret r => some r
    | .done (u66, u06) =>
      some (GL06Read.mk u06.gList u06.gAt u06.gBad (wr.i64 (u06.gDeep - 1)) u06.gNames, u66)
mutual
def pspec_l06Read_atom : Nat → GL06Read → Int → Option (GL06Read × GTerm × Int)
  | 0, _, _ => none
  | k + 1, ul, u05 =>
    (at' ul.gList ul.gAt).bind fun uu =>
    if uu.gNear = true then
      (pspec_l06Read_some k (GL06Read.mk ul.gList (wr.i64 (ul.gAt + 2)) ul.gBad ul.gDeep ul.gNames) uu.gText).bind fun u0q =>
      some (u0q.1, u0q.2, 0)
    else
      if (sEq uu.gText (bs [45])) = true then
        (pspec_l06Read_near k ul).bind fun u2j =>
        pspec_l06Read_atom_J1 k (pspec_l06Read_atom k) (pspec_l06Read_primary k) (pspec_l06Read_round k) (pspec_l06Read_row k) (pspec_l06Read_some k) (pspec_l06Read_term k) uu u05 u2j.2 u2j.1
      else
        pspec_l06Read_atom_J1 k (pspec_l06Read_atom k) (pspec_l06Read_primary k) (pspec_l06Read_round k) (pspec_l06Read_row k) (pspec_l06Read_some k) (pspec_l06Read_term k) uu u05 false ul
def pspec_l06Read_primary : Nat → GL06Read → Int → Option (GL06Read × GTerm × Int)
  | 0, _, _ => none
  | k + 1, u0h, u45 =>
    (pspec_l06Read_is k u0h 1 (bs [])).bind fun u25 =>
    if u25.2 = true then
      (pspec_l06Read_atom k u25.1 u45).bind fun u1h =>
      some (u1h.1, u1h.2.1, u1h.2.2)
    else
      (pspec_l06Read_mark k u25.1 (bs [40])).bind fun u26 =>
      if u26.2 = true then
        (pspec_l06Read_round k u26.1).bind fun u2k =>
        some (u2k.1, u2k.2, 0)
      else
        (pspec_l06Read_mark k u26.1 (bs [91])).bind fun u27 =>
        if u27.2 = true then
          (pspec_l06Read_row k u27.1).bind fun u2l =>
          some (u2l.1, u2l.2, 0)
        else
          (pspec_l06Read_is k u27.1 3 (bs [])).bind fun v7 =>
          if v7.2 = true then
            (at' v7.1.gList (wr.i64 ((wr.i64 (v7.1.gAt + 1)) - 1))).bind fun u67 =>
            (pspec_l03Num k u67.gNum).bind fun u9v =>
            some (GL06Read.mk v7.1.gList (wr.i64 (v7.1.gAt + 1)) v7.1.gBad v7.1.gDeep v7.1.gNames, u9v, 0)
          else
            (pspec_l06Read_is k v7.1 2 (bs [])).bind fun uv =>
            if uv.2 = true then
              (at' uv.1.gList (wr.i64 ((wr.i64 (uv.1.gAt + 1)) - 1))).bind fun u5h =>
              (pspec_l06Read_variable k (GL06Read.mk uv.1.gList (wr.i64 (uv.1.gAt + 1)) uv.1.gBad uv.1.gDeep uv.1.gNames) u5h.gText).bind fun u0r =>
              some (u0r.1, u0r.2, 0)
            else
              some (GL06Read.mk uv.1.gList uv.1.gAt true uv.1.gDeep uv.1.gNames, GTerm.mk 0 (bs []) 0 [], 0)
def pspec_l06Read_round : Nat → GL06Read → Option (GL06Read × GTerm)
  | 0, _ => none
  | k + 1, u0i =>
    (pspec_l06Read_is k u0i 1 (bs [])).bind fun ug =>
    if ug.2 = true then
      if (decide ((wr.i64 (ug.1.gAt + 1)) < (ug.1.gList.length : Int))) = true then
        (at' ug.1.gList (wr.i64 (ug.1.gAt + 1))).bind fun u5i =>
        if (u5i.gKind == 4) = true then
          (at' ug.1.gList (wr.i64 (ug.1.gAt + 1))).bind fun u52 =>
          pspec_l06Read_round_J1 k (pspec_l06Read_atom k) (pspec_l06Read_primary k) (pspec_l06Read_round k) (pspec_l06Read_row k) (pspec_l06Read_some k) (pspec_l06Read_term k) (sEq u52.gText (bs [41])) ug.1
        else
          pspec_l06Read_round_J1 k (pspec_l06Read_atom k) (pspec_l06Read_primary k) (pspec_l06Read_round k) (pspec_l06Read_row k) (pspec_l06Read_some k) (pspec_l06Read_term k) false ug.1
      else
        pspec_l06Read_round_J1 k (pspec_l06Read_atom k) (pspec_l06Read_primary k) (pspec_l06Read_round k) (pspec_l06Read_row k) (pspec_l06Read_some k) (pspec_l06Read_term k) false ug.1
    else
      pspec_l06Read_round_J1 k (pspec_l06Read_atom k) (pspec_l06Read_primary k) (pspec_l06Read_round k) (pspec_l06Read_row k) (pspec_l06Read_some k) (pspec_l06Read_term k) false ug.1
def pspec_l06Read_row : Nat → GL06Read → Option (GL06Read × GTerm)
  | 0, _ => none
  | k + 1, u0j =>
    (pspec_l06Read_mark k u0j (bs [93])).bind fun v3 =>
    if v3.2 = true then
      (pspec_l03Atom k (bs [91, 93])).bind fun u9w =>
      some (v3.1, u9w)
    else
      (pspec_l03Atom k (bs [91, 93])).bind fun u0w =>
      (pspec_l06Read_row_L1 k (pspec_l06Read_atom k) (pspec_l06Read_primary k) (pspec_l06Read_round k) (pspec_l06Read_row k) (pspec_l06Read_some k) (pspec_l06Read_term k) u0w k [] v3.1).bind fun out1 => match out1 with
      | .ret r => some r
      | .done (u17, u72, uo) =>
        (pspec_l06Read_row_L2 k (pspec_l06Read_atom k) (pspec_l06Read_primary k) (pspec_l06Read_round k) (pspec_l06Read_row k) (pspec_l06Read_some k) (pspec_l06Read_term k) u17 k (wr.i64 ((u17.length : Int) - 1)) u72).bind fun out2 => match out2 with
        | .ret r => some r
        | .done u73 =>
          some (uo, u73)
def pspec_l06Read_some : Nat → GL06Read → ByteArray → Option (GL06Read × GTerm)
  | 0, _, _ => none
  | k + 1, zf, u46 =>
    (pspec_l06Read_some_L1 k (pspec_l06Read_atom k) (pspec_l06Read_primary k) (pspec_l06Read_round k) (pspec_l06Read_row k) (pspec_l06Read_some k) (pspec_l06Read_term k) k (GTerm.mk 4 u46 0 []) zf).bind fun out1 => match out1 with
    | .ret r => some r
    | .done (u74, u2v) =>
      some (u2v, u74)
def pspec_l06Read_term : Nat → GL06Read → Int → Option (GL06Read × GTerm)
  | 0, _, _ => none
  | k + 1, ub, v6 =>
    if ub.gBad = true then
      pspec_l06Read_term_J1 k (pspec_l06Read_atom k) (pspec_l06Read_primary k) (pspec_l06Read_round k) (pspec_l06Read_row k) (pspec_l06Read_some k) (pspec_l06Read_term k) ub v6 true
    else
      pspec_l06Read_term_J1 k (pspec_l06Read_atom k) (pspec_l06Read_primary k) (pspec_l06Read_round k) (pspec_l06Read_row k) (pspec_l06Read_some k) (pspec_l06Read_term k) ub v6 (decide ((wr.i64 (ub.gDeep + 1)) > 130))
end
set_option maxHeartbeats 4000000 in
theorem all_pspec_l06Read_atom : ∀ k : Nat, (∀ {ul : GL06Read} {u05 : Int} {r : GL06Read × GTerm × Int}, pspec_l06Read_atom k ul u05 = some r → FnO Tryz.prog 114 [.p (GL06Read.k2 ul) (GL06Read.h4_9f ul), .v (aI u05) []] (.v (.tup [.agg (GTerm.q r.2.1), aI r.2.2]) []) [(0, .p (GL06Read.k2 r.1) (GL06Read.h4_9f r.1))]) ∧
    (∀ {u0h : GL06Read} {u45 : Int} {r : GL06Read × GTerm × Int}, pspec_l06Read_primary k u0h u45 = some r → FnO Tryz.prog 110 [.p (GL06Read.k2 u0h) (GL06Read.h4_9f u0h), .v (aI u45) []] (.v (.tup [.agg (GTerm.q r.2.1), aI r.2.2]) []) [(0, .p (GL06Read.k2 r.1) (GL06Read.h4_9f r.1))]) ∧
    (∀ {u0i : GL06Read} {r : GL06Read × GTerm}, pspec_l06Read_round k u0i = some r → FnO Tryz.prog 116 [.p (GL06Read.k2 u0i) (GL06Read.h4_9f u0i)] (.v (.agg (GTerm.q r.2)) []) [(0, .p (GL06Read.k2 r.1) (GL06Read.h4_9f r.1))]) ∧
    (∀ {u0j : GL06Read} {r : GL06Read × GTerm}, pspec_l06Read_row k u0j = some r → FnO Tryz.prog 117 [.p (GL06Read.k2 u0j) (GL06Read.h4_9f u0j)] (.v (.agg (GTerm.q r.2)) []) [(0, .p (GL06Read.k2 r.1) (GL06Read.h4_9f r.1))]) ∧
    (∀ {zf : GL06Read} {u46 : ByteArray} {r : GL06Read × GTerm}, pspec_l06Read_some k zf u46 = some r → FnO Tryz.prog 124 [.p (GL06Read.k2 zf) (GL06Read.h4_9f zf), .v (.str u46) []] (.v (.agg (GTerm.q r.2)) [(3, .app 31)]) [(0, .p (GL06Read.k2 r.1) (GL06Read.h4_9f r.1))]) ∧
    (∀ {ub : GL06Read} {v6 : Int} {r : GL06Read × GTerm}, pspec_l06Read_term k ub v6 = some r → FnO Tryz.prog 94 [.p (GL06Read.k2 ub) (GL06Read.h4_9f ub), .v (aI v6) []] (.v (.agg (GTerm.q r.2)) []) [(0, .p (GL06Read.k2 r.1) (GL06Read.h4_9f r.1))]) := by
  intro k
  induction k with
  | zero =>
    refine ⟨?_, ?_, ?_, ?_, ?_, ?_⟩
    · intro ul u05 r h
      exact (onone (by rw [pspec_l06Read_atom] at h; exact h)).elim
    · intro u0h u45 r h
      exact (onone (by rw [pspec_l06Read_primary] at h; exact h)).elim
    · intro u0i r h
      exact (onone (by rw [pspec_l06Read_round] at h; exact h)).elim
    · intro u0j r h
      exact (onone (by rw [pspec_l06Read_row] at h; exact h)).elim
    · intro zf u46 r h
      exact (onone (by rw [pspec_l06Read_some] at h; exact h)).elim
    · intro ub v6 r h
      exact (onone (by rw [pspec_l06Read_term] at h; exact h)).elim
  | succ k ih =>
    obtain ⟨ih_pspec_l06Read_atom, ih_pspec_l06Read_primary, ih_pspec_l06Read_round, ih_pspec_l06Read_row, ih_pspec_l06Read_some, ih_pspec_l06Read_term⟩ := ih
    refine ⟨?_, ?_, ?_, ?_, ?_, ?_⟩
    · intro ul u05 r h
      rw [pspec_l06Read_atom] at h
      refine FnO.o2 Tryz.func114 (rfl : Tryz.f114.body = some _) ?_
      intro w0 X0 Fin pv0 pb gt
      apply Wc.seq
      refine Wc.r0 ⟨[tP 0 1000000, tI 1 u05, tP 4 4], [(4, .cells GTerm.z [(3, .app 31)]), (1000000, .cells (GL06Read.k2 ul) (GL06Read.h4_9f ul))], []⟩ ?_
      apply Wc.seq
      obtain ⟨uu, h493, h⟩ := obind h
      refine Wc.draw hmix [{}, {}, {}, {}, {}, {}, {}, {}, { v := some (.vptr (GSign.q uu)) }] [] [0, 1, 4, 6] [4, 6, 1000000] [] ⟨[tP 0 1000000, tI 1 u05, tP 4 4, tP 6 6], [(4, .cells GTerm.z [(3, .app 31)]), bC 6 (GSign.q uu), (1000000, .cells (GL06Read.k2 ul) (GL06Read.h4_9f ul))], []⟩ _ (by kernel_rfl) (fun X => by kernel_rfl) (.cons (at_obl (c := GSign.c) (GSign.c_eq uu) GSign.c_len h493) (.cons (len_ok 5 (GSign.q uu)) .nil)) ?_
      apply Wc.seq
      apply Wc.seq
      refine Wc.r0 ⟨[tP 0 1000000, tI 1 u05, tP 4 4, tP 6 6, tB 23 uu.gNear], [(4, .cells GTerm.z [(3, .app 31)]), bC 6 (GSign.q uu), (1000000, .cells (GL06Read.k2 ul) (GL06Read.h4_9f ul))], []⟩ ?_
      rcases oif h with ⟨h494, h⟩ | ⟨h494, h⟩
      · refine Wc.cT h494 ?_
        apply Wc.seq
        refine Wc.r0 ⟨[tP 0 1000000, tP 4 4, tP 6 6], [(4, .cells GTerm.z [(3, .app 31)]), bC 6 (GSign.q uu), (1000000, .cells [.sl (List.map GSign.c ul.gList), aI (wr.i64 (ul.gAt + 2)), .bool ul.gBad, aI ul.gDeep, .slx] (GL06Read.h4_9f ul))], []⟩ ?_
        apply Wc.seq
        obtain ⟨u0q, h495, h⟩ := obind h
        refine Wc.r2 [{}, {}, {}, { r := some (.v (.agg (GTerm.q u0q.2)) [(3, .app 31)]), outs := [(0, .p (GL06Read.k2 u0q.1) (GL06Read.h4_9f u0q.1))] }, { tk := [35] }] ⟨[tP 4 4, tI 5 0], [(4, .cells (GTerm.q u0q.2) [(3, .app 31)]), (1000000, .cells (GL06Read.k2 u0q.1) (GL06Read.h4_9f u0q.1))], []⟩ (.cons (ih_pspec_l06Read_some h495) .nil) ?_
        refine Wc.fx [.un (.b 4 3)] ⟨[tP 4 4, tI 5 0], [bC 4 (GTerm.q u0q.2), (1000000, .cells (GL06Read.k2 u0q.1) (GL06Read.h4_9f u0q.1))], []⟩ ?_
        obtain rfl := Option.some.inj h; exact Wc.ret dn
      · refine Wc.cF h494 ?_
        refine Wc.fx [] ⟨[tP 0 1000000, tI 1 u05, tP 4 4, tP 6 6], [(4, .cells GTerm.z [(3, .app 31)]), bC 6 (GSign.q uu), (1000000, .cells (GL06Read.k2 ul) (GL06Read.h4_9f ul))], []⟩ ?_
        refine Wc.skip ?_
        apply Wc.seq
        refine Wc.seqJ (fun st => ∃ (u9n : Bool) (u2 : GL06Read), st = ⟨[tP 0 1000000, tI 1 u05, tP 4 4, tP 6 6, tB 42 u9n], [(4, .cells GTerm.z [(3, .app 31)]), bC 6 (GSign.q uu), (1000000, .cells (GL06Read.k2 u2) (GL06Read.h4_9f u2))], []⟩ ∧ pspec_l06Read_atom_J1 k (pspec_l06Read_atom k) (pspec_l06Read_primary k) (pspec_l06Read_round k) (pspec_l06Read_row k) (pspec_l06Read_some k) (pspec_l06Read_term k) uu u05 u9n u2 = some r) ?_ ?_
        · rcases oif h with ⟨h507, h⟩ | ⟨h507, h⟩
          · obtain ⟨u2j, h508, h⟩ := obind h
            refine Wc.r2 [{}, {}, {}, { re := some (.bool true) }, {}, { r := some (.v (.bool u2j.2) []), outs := [(0, .p (GL06Read.k2 u2j.1) (GL06Read.h4_9f u2j.1))] }] ⟨[tP 0 1000000, tI 1 u05, tP 4 4, tP 6 6, tB 42 u2j.2], [(4, .cells GTerm.z [(3, .app 31)]), bC 6 (GSign.q uu), (1000000, .cells (GL06Read.k2 u2j.1) (GL06Read.h4_9f u2j.1))], []⟩ (.cons (congrArg AV.bool h507) (.cons (cspec_l06Read_near h508) .nil)) ?_
            exact ⟨_, _, rfl, h⟩
          · refine Wc.r2 [{}, {}, {}, { re := some (.bool false) }] ⟨[tP 0 1000000, tI 1 u05, tP 4 4, tP 6 6, tB 42 false], [(4, .cells GTerm.z [(3, .app 31)]), bC 6 (GSign.q uu), (1000000, .cells (GL06Read.k2 ul) (GL06Read.h4_9f ul))], []⟩ (.cons (congrArg AV.bool h507) .nil) ?_
            exact ⟨_, _, rfl, h⟩
        · rintro st ⟨u9n, u2, rfl, h⟩
          rcases oif h with ⟨h496, h⟩ | ⟨h496, h⟩
          · refine Wc.cT h496 ?_
            apply Wc.seq
            refine Wc.r0 ⟨[tP 0 1000000, tP 4 4], [(4, .cells GTerm.z [(3, .app 31)]), (1000000, .cells [.sl (List.map GSign.c u2.gList), aI (wr.i64 (u2.gAt + 2)), .bool u2.gBad, aI u2.gDeep, .slx] (GL06Read.h4_9f u2))], []⟩ ?_
            apply Wc.seq
            obtain ⟨u65, h497, h⟩ := obind h
            obtain ⟨u9o, h498, h⟩ := obind h
            refine Wc.draw hmix [{}, {}, {}, {}, {}, {}, {}, {}, {}, { v := some (.vptr (GSign.q u65)) }, {}, {}, {}, { r := some (.v (.agg (GTerm.q u9o)) [(3, .app 31)]) }, { tk := [64] }] [] [4, 5] [4, 1000000] [] ⟨[tP 4 4, tI 5 0], [(4, .cells (GTerm.q u9o) [(3, .app 31)]), (1000000, .cells [.sl (List.map GSign.c u2.gList), aI (wr.i64 (u2.gAt + 2)), .bool u2.gBad, aI u2.gDeep, .slx] (GL06Read.h4_9f u2))], []⟩ _ (by kernel_rfl) (fun X => by kernel_rfl) (.cons (at_obl (c := GSign.c) (GSign.c_eq u65) GSign.c_len h497) (.cons (len_ok 1 [aI u65.gNum, aI u65.gAt, .bool u65.gNear]) (.cons (cspec_l03Num h498) .nil))) ?_
            refine Wc.fx [.un (.b 4 3)] ⟨[tP 4 4, tI 5 0], [bC 4 (GTerm.q u9o), (1000000, .cells [.sl (List.map GSign.c u2.gList), aI (wr.i64 (u2.gAt + 2)), .bool u2.gBad, aI u2.gDeep, .slx] (GL06Read.h4_9f u2))], []⟩ ?_
            obtain rfl := Option.some.inj h; exact Wc.ret dn
          · refine Wc.cF h496 ?_
            refine Wc.fx [] ⟨[tP 0 1000000, tI 1 u05, tP 4 4, tP 6 6], [(4, .cells GTerm.z [(3, .app 31)]), bC 6 (GSign.q uu), (1000000, .cells (GL06Read.k2 u2) (GL06Read.h4_9f u2))], []⟩ ?_
            refine Wc.skip ?_
            apply Wc.seq
            obtain ⟨zb, h499, h⟩ := obind h
            refine Wc.r2 [{}, {}, { r := some (.v (.tup [.agg (GOp.q zb.1), .bool zb.2]) []) }] ⟨[tP 0 1000000, tI 1 u05, tP 4 4, tP 6 6, tP 7 7, tB 8 zb.2], [(4, .cells GTerm.z [(3, .app 31)]), bC 6 (GSign.q uu), bC 7 (GOp.q zb.1), (1000000, .cells (GL06Read.k2 u2) (GL06Read.h4_9f u2))], []⟩ (.cons (cspec_PrefixOf h499) .nil) ?_
            apply Wc.seq
            refine Wc.seqJ (fun st => ∃ (u9m : Bool), st = ⟨[tP 0 1000000, tP 4 4, tP 6 6, tP 7 7, tB 8 zb.2, tB 77 u9m], [(4, .cells GTerm.z [(3, .app 31)]), bC 6 (GSign.q uu), bC 7 (GOp.q zb.1), (1000000, .cells (GL06Read.k2 u2) (GL06Read.h4_9f u2))], []⟩ ∧ pspec_l06Read_atom_J2 k (pspec_l06Read_atom k) (pspec_l06Read_primary k) (pspec_l06Read_round k) (pspec_l06Read_row k) (pspec_l06Read_some k) (pspec_l06Read_term k) u2 zb uu u9m = some r) ?_ ?_
            · rcases oif h with ⟨h506, h⟩ | ⟨h506, h⟩
              · refine Wc.r2 [{}, { re := some (.bool true) }] ⟨[tP 0 1000000, tP 4 4, tP 6 6, tP 7 7, tB 8 zb.2, tB 77 (decide (zb.1.gPrio ≤ u05))], [(4, .cells GTerm.z [(3, .app 31)]), bC 6 (GSign.q uu), bC 7 (GOp.q zb.1), (1000000, .cells (GL06Read.k2 u2) (GL06Read.h4_9f u2))], []⟩ (.cons (congrArg AV.bool h506) .nil) ?_
                exact ⟨_, rfl, h⟩
              · refine Wc.r2 [{}, { re := some (.bool false) }] ⟨[tP 0 1000000, tP 4 4, tP 6 6, tP 7 7, tB 8 zb.2, tB 77 false], [(4, .cells GTerm.z [(3, .app 31)]), bC 6 (GSign.q uu), bC 7 (GOp.q zb.1), (1000000, .cells (GL06Read.k2 u2) (GL06Read.h4_9f u2))], []⟩ (.cons (congrArg AV.bool h506) .nil) ?_
                exact ⟨_, rfl, h⟩
            · rintro st ⟨u9m, rfl, h⟩
              rcases oif h with ⟨h500, h⟩ | ⟨h500, h⟩
              · refine Wc.cT h500 ?_
                apply Wc.seq
                refine Wc.r0 ⟨[tP 0 1000000, tP 4 4, tP 6 6, tP 7 7], [(4, .cells GTerm.z [(3, .app 31)]), bC 6 (GSign.q uu), bC 7 (GOp.q zb.1), (1000000, .cells [.sl (List.map GSign.c u2.gList), aI (wr.i64 (u2.gAt + 1)), .bool u2.gBad, aI u2.gDeep, .slx] (GL06Read.h4_9f u2))], []⟩ ?_
                apply Wc.seq
                obtain ⟨vr, h501, h⟩ := obind h
                refine Wc.r2 [{}, {}, {}, { r := some (.v (.agg (GTerm.q vr.2)) []), outs := [(0, .p (GL06Read.k2 vr.1) (GL06Read.h4_9f vr.1))] }] ⟨[tP 4 4, tP 6 6, tP 7 7, tP 9 9], [(4, .cells GTerm.z [(3, .app 31)]), bC 6 (GSign.q uu), bC 7 (GOp.q zb.1), bC 9 (GTerm.q vr.2), (1000000, .cells (GL06Read.k2 vr.1) (GL06Read.h4_9f vr.1))], []⟩ (.cons (ih_pspec_l06Read_term h501) .nil) ?_
                apply Wc.seq
                refine Wc.draw hmix [{}, {}, {}, { c := some (List.map GTerm.c [vr.2]) }, { tk := [93] }, {}, {}, { tk := [94] }] [] [4, 5] [4, 1000000] [] ⟨[tP 4 4, tI 5 zb.1.gPrio], [(4, .cells [aI 4, .str uu.gText, aI 0, .sl (List.map GTerm.c [vr.2])] [(3, .app 31)]), (1000000, .cells (GL06Read.k2 vr.1) (GL06Read.h4_9f vr.1))], []⟩ _ (by kernel_rfl) (fun X => by kernel_rfl) (.cons (cl_cons (c := GTerm.c) (x := vr.2) (GTerm.c_eq vr.2) (cl_nil GTerm.c)) .nil) ?_
                refine Wc.fx [.un (.b 4 3)] ⟨[tP 4 4, tI 5 zb.1.gPrio], [bC 4 [aI 4, .str uu.gText, aI 0, .sl (List.map GTerm.c [vr.2])], (1000000, .cells (GL06Read.k2 vr.1) (GL06Read.h4_9f vr.1))], []⟩ ?_
                obtain rfl := Option.some.inj h; exact Wc.ret dn
              · refine Wc.cF h500 ?_
                refine Wc.fx [] ⟨[tP 0 1000000, tP 4 4, tP 6 6, tB 8 zb.2], [(4, .cells GTerm.z [(3, .app 31)]), bC 6 (GSign.q uu), (1000000, .cells (GL06Read.k2 u2) (GL06Read.h4_9f u2))], []⟩ ?_
                refine Wc.skip ?_
                apply Wc.seq
                obtain ⟨u71, h502, h⟩ := obind h
                refine Wc.r2 [{}, {}, { r := some (.v (.tup [.agg (GOp.q u71.1), .bool u71.2]) []) }] ⟨[tP 0 1000000, tP 4 4, tP 6 6, tB 8 zb.2, tB 11 u71.2], [(4, .cells GTerm.z [(3, .app 31)]), bC 6 (GSign.q uu), (1000000, .cells (GL06Read.k2 u2) (GL06Read.h4_9f u2))], []⟩ (.cons (cspec_InfixOf h502) .nil) ?_
                apply Wc.seq
                refine Wc.seqJ (fun st => ∃ (u9k : Bool), st = ⟨[tP 0 1000000, tP 4 4, tP 6 6, tB 106 u9k], [(4, .cells GTerm.z [(3, .app 31)]), bC 6 (GSign.q uu), (1000000, .cells (GL06Read.k2 u2) (GL06Read.h4_9f u2))], []⟩ ∧ pspec_l06Read_atom_J3 k (pspec_l06Read_atom k) (pspec_l06Read_primary k) (pspec_l06Read_round k) (pspec_l06Read_row k) (pspec_l06Read_some k) (pspec_l06Read_term k) u2 uu u9k = some r) ?_ ?_
                · rcases oif h with ⟨h505, h⟩ | ⟨h505, h⟩
                  · refine Wc.r2 [{}, { re := some (.bool true) }] ⟨[tP 0 1000000, tP 4 4, tP 6 6, tB 106 true], [(4, .cells GTerm.z [(3, .app 31)]), bC 6 (GSign.q uu), (1000000, .cells (GL06Read.k2 u2) (GL06Read.h4_9f u2))], []⟩ (.cons (congrArg AV.bool h505) .nil) ?_
                    exact ⟨_, rfl, h⟩
                  · refine Wc.r2 [{}, { re := some (.bool false) }] ⟨[tP 0 1000000, tP 4 4, tP 6 6, tB 106 u71.2], [(4, .cells GTerm.z [(3, .app 31)]), bC 6 (GSign.q uu), (1000000, .cells (GL06Read.k2 u2) (GL06Read.h4_9f u2))], []⟩ (.cons (congrArg AV.bool h505) .nil) ?_
                    exact ⟨_, rfl, h⟩
                · rintro st ⟨u9k, rfl, h⟩
                  rcases oif h with ⟨h503, h⟩ | ⟨h503, h⟩
                  · refine Wc.cT h503 ?_
                    apply Wc.seq
                    refine Wc.r0 ⟨[tP 4 4], [(4, .cells GTerm.z [(3, .app 31)]), (1000000, .cells [.sl (List.map GSign.c u2.gList), aI u2.gAt, .bool true, aI u2.gDeep, .slx] (GL06Read.h4_9f u2))], []⟩ ?_
                    apply Wc.seq
                    refine Wc.r1 [{}, { tk := [110] }] ⟨[tP 4 4, tI 5 0], [(4, .cells GTerm.z [(3, .app 31)]), (1000000, .cells [.sl (List.map GSign.c u2.gList), aI u2.gAt, .bool true, aI u2.gDeep, .slx] (GL06Read.h4_9f u2))], []⟩ ?_
                    refine Wc.fx [.un (.b 4 3)] ⟨[tP 4 4, tI 5 0], [bC 4 GTerm.z, (1000000, .cells [.sl (List.map GSign.c u2.gList), aI u2.gAt, .bool true, aI u2.gDeep, .slx] (GL06Read.h4_9f u2))], []⟩ ?_
                    obtain rfl := Option.some.inj h; exact Wc.ret dn
                  · refine Wc.cF h503 ?_
                    refine Wc.fx [] ⟨[tP 0 1000000, tP 4 4, tP 6 6], [(4, .cells GTerm.z [(3, .app 31)]), bC 6 (GSign.q uu), (1000000, .cells (GL06Read.k2 u2) (GL06Read.h4_9f u2))], []⟩ ?_
                    refine Wc.skip ?_
                    apply Wc.seq
                    refine Wc.r0 ⟨[tP 4 4, tP 6 6], [(4, .cells GTerm.z [(3, .app 31)]), bC 6 (GSign.q uu), (1000000, .cells [.sl (List.map GSign.c u2.gList), aI (wr.i64 (u2.gAt + 1)), .bool u2.gBad, aI u2.gDeep, .slx] (GL06Read.h4_9f u2))], []⟩ ?_
                    apply Wc.seq
                    obtain ⟨u9l, h504, h⟩ := obind h
                    refine Wc.r2 [{}, {}, { r := some (.v (.agg (GTerm.q u9l)) [(3, .app 31)]) }, { tk := [121] }] ⟨[tP 4 4, tI 5 0], [(4, .cells (GTerm.q u9l) [(3, .app 31)]), (1000000, .cells [.sl (List.map GSign.c u2.gList), aI (wr.i64 (u2.gAt + 1)), .bool u2.gBad, aI u2.gDeep, .slx] (GL06Read.h4_9f u2))], []⟩ (.cons (cspec_l03Atom h504) .nil) ?_
                    refine Wc.fx [.un (.b 4 3)] ⟨[tP 4 4, tI 5 0], [bC 4 (GTerm.q u9l), (1000000, .cells [.sl (List.map GSign.c u2.gList), aI (wr.i64 (u2.gAt + 1)), .bool u2.gBad, aI u2.gDeep, .slx] (GL06Read.h4_9f u2))], []⟩ ?_
                    obtain rfl := Option.some.inj h; exact Wc.ret dn
    · intro u0h u45 r h
      rw [pspec_l06Read_primary] at h
      refine FnO.o2 Tryz.func110 (rfl : Tryz.f110.body = some _) ?_
      intro w0 X0 Fin pv0 pb gt
      apply Wc.seq
      refine Wc.r0 ⟨[tP 0 1000000, tI 1 u45, tP 4 4], [(4, .cells GTerm.z [(3, .app 31)]), (1000000, .cells (GL06Read.k2 u0h) (GL06Read.h4_9f u0h))], []⟩ ?_
      apply Wc.seq
      refine Wc.block ?_
      apply Wc.seq
      obtain ⟨u25, h509, h⟩ := obind h
      refine Wc.r2 [{}, { r := some (.v (.bool u25.2) []), outs := [(0, .p (GL06Read.k2 u25.1) (GL06Read.h4_9f u25.1))] }] ⟨[tP 0 1000000, tI 1 u45, tP 4 4, tB 6 u25.2], [(4, .cells GTerm.z [(3, .app 31)]), (1000000, .cells (GL06Read.k2 u25.1) (GL06Read.h4_9f u25.1))], []⟩ (.cons (cspec_l06Read_is h509) .nil) ?_
      rcases oif h with ⟨h510, h⟩ | ⟨h510, h⟩
      · refine Wc.cT h510 ?_
        apply Wc.seq
        obtain ⟨u1h, h511, h⟩ := obind h
        refine Wc.r2 [{}, {}, { r := some (.v (.tup [.agg (GTerm.q u1h.2.1), aI u1h.2.2]) []), outs := [(0, .p (GL06Read.k2 u1h.1) (GL06Read.h4_9f u1h.1))] }] ⟨[tP 4 4, tI 5 u1h.2.2], [bC 4 (GTerm.q u1h.2.1), (1000000, .cells (GL06Read.k2 u1h.1) (GL06Read.h4_9f u1h.1))], []⟩ (.cons (ih_pspec_l06Read_atom h511) .nil) ?_
        obtain rfl := Option.some.inj h; exact Wc.ret dn
      · refine Wc.cF h510 ?_
        apply Wc.seq
        obtain ⟨u26, h512, h⟩ := obind h
        refine Wc.r2 [{}, { r := some (.v (.bool u26.2) []), outs := [(0, .p (GL06Read.k2 u26.1) (GL06Read.h4_9f u26.1))] }] ⟨[tP 0 1000000, tP 4 4, tB 14 u26.2], [(4, .cells GTerm.z [(3, .app 31)]), (1000000, .cells (GL06Read.k2 u26.1) (GL06Read.h4_9f u26.1))], []⟩ (.cons (cspec_l06Read_mark h512) .nil) ?_
        rcases oif h with ⟨h513, h⟩ | ⟨h513, h⟩
        · refine Wc.cT h513 ?_
          apply Wc.seq
          obtain ⟨u2k, h514, h⟩ := obind h
          refine Wc.r2 [{}, { r := some (.v (.agg (GTerm.q u2k.2)) []), outs := [(0, .p (GL06Read.k2 u2k.1) (GL06Read.h4_9f u2k.1))] }] ⟨[tP 4 4, tI 5 0], [bC 4 (GTerm.q u2k.2), (1000000, .cells (GL06Read.k2 u2k.1) (GL06Read.h4_9f u2k.1))], []⟩ (.cons (ih_pspec_l06Read_round h514) .nil) ?_
          obtain rfl := Option.some.inj h; exact Wc.ret dn
        · refine Wc.cF h513 ?_
          apply Wc.seq
          obtain ⟨u27, h515, h⟩ := obind h
          refine Wc.r2 [{}, { r := some (.v (.bool u27.2) []), outs := [(0, .p (GL06Read.k2 u27.1) (GL06Read.h4_9f u27.1))] }] ⟨[tP 0 1000000, tP 4 4, tB 19 u27.2], [(4, .cells GTerm.z [(3, .app 31)]), (1000000, .cells (GL06Read.k2 u27.1) (GL06Read.h4_9f u27.1))], []⟩ (.cons (cspec_l06Read_mark h515) .nil) ?_
          rcases oif h with ⟨h516, h⟩ | ⟨h516, h⟩
          · refine Wc.cT h516 ?_
            apply Wc.seq
            obtain ⟨u2l, h517, h⟩ := obind h
            refine Wc.r2 [{}, { r := some (.v (.agg (GTerm.q u2l.2)) []), outs := [(0, .p (GL06Read.k2 u2l.1) (GL06Read.h4_9f u2l.1))] }] ⟨[tP 4 4, tI 5 0], [bC 4 (GTerm.q u2l.2), (1000000, .cells (GL06Read.k2 u2l.1) (GL06Read.h4_9f u2l.1))], []⟩ (.cons (ih_pspec_l06Read_row h517) .nil) ?_
            obtain rfl := Option.some.inj h; exact Wc.ret dn
          · refine Wc.cF h516 ?_
            apply Wc.seq
            obtain ⟨v7, h518, h⟩ := obind h
            refine Wc.r2 [{}, { r := some (.v (.bool v7.2) []), outs := [(0, .p (GL06Read.k2 v7.1) (GL06Read.h4_9f v7.1))] }] ⟨[tP 0 1000000, tP 4 4, tB 24 v7.2], [(4, .cells GTerm.z [(3, .app 31)]), (1000000, .cells (GL06Read.k2 v7.1) (GL06Read.h4_9f v7.1))], []⟩ (.cons (cspec_l06Read_is h518) .nil) ?_
            rcases oif h with ⟨h519, h⟩ | ⟨h519, h⟩
            · refine Wc.cT h519 ?_
              apply Wc.seq
              refine Wc.r0 ⟨[tP 0 1000000, tP 4 4], [(4, .cells GTerm.z [(3, .app 31)]), (1000000, .cells [.sl (List.map GSign.c v7.1.gList), aI (wr.i64 (v7.1.gAt + 1)), .bool v7.1.gBad, aI v7.1.gDeep, .slx] (GL06Read.h4_9f v7.1))], []⟩ ?_
              apply Wc.seq
              obtain ⟨u67, h520, h⟩ := obind h
              obtain ⟨u9v, h521, h⟩ := obind h
              refine Wc.draw hmix [{}, {}, {}, {}, {}, {}, {}, {}, {}, { v := some (.vptr (GSign.q u67)) }, {}, {}, { r := some (.v (.agg (GTerm.q u9v)) [(3, .app 31)]) }, { tk := [47] }] [] [4, 5] [4, 1000000] [] ⟨[tP 4 4, tI 5 0], [(4, .cells (GTerm.q u9v) [(3, .app 31)]), (1000000, .cells [.sl (List.map GSign.c v7.1.gList), aI (wr.i64 (v7.1.gAt + 1)), .bool v7.1.gBad, aI v7.1.gDeep, .slx] (GL06Read.h4_9f v7.1))], []⟩ _ (by kernel_rfl) (fun X => by kernel_rfl) (.cons (at_obl (c := GSign.c) (GSign.c_eq u67) GSign.c_len h520) (.cons (len_ok 1 [aI u67.gNum, aI u67.gAt, .bool u67.gNear]) (.cons (cspec_l03Num h521) .nil))) ?_
              refine Wc.fx [.un (.b 4 3)] ⟨[tP 4 4, tI 5 0], [bC 4 (GTerm.q u9v), (1000000, .cells [.sl (List.map GSign.c v7.1.gList), aI (wr.i64 (v7.1.gAt + 1)), .bool v7.1.gBad, aI v7.1.gDeep, .slx] (GL06Read.h4_9f v7.1))], []⟩ ?_
              obtain rfl := Option.some.inj h; exact Wc.ret dn
            · refine Wc.cF h519 ?_
              apply Wc.seq
              obtain ⟨uv, h522, h⟩ := obind h
              refine Wc.r2 [{}, { r := some (.v (.bool uv.2) []), outs := [(0, .p (GL06Read.k2 uv.1) (GL06Read.h4_9f uv.1))] }] ⟨[tP 0 1000000, tP 4 4, tB 48 uv.2], [(4, .cells GTerm.z [(3, .app 31)]), (1000000, .cells (GL06Read.k2 uv.1) (GL06Read.h4_9f uv.1))], []⟩ (.cons (cspec_l06Read_is h522) .nil) ?_
              rcases oif h with ⟨h523, h⟩ | ⟨h523, h⟩
              · refine Wc.cT h523 ?_
                apply Wc.seq
                refine Wc.r0 ⟨[tP 0 1000000, tP 4 4], [(4, .cells GTerm.z [(3, .app 31)]), (1000000, .cells [.sl (List.map GSign.c uv.1.gList), aI (wr.i64 (uv.1.gAt + 1)), .bool uv.1.gBad, aI uv.1.gDeep, .slx] (GL06Read.h4_9f uv.1))], []⟩ ?_
                apply Wc.seq
                obtain ⟨u5h, h524, h⟩ := obind h
                obtain ⟨u0r, h525, h⟩ := obind h
                refine Wc.draw hmix [{}, {}, {}, {}, {}, {}, {}, {}, {}, {}, { v := some (.vptr (GSign.q u5h)) }, {}, {}, { r := some (.v (.agg (GTerm.q u0r.2)) [(3, .app 31)]), outs := [(0, .p (GL06Read.k2 u0r.1) (GL06Read.h4_9f u0r.1))] }, { tk := [72] }] [] [4, 5] [4, 1000000] [] ⟨[tP 4 4, tI 5 0], [(4, .cells (GTerm.q u0r.2) [(3, .app 31)]), (1000000, .cells (GL06Read.k2 u0r.1) (GL06Read.h4_9f u0r.1))], []⟩ _ (by kernel_rfl) (fun X => by kernel_rfl) (.cons (at_obl (c := GSign.c) (GSign.c_eq u5h) GSign.c_len h524) (.cons (len_ok 1 [.str u5h.gText, aI u5h.gNum, aI u5h.gAt, .bool u5h.gNear]) (.cons (cspec_l06Read_variable h525) .nil))) ?_
                refine Wc.fx [.un (.b 4 3)] ⟨[tP 4 4, tI 5 0], [bC 4 (GTerm.q u0r.2), (1000000, .cells (GL06Read.k2 u0r.1) (GL06Read.h4_9f u0r.1))], []⟩ ?_
                obtain rfl := Option.some.inj h; exact Wc.ret dn
              · refine Wc.cF h523 ?_
                refine Wc.fx [] ⟨[tP 0 1000000, tP 4 4], [(4, .cells GTerm.z [(3, .app 31)]), (1000000, .cells (GL06Read.k2 uv.1) (GL06Read.h4_9f uv.1))], []⟩ ?_
                refine Wc.skip ?_
                apply Wc.seq
                refine Wc.r0 ⟨[tP 4 4], [(4, .cells GTerm.z [(3, .app 31)]), (1000000, .cells [.sl (List.map GSign.c uv.1.gList), aI uv.1.gAt, .bool true, aI uv.1.gDeep, .slx] (GL06Read.h4_9f uv.1))], []⟩ ?_
                apply Wc.seq
                refine Wc.r1 [{}, { tk := [76] }] ⟨[tP 4 4, tI 5 0], [(4, .cells GTerm.z [(3, .app 31)]), (1000000, .cells [.sl (List.map GSign.c uv.1.gList), aI uv.1.gAt, .bool true, aI uv.1.gDeep, .slx] (GL06Read.h4_9f uv.1))], []⟩ ?_
                refine Wc.fx [.un (.b 4 3)] ⟨[tP 4 4, tI 5 0], [bC 4 GTerm.z, (1000000, .cells [.sl (List.map GSign.c uv.1.gList), aI uv.1.gAt, .bool true, aI uv.1.gDeep, .slx] (GL06Read.h4_9f uv.1))], []⟩ ?_
                obtain rfl := Option.some.inj h; exact Wc.ret dn
    · intro u0i r h
      rw [pspec_l06Read_round] at h
      refine FnO.o2 Tryz.func116 (rfl : Tryz.f116.body = some _) ?_
      intro w0 X0 Fin pv0 pb gt
      apply Wc.seq
      refine Wc.r0 ⟨[tP 0 1000000, tP 2 2], [(2, .cells GTerm.z [(3, .app 31)]), (1000000, .cells (GL06Read.k2 u0i) (GL06Read.h4_9f u0i))], []⟩ ?_
      apply Wc.seq
      refine Wc.seqJ (fun st => ∃ (u9p : Bool) (va : GL06Read), st = ⟨[tP 0 1000000, tP 2 2, tB 48 u9p], [(2, .cells GTerm.z [(3, .app 31)]), (1000000, .cells (GL06Read.k2 va) (GL06Read.h4_9f va))], []⟩ ∧ pspec_l06Read_round_J1 k (pspec_l06Read_atom k) (pspec_l06Read_primary k) (pspec_l06Read_round k) (pspec_l06Read_row k) (pspec_l06Read_some k) (pspec_l06Read_term k) u9p va = some r) ?_ ?_
      · obtain ⟨ug, h531, h⟩ := obind h
        rcases oif h with ⟨h532, h⟩ | ⟨h532, h⟩
        · rcases oif h with ⟨h533, h⟩ | ⟨h533, h⟩
          · obtain ⟨u5i, h534, h⟩ := obind h
            rcases oif h with ⟨h535, h⟩ | ⟨h535, h⟩
            · obtain ⟨u52, h536, h⟩ := obind h
              refine Wc.draw hmix [{}, { r := some (.v (.bool ug.2) []), outs := [(0, .p (GL06Read.k2 ug.1) (GL06Read.h4_9f ug.1))] }, { re := some (.bool true) }, {}, {}, {}, {}, {}, {}, {}, {}, {}, { v := some (aI (ug.1.gList.length : Int)) }, {}, {}, { re := some (.bool true) }, {}, {}, {}, {}, {}, {}, {}, {}, {}, { v := some (.vptr (GSign.q u5i)) }, {}, {}, {}, {}, { re := some (.bool true) }, {}, {}, {}, {}, {}, {}, {}, {}, {}, { v := some (.vptr (GSign.q u52)) }] [] [0, 2, 48] [2, 1000000] [] ⟨[tP 0 1000000, tP 2 2, tB 48 (sEq u52.gText (bs [41]))], [(2, .cells GTerm.z [(3, .app 31)]), (1000000, .cells (GL06Read.k2 ug.1) (GL06Read.h4_9f ug.1))], []⟩ _ (by kernel_rfl) (fun X => by kernel_rfl) (.cons (cspec_l06Read_is h531) (.cons (congrArg AV.bool h532) (.cons (len_obl GSign.c ug.1.gList) (.cons (congrArg AV.bool h533) (.cons (at_obl (c := GSign.c) (GSign.c_eq u5i) GSign.c_len h534) (.cons (len_ok 1 (GSign.q u5i)) (.cons (congrArg AV.bool h535) (.cons (at_obl (c := GSign.c) (GSign.c_eq u52) GSign.c_len h536) (.cons (len_ok 1 [.str u52.gText, aI u52.gNum, aI u52.gAt, .bool u52.gNear]) .nil))))))))) ?_
              exact ⟨_, _, rfl, h⟩
            · refine Wc.draw hmix [{}, { r := some (.v (.bool ug.2) []), outs := [(0, .p (GL06Read.k2 ug.1) (GL06Read.h4_9f ug.1))] }, { re := some (.bool true) }, {}, {}, {}, {}, {}, {}, {}, {}, {}, { v := some (aI (ug.1.gList.length : Int)) }, {}, {}, { re := some (.bool true) }, {}, {}, {}, {}, {}, {}, {}, {}, {}, { v := some (.vptr (GSign.q u5i)) }, {}, {}, {}, {}, { re := some (.bool false) }] [] [0, 2, 48] [2, 1000000] [] ⟨[tP 0 1000000, tP 2 2, tB 48 false], [(2, .cells GTerm.z [(3, .app 31)]), (1000000, .cells (GL06Read.k2 ug.1) (GL06Read.h4_9f ug.1))], []⟩ _ (by kernel_rfl) (fun X => by kernel_rfl) (.cons (cspec_l06Read_is h531) (.cons (congrArg AV.bool h532) (.cons (len_obl GSign.c ug.1.gList) (.cons (congrArg AV.bool h533) (.cons (at_obl (c := GSign.c) (GSign.c_eq u5i) GSign.c_len h534) (.cons (len_ok 1 (GSign.q u5i)) (.cons (congrArg AV.bool h535) .nil))))))) ?_
              exact ⟨_, _, rfl, h⟩
          · refine Wc.draw hmix [{}, { r := some (.v (.bool ug.2) []), outs := [(0, .p (GL06Read.k2 ug.1) (GL06Read.h4_9f ug.1))] }, { re := some (.bool true) }, {}, {}, {}, {}, {}, {}, {}, {}, {}, { v := some (aI (ug.1.gList.length : Int)) }, {}, {}, { re := some (.bool false) }] [] [0, 2, 48] [2, 1000000] [] ⟨[tP 0 1000000, tP 2 2, tB 48 false], [(2, .cells GTerm.z [(3, .app 31)]), (1000000, .cells (GL06Read.k2 ug.1) (GL06Read.h4_9f ug.1))], []⟩ _ (by kernel_rfl) (fun X => by kernel_rfl) (.cons (cspec_l06Read_is h531) (.cons (congrArg AV.bool h532) (.cons (len_obl GSign.c ug.1.gList) (.cons (congrArg AV.bool h533) .nil)))) ?_
            exact ⟨_, _, rfl, h⟩
        · refine Wc.draw hmix [{}, { r := some (.v (.bool ug.2) []), outs := [(0, .p (GL06Read.k2 ug.1) (GL06Read.h4_9f ug.1))] }, { re := some (.bool false) }] [] [0, 2, 48] [2, 1000000] [] ⟨[tP 0 1000000, tP 2 2, tB 48 false], [(2, .cells GTerm.z [(3, .app 31)]), (1000000, .cells (GL06Read.k2 ug.1) (GL06Read.h4_9f ug.1))], []⟩ _ (by kernel_rfl) (fun X => by kernel_rfl) (.cons (cspec_l06Read_is h531) (.cons (congrArg AV.bool h532) .nil)) ?_
          exact ⟨_, _, rfl, h⟩
      · rintro st ⟨u9p, va, rfl, h⟩
        rcases oif h with ⟨h526, h⟩ | ⟨h526, h⟩
        · refine Wc.cT h526 ?_
          apply Wc.seq
          refine Wc.r0 ⟨[tP 0 1000000, tP 2 2], [(2, .cells GTerm.z [(3, .app 31)]), (1000000, .cells [.sl (List.map GSign.c va.gList), aI (wr.i64 (va.gAt + 2)), .bool va.gBad, aI va.gDeep, .slx] (GL06Read.h4_9f va))], []⟩ ?_
          apply Wc.seq
          obtain ⟨u5g, h527, h⟩ := obind h
          obtain ⟨u9q, h528, h⟩ := obind h
          refine Wc.draw hmix [{}, {}, {}, {}, {}, {}, {}, {}, {}, { v := some (.vptr (GSign.q u5g)) }, {}, {}, { r := some (.v (.agg (GTerm.q u9q)) [(3, .app 31)]) }, { tk := [69] }] [] [2] [2, 1000000] [] ⟨[tP 2 2], [(2, .cells (GTerm.q u9q) [(3, .app 31)]), (1000000, .cells [.sl (List.map GSign.c va.gList), aI (wr.i64 (va.gAt + 2)), .bool va.gBad, aI va.gDeep, .slx] (GL06Read.h4_9f va))], []⟩ _ (by kernel_rfl) (fun X => by kernel_rfl) (.cons (at_obl (c := GSign.c) (GSign.c_eq u5g) GSign.c_len h527) (.cons (len_ok 1 [.str u5g.gText, aI u5g.gNum, aI u5g.gAt, .bool u5g.gNear]) (.cons (cspec_l03Atom h528) .nil))) ?_
          refine Wc.fx [.un (.b 2 3)] ⟨[tP 2 2], [bC 2 (GTerm.q u9q), (1000000, .cells [.sl (List.map GSign.c va.gList), aI (wr.i64 (va.gAt + 2)), .bool va.gBad, aI va.gDeep, .slx] (GL06Read.h4_9f va))], []⟩ ?_
          obtain rfl := Option.some.inj h; exact Wc.ret dn
        · refine Wc.cF h526 ?_
          refine Wc.fx [] ⟨[tP 0 1000000, tP 2 2], [(2, .cells GTerm.z [(3, .app 31)]), (1000000, .cells (GL06Read.k2 va) (GL06Read.h4_9f va))], []⟩ ?_
          refine Wc.skip ?_
          apply Wc.seq
          obtain ⟨u1t, h529, h⟩ := obind h
          refine Wc.r2 [{}, { r := some (.v (.agg (GTerm.q u1t.2)) []), outs := [(0, .p (GL06Read.k2 u1t.1) (GL06Read.h4_9f u1t.1))] }] ⟨[tP 0 1000000, tP 2 2, tP 3 3], [(2, .cells GTerm.z [(3, .app 31)]), bC 3 (GTerm.q u1t.2), (1000000, .cells (GL06Read.k2 u1t.1) (GL06Read.h4_9f u1t.1))], []⟩ (.cons (ih_pspec_l06Read_term h529) .nil) ?_
          apply Wc.seq
          obtain ⟨u1u, h530, h⟩ := obind h
          refine Wc.r2 [{}, { r := some (.v (.tup []) []), outs := [(0, .p (GL06Read.k2 u1u) (GL06Read.h4_9f u1u))] }] ⟨[tP 2 2, tP 3 3], [(2, .cells GTerm.z [(3, .app 31)]), bC 3 (GTerm.q u1t.2), (1000000, .cells (GL06Read.k2 u1u) (GL06Read.h4_9f u1u))], []⟩ (.cons (cspec_l06Read_wants h530) .nil) ?_
          apply Wc.seq
          refine Wc.r0 ⟨[tP 2 2], [bC 2 (GTerm.q u1t.2), (1000000, .cells (GL06Read.k2 u1u) (GL06Read.h4_9f u1u))], []⟩ ?_
          obtain rfl := Option.some.inj h; exact Wc.ret dn
    · intro u0j r h
      rw [pspec_l06Read_row] at h
      refine FnO.o2 Tryz.func117 (rfl : Tryz.f117.body = some _) ?_
      intro w0 X0 Fin pv0 pb gt
      apply Wc.seq
      refine Wc.r0 ⟨[tP 0 1000000, tP 2 2], [(2, .cells GTerm.z [(3, .app 31)]), (1000000, .cells (GL06Read.k2 u0j) (GL06Read.h4_9f u0j))], []⟩ ?_
      apply Wc.seq
      apply Wc.seq
      obtain ⟨v3, h537, h⟩ := obind h
      refine Wc.r2 [{}, { r := some (.v (.bool v3.2) []), outs := [(0, .p (GL06Read.k2 v3.1) (GL06Read.h4_9f v3.1))] }] ⟨[tP 0 1000000, tP 2 2, tB 7 v3.2], [(2, .cells GTerm.z [(3, .app 31)]), (1000000, .cells (GL06Read.k2 v3.1) (GL06Read.h4_9f v3.1))], []⟩ (.cons (cspec_l06Read_mark h537) .nil) ?_
      rcases oif h with ⟨h538, h⟩ | ⟨h538, h⟩
      · refine Wc.cT h538 ?_
        apply Wc.seq
        obtain ⟨u9w, h539, h⟩ := obind h
        refine Wc.r2 [{ r := some (.v (.agg (GTerm.q u9w)) [(3, .app 31)]) }, { tk := [8] }] ⟨[tP 2 2], [(2, .cells (GTerm.q u9w) [(3, .app 31)]), (1000000, .cells (GL06Read.k2 v3.1) (GL06Read.h4_9f v3.1))], []⟩ (.cons (cspec_l03Atom h539) .nil) ?_
        refine Wc.fx [.un (.b 2 3)] ⟨[tP 2 2], [bC 2 (GTerm.q u9w), (1000000, .cells (GL06Read.k2 v3.1) (GL06Read.h4_9f v3.1))], []⟩ ?_
        obtain rfl := Option.some.inj h; exact Wc.ret dn
      · refine Wc.cF h538 ?_
        refine Wc.fx [] ⟨[tP 0 1000000, tP 2 2], [(2, .cells GTerm.z [(3, .app 31)]), (1000000, .cells (GL06Read.k2 v3.1) (GL06Read.h4_9f v3.1))], []⟩ ?_
        refine Wc.skip ?_
        apply Wc.seq
        refine Wc.r2 [{ c := some (List.map GTerm.c []) }, { tk := [9] }] ⟨[tP 0 1000000, tP 2 2, (3, (.v (.sl (List.map GTerm.c [])), [(0, .app 31)]))], [(2, .cells GTerm.z [(3, .app 31)]), (1000000, .cells (GL06Read.k2 v3.1) (GL06Read.h4_9f v3.1))], []⟩ (.cons (cl_nil GTerm.c) .nil) ?_
        apply Wc.seq
        obtain ⟨u0w, h540, h⟩ := obind h
        refine Wc.r2 [{ r := some (.v (.agg (GTerm.q u0w)) [(3, .app 31)]) }, {}, { tk := [10] }] ⟨[tP 0 1000000, tP 2 2, (3, (.v (.sl (List.map GTerm.c [])), [(0, .app 31)])), tP 4 4], [(2, .cells GTerm.z [(3, .app 31)]), (4, .cells (GTerm.q u0w) [(3, .app 31)]), (1000000, .cells (GL06Read.k2 v3.1) (GL06Read.h4_9f v3.1))], []⟩ (.cons (cspec_l03Atom h540) .nil) ?_
        obtain ⟨out1, h541, h⟩ := obind h
        refine Wc.seqJ (fun st => ∃ (u17 : List GTerm) (u72 : GTerm) (uo : GL06Read), out1 = .done (u17, u72, uo) ∧ st = ⟨[tP 2 2, (3, (.v (.sl (List.map GTerm.c u17)), [(0, .app 31)])), tP 4 4], [(2, .cells GTerm.z [(3, .app 31)]), bC 4 (GTerm.q u72), (1000000, .cells (GL06Read.k2 uo) (GL06Read.h4_9f uo))], []⟩) ?_ ?_
        · refine Wc.block ?_
          refine Wc.loop (fun m st => ∃ (u01 : List GTerm) (zc : GL06Read), st = ⟨[tP 0 1000000, tP 2 2, (3, (.v (.sl (List.map GTerm.c u01)), [(0, .app 31)])), tP 4 4], [(2, .cells GTerm.z [(3, .app 31)]), (4, .cells (GTerm.q u0w) [(3, .app 31)]), (1000000, .cells (GL06Read.k2 zc) (GL06Read.h4_9f zc))], []⟩ ∧ pspec_l06Read_row_L1 k (pspec_l06Read_atom k) (pspec_l06Read_primary k) (pspec_l06Read_round k) (pspec_l06Read_row k) (pspec_l06Read_some k) (pspec_l06Read_term k) u0w m u01 zc = some out1) ?_ k ⟨_, _, rfl, h541⟩
          rintro m st ⟨u01, zc, rfl, h541⟩
          cases m with
          | zero => exact (onone h541).elim
          | succ m =>
            apply Wc.seq
            apply Wc.seq
            refine Wc.r0 ⟨[tP 0 1000000, tP 2 2, (3, (.v (.sl (List.map GTerm.c u01)), [(0, .app 31)])), tP 4 4, tB 15 (!zc.gBad)], [(2, .cells GTerm.z [(3, .app 31)]), (4, .cells (GTerm.q u0w) [(3, .app 31)]), (1000000, .cells (GL06Read.k2 zc) (GL06Read.h4_9f zc))], []⟩ ?_
            rcases oif h541 with ⟨h542, h541⟩ | ⟨h542, h541⟩
            · refine Wc.cT h542 ?_
              refine Wc.fx [] ⟨[tP 0 1000000, tP 2 2, (3, (.v (.sl (List.map GTerm.c u01)), [(0, .app 31)])), tP 4 4], [(2, .cells GTerm.z [(3, .app 31)]), (4, .cells (GTerm.q u0w) [(3, .app 31)]), (1000000, .cells (GL06Read.k2 zc) (GL06Read.h4_9f zc))], []⟩ ?_
              refine Wc.skip ?_
              refine Wc.block ?_
              apply Wc.seq
              obtain ⟨vd, h543, h541⟩ := obind h541
              obtain ⟨h544, h541⟩ := oguard h541
              refine Wc.r2 [{ tk := [3] }, {}, { r := some (.v (.agg (GTerm.q vd.2)) []), outs := [(0, .p (GL06Read.k2 vd.1) (GL06Read.h4_9f vd.1))] }, { c := some (List.map GTerm.c [vd.2]) }, { c := some (List.map GTerm.c (u01 ++ [vd.2])), tk := [16] }, { tk := [20] }] ⟨[tP 0 1000000, tP 2 2, (3, (.v (.sl (List.map GTerm.c (u01 ++ [vd.2]))), [(0, .app 31)])), tP 4 4], [(2, .cells GTerm.z [(3, .app 31)]), (4, .cells (GTerm.q u0w) [(3, .app 31)]), (1000000, .cells (GL06Read.k2 vd.1) (GL06Read.h4_9f vd.1))], []⟩ (.cons (ih_pspec_l06Read_term h543) (.cons (cl_cons (c := GTerm.c) (x := vd.2) (GTerm.c_eq vd.2) (cl_nil GTerm.c)) (.cons (app_re2 GTerm.c u01 [vd.2]) (.cons (app_leaf (c := GTerm.c) (ys := [vd.2]) GTerm.c_leaf) (.cons (app_obl2 (c := GTerm.c) (xs := u01) (ys := [vd.2]) GTerm.c_len h544) .nil))))) ?_
              apply Wc.seq
              apply Wc.seq
              obtain ⟨zl, h545, h541⟩ := obind h541
              refine Wc.r2 [{}, { r := some (.v (.bool zl.2) []), outs := [(0, .p (GL06Read.k2 zl.1) (GL06Read.h4_9f zl.1))] }] ⟨[tP 0 1000000, tP 2 2, (3, (.v (.sl (List.map GTerm.c (u01 ++ [vd.2]))), [(0, .app 31)])), tP 4 4, tB 22 zl.2], [(2, .cells GTerm.z [(3, .app 31)]), (4, .cells (GTerm.q u0w) [(3, .app 31)]), (1000000, .cells (GL06Read.k2 zl.1) (GL06Read.h4_9f zl.1))], []⟩ (.cons (cspec_l06Read_mark h545) .nil) ?_
              rcases oif h541 with ⟨h546, h541⟩ | ⟨h546, h541⟩
              · refine Wc.cT h546 ?_
                refine Wc.fx [.un (.b 4 3)] ⟨[tP 2 2, (3, (.v (.sl (List.map GTerm.c (u01 ++ [vd.2]))), [(0, .app 31)])), tP 4 4], [(2, .cells GTerm.z [(3, .app 31)]), bC 4 (GTerm.q u0w), (1000000, .cells (GL06Read.k2 zl.1) (GL06Read.h4_9f zl.1))], []⟩ ?_
                refine Wc.exit ?_
                obtain rfl := Option.some.inj h541
                exact ⟨_, _, _, rfl, rfl⟩
              · refine Wc.cF h546 ?_
                refine Wc.fx [] ⟨[tP 0 1000000, tP 2 2, (3, (.v (.sl (List.map GTerm.c (u01 ++ [vd.2]))), [(0, .app 31)])), tP 4 4], [(2, .cells GTerm.z [(3, .app 31)]), (4, .cells (GTerm.q u0w) [(3, .app 31)]), (1000000, .cells (GL06Read.k2 zl.1) (GL06Read.h4_9f zl.1))], []⟩ ?_
                refine Wc.skip ?_
                apply Wc.seq
                apply Wc.seq
                obtain ⟨u0p, h547, h541⟩ := obind h541
                refine Wc.r2 [{}, { r := some (.v (.bool u0p.2) []), outs := [(0, .p (GL06Read.k2 u0p.1) (GL06Read.h4_9f u0p.1))] }] ⟨[tP 0 1000000, tP 2 2, (3, (.v (.sl (List.map GTerm.c (u01 ++ [vd.2]))), [(0, .app 31)])), tP 4 4, tB 24 u0p.2], [(2, .cells GTerm.z [(3, .app 31)]), (4, .cells (GTerm.q u0w) [(3, .app 31)]), (1000000, .cells (GL06Read.k2 u0p.1) (GL06Read.h4_9f u0p.1))], []⟩ (.cons (cspec_l06Read_mark h547) .nil) ?_
                rcases oif h541 with ⟨h548, h541⟩ | ⟨h548, h541⟩
                · refine Wc.cT h548 ?_
                  apply Wc.seq
                  obtain ⟨u24, h549, h541⟩ := obind h541
                  refine Wc.r2 [{}, { r := some (.v (.agg (GTerm.q u24.2)) []), outs := [(0, .p (GL06Read.k2 u24.1) (GL06Read.h4_9f u24.1))] }] ⟨[tP 0 1000000, tP 2 2, (3, (.v (.sl (List.map GTerm.c (u01 ++ [vd.2]))), [(0, .app 31)])), tP 4 4], [(2, .cells GTerm.z [(3, .app 31)]), bC 4 (GTerm.q u24.2), (1000000, .cells (GL06Read.k2 u24.1) (GL06Read.h4_9f u24.1))], []⟩ (.cons (ih_pspec_l06Read_term h549) .nil) ?_
                  apply Wc.seq
                  obtain ⟨u3q, h550, h541⟩ := obind h541
                  refine Wc.r2 [{}, { r := some (.v (.tup []) []), outs := [(0, .p (GL06Read.k2 u3q) (GL06Read.h4_9f u3q))] }] ⟨[tP 2 2, (3, (.v (.sl (List.map GTerm.c (u01 ++ [vd.2]))), [(0, .app 31)])), tP 4 4], [(2, .cells GTerm.z [(3, .app 31)]), bC 4 (GTerm.q u24.2), (1000000, .cells (GL06Read.k2 u3q) (GL06Read.h4_9f u3q))], []⟩ (.cons (cspec_l06Read_wants h550) .nil) ?_
                  refine Wc.exit ?_
                  obtain rfl := Option.some.inj h541
                  exact ⟨_, _, _, rfl, rfl⟩
                · refine Wc.cF h548 ?_
                  refine Wc.fx [] ⟨[tP 0 1000000, tP 2 2, (3, (.v (.sl (List.map GTerm.c (u01 ++ [vd.2]))), [(0, .app 31)])), tP 4 4], [(2, .cells GTerm.z [(3, .app 31)]), (4, .cells (GTerm.q u0w) [(3, .app 31)]), (1000000, .cells (GL06Read.k2 u0p.1) (GL06Read.h4_9f u0p.1))], []⟩ ?_
                  refine Wc.skip ?_
                  obtain ⟨u3r, h551, h541⟩ := obind h541
                  refine Wc.r2 [{}, { r := some (.v (.tup []) []), outs := [(0, .p (GL06Read.k2 u3r) (GL06Read.h4_9f u3r))] }] ⟨[tP 0 1000000, tP 2 2, (3, (.v (.sl (List.map GTerm.c (u01 ++ [vd.2]))), [(0, .app 31)])), tP 4 4], [(2, .cells GTerm.z [(3, .app 31)]), (4, .cells (GTerm.q u0w) [(3, .app 31)]), (1000000, .cells (GL06Read.k2 u3r) (GL06Read.h4_9f u3r))], []⟩ (.cons (cspec_l06Read_wants h551) .nil) ?_
                  exact ⟨_, Nat.lt_succ_self _, _, _, rfl, h541⟩
            · refine Wc.cF h542 ?_
              refine Wc.fx [.un (.b 4 3)] ⟨[tP 2 2, (3, (.v (.sl (List.map GTerm.c u01)), [(0, .app 31)])), tP 4 4], [(2, .cells GTerm.z [(3, .app 31)]), bC 4 (GTerm.q u0w), (1000000, .cells (GL06Read.k2 zc) (GL06Read.h4_9f zc))], []⟩ ?_
              refine Wc.exit ?_
              obtain rfl := Option.some.inj h541
              exact ⟨_, _, _, rfl, rfl⟩
        · rintro st ⟨u17, u72, uo, rfl, rfl⟩
          apply Wc.seq
          apply Wc.seq
          refine Wc.r2 [{}, { v := some (aI (u17.length : Int)) }] ⟨[tP 2 2, (3, (.v (.sl (List.map GTerm.c u17)), [(0, .app 31)])), tP 4 4, tI 5 (wr.i64 ((u17.length : Int) - 1))], [(2, .cells GTerm.z [(3, .app 31)]), bC 4 (GTerm.q u72), (1000000, .cells (GL06Read.k2 uo) (GL06Read.h4_9f uo))], []⟩ (.cons (len_obl GTerm.c u17) .nil) ?_
          obtain ⟨out2, h552, h⟩ := obind h
          refine Wc.lastJ (fun st => ∃ (u73 : GTerm), out2 = .done u73 ∧ st = ⟨[tP 2 2, tP 4 4], [(2, .cells GTerm.z [(3, .app 31)]), bC 4 (GTerm.q u73), (1000000, .cells (GL06Read.k2 uo) (GL06Read.h4_9f uo))], []⟩) ?_ ?_
          · refine Wc.block ?_
            refine Wc.loop (fun m st => ∃ (u3s : Int) (u50 : GTerm), st = ⟨[tP 2 2, (3, (.v (.sl (List.map GTerm.c u17)), [(0, .app 31)])), tP 4 4, tI 5 u3s], [(2, .cells GTerm.z [(3, .app 31)]), bC 4 (GTerm.q u50), (1000000, .cells (GL06Read.k2 uo) (GL06Read.h4_9f uo))], []⟩ ∧ pspec_l06Read_row_L2 k (pspec_l06Read_atom k) (pspec_l06Read_primary k) (pspec_l06Read_round k) (pspec_l06Read_row k) (pspec_l06Read_some k) (pspec_l06Read_term k) u17 m u3s u50 = some out2) ?_ k ⟨_, _, rfl, h552⟩
            rintro m st ⟨u3s, u50, rfl, h552⟩
            cases m with
            | zero => exact (onone h552).elim
            | succ m =>
              apply Wc.seq
              apply Wc.seq
              refine Wc.r0 ⟨[tP 2 2, (3, (.v (.sl (List.map GTerm.c u17)), [(0, .app 31)])), tP 4 4, tI 5 u3s, tB 35 (decide (u3s ≥ 0))], [(2, .cells GTerm.z [(3, .app 31)]), bC 4 (GTerm.q u50), (1000000, .cells (GL06Read.k2 uo) (GL06Read.h4_9f uo))], []⟩ ?_
              rcases oif h552 with ⟨h553, h552⟩ | ⟨h553, h552⟩
              · refine Wc.cT h553 ?_
                refine Wc.fx [] ⟨[tP 2 2, (3, (.v (.sl (List.map GTerm.c u17)), [(0, .app 31)])), tP 4 4, tI 5 u3s], [(2, .cells GTerm.z [(3, .app 31)]), bC 4 (GTerm.q u50), (1000000, .cells (GL06Read.k2 uo) (GL06Read.h4_9f uo))], []⟩ ?_
                refine Wc.skip ?_
                apply Wc.seq
                refine Wc.block ?_
                obtain ⟨u9r, h554, h552⟩ := obind h552
                obtain ⟨u9s, h555, h552⟩ := obind h552
                refine Wc.draw hmix [{}, {}, { v := some (.vptr (GTerm.q u9r)) }, {}, {}, { r := some (.v (.agg (GTerm.q u9s)) [(3, .app 31)]) }, { tk := [43] }] [] [2, 3, 4, 5] [2, 4, 1000000] [] ⟨[tP 2 2, (3, (.v (.sl (List.map GTerm.c u17)), [(0, .app 31)])), tP 4 4, tI 5 u3s], [(2, .cells GTerm.z [(3, .app 31)]), (4, .cells (GTerm.q u9s) [(3, .app 31)]), (1000000, .cells (GL06Read.k2 uo) (GL06Read.h4_9f uo))], []⟩ _ (by kernel_rfl) (fun X => by kernel_rfl) (.cons (at_obl (c := GTerm.c) (GTerm.c_eq u9r) GTerm.c_len h554) (.cons (len_ok 4 (GTerm.q u9r)) (.cons (cspec_l03Two h555) .nil))) ?_
                refine Wc.r3 [] [.un (.b 4 3)] ⟨[tP 2 2, (3, (.v (.sl (List.map GTerm.c u17)), [(0, .app 31)])), tP 4 4, tI 5 (wr.i64 (u3s - 1))], [(2, .cells GTerm.z [(3, .app 31)]), bC 4 (GTerm.q u9s), (1000000, .cells (GL06Read.k2 uo) (GL06Read.h4_9f uo))], []⟩ .nil ?_
                exact ⟨_, Nat.lt_succ_self _, _, _, rfl, h552⟩
              · refine Wc.cF h553 ?_
                refine Wc.fx [] ⟨[tP 2 2, tP 4 4], [(2, .cells GTerm.z [(3, .app 31)]), bC 4 (GTerm.q u50), (1000000, .cells (GL06Read.k2 uo) (GL06Read.h4_9f uo))], []⟩ ?_
                refine Wc.exit ?_
                obtain rfl := Option.some.inj h552
                exact ⟨_, rfl, rfl⟩
          · rintro st ⟨u73, rfl, rfl⟩
            apply Wc.seq
            refine Wc.r0 ⟨[tP 2 2], [bC 2 (GTerm.q u73), (1000000, .cells (GL06Read.k2 uo) (GL06Read.h4_9f uo))], []⟩ ?_
            obtain rfl := Option.some.inj h; exact Wc.ret dn
    · intro zf u46 r h
      rw [pspec_l06Read_some] at h
      refine FnO.o2 Tryz.func124 (rfl : Tryz.f124.body = some _) ?_
      intro w0 X0 Fin pv0 pb gt
      apply Wc.seq
      refine Wc.r0 ⟨[tP 0 1000000, tS 1 u46, tP 4 4], [(4, .cells GTerm.z [(3, .app 31)]), (1000000, .cells (GL06Read.k2 zf) (GL06Read.h4_9f zf))], []⟩ ?_
      apply Wc.seq
      refine Wc.r1 [{}, {}, {}, { tk := [8] }] ⟨[tP 0 1000000, tP 4 4, tP 5 5], [(4, .cells GTerm.z [(3, .app 31)]), (5, .cells [aI 4, .str u46, aI 0, .sl (List.map GTerm.c [])] [(3, .app 31)]), (1000000, .cells (GL06Read.k2 zf) (GL06Read.h4_9f zf))], []⟩ ?_
      obtain ⟨out1, h556, h⟩ := obind h
      refine Wc.seqJ (fun st => ∃ (u74 : GTerm) (u2v : GL06Read), out1 = .done (u74, u2v) ∧ st = ⟨[tP 4 4, tP 5 5], [(4, .cells GTerm.z [(3, .app 31)]), (5, .cells (GTerm.q u74) [(3, .app 31)]), (1000000, .cells (GL06Read.k2 u2v) (GL06Read.h4_9f u2v))], []⟩) ?_ ?_
      · refine Wc.block ?_
        refine Wc.loop (fun m st => ∃ (us : GTerm) (zd : GL06Read), st = ⟨[tP 0 1000000, tP 4 4, tP 5 5], [(4, .cells GTerm.z [(3, .app 31)]), (5, .cells (GTerm.q us) [(3, .app 31)]), (1000000, .cells (GL06Read.k2 zd) (GL06Read.h4_9f zd))], []⟩ ∧ pspec_l06Read_some_L1 k (pspec_l06Read_atom k) (pspec_l06Read_primary k) (pspec_l06Read_round k) (pspec_l06Read_row k) (pspec_l06Read_some k) (pspec_l06Read_term k) m us zd = some out1) ?_ k ⟨_, _, rfl, h556⟩
        rintro m st ⟨us, zd, rfl, h556⟩
        cases m with
        | zero => exact (onone h556).elim
        | succ m =>
          apply Wc.seq
          apply Wc.seq
          refine Wc.r0 ⟨[tP 0 1000000, tP 4 4, tP 5 5, tB 13 (!zd.gBad)], [(4, .cells GTerm.z [(3, .app 31)]), (5, .cells (GTerm.q us) [(3, .app 31)]), (1000000, .cells (GL06Read.k2 zd) (GL06Read.h4_9f zd))], []⟩ ?_
          rcases oif h556 with ⟨h557, h556⟩ | ⟨h557, h556⟩
          · refine Wc.cT h557 ?_
            refine Wc.fx [] ⟨[tP 0 1000000, tP 4 4, tP 5 5], [(4, .cells GTerm.z [(3, .app 31)]), (5, .cells (GTerm.q us) [(3, .app 31)]), (1000000, .cells (GL06Read.k2 zd) (GL06Read.h4_9f zd))], []⟩ ?_
            refine Wc.skip ?_
            refine Wc.block ?_
            apply Wc.seq
            obtain ⟨un, h558, h556⟩ := obind h556
            refine Wc.r2 [{}, { r := some (.v (.agg (GTerm.q un.2)) []), outs := [(0, .p (GL06Read.k2 un.1) (GL06Read.h4_9f un.1))] }] ⟨[tP 0 1000000, tP 4 4, tP 5 5, tP 6 6], [(4, .cells GTerm.z [(3, .app 31)]), (5, .cells (GTerm.q us) [(3, .app 31)]), bC 6 (GTerm.q un.2), (1000000, .cells (GL06Read.k2 un.1) (GL06Read.h4_9f un.1))], []⟩ (.cons (ih_pspec_l06Read_term h558) .nil) ?_
            apply Wc.seq
            apply Wc.seq
            refine Wc.r2 [{}, {}, { v := some (aI (us.gKids.length : Int)) }] ⟨[tP 0 1000000, tP 4 4, tP 5 5, tP 6 6, tB 19 (decide ((us.gKids.length : Int) ≥ 5))], [(4, .cells GTerm.z [(3, .app 31)]), (5, .cells (GTerm.q us) [(3, .app 31)]), bC 6 (GTerm.q un.2), (1000000, .cells (GL06Read.k2 un.1) (GL06Read.h4_9f un.1))], []⟩ (.cons (len_obl GTerm.c us.gKids) .nil) ?_
            rcases oif h556 with ⟨h559, h556⟩ | ⟨h559, h556⟩
            · refine Wc.cT h559 ?_
              apply Wc.seq
              refine Wc.r0 ⟨[tP 4 4, tP 5 5], [(4, .cells GTerm.z [(3, .app 31)]), (5, .cells (GTerm.q us) [(3, .app 31)]), (1000000, .cells [.sl (List.map GSign.c un.1.gList), aI un.1.gAt, .bool true, aI un.1.gDeep, .slx] (GL06Read.h4_9f un.1))], []⟩ ?_
              refine Wc.exit ?_
              obtain rfl := Option.some.inj h556
              exact ⟨_, _, rfl, rfl⟩
            · refine Wc.cF h559 ?_
              refine Wc.fx [] ⟨[tP 0 1000000, tP 4 4, tP 5 5, tP 6 6], [(4, .cells GTerm.z [(3, .app 31)]), (5, .cells (GTerm.q us) [(3, .app 31)]), bC 6 (GTerm.q un.2), (1000000, .cells (GL06Read.k2 un.1) (GL06Read.h4_9f un.1))], []⟩ ?_
              refine Wc.skip ?_
              apply Wc.seq
              obtain ⟨h560, h556⟩ := oguard h556
              refine Wc.r2 [{}, { md := 1 }, {}, { c := some (List.map GTerm.c [un.2]) }, { c := some (List.map GTerm.c (us.gKids ++ [un.2])), tk := [24] }, {}, { tk := [27] }] ⟨[tP 0 1000000, tP 4 4, tP 5 5], [(4, .cells GTerm.z [(3, .app 31)]), (5, .cells [aI us.gKind, .str us.gName, aI us.gNum, .sl (List.map GTerm.c (us.gKids ++ [un.2]))] [(3, .app 31)]), (1000000, .cells (GL06Read.k2 un.1) (GL06Read.h4_9f un.1))], []⟩ (.cons (cl_cons (c := GTerm.c) (x := un.2) (GTerm.c_eq un.2) (cl_nil GTerm.c)) (.cons (app_re2 GTerm.c us.gKids [un.2]) (.cons (app_leaf (c := GTerm.c) (ys := [un.2]) GTerm.c_leaf) (.cons (app_obl2 (c := GTerm.c) (xs := us.gKids) (ys := [un.2]) GTerm.c_len h560) .nil)))) ?_
              apply Wc.seq
              apply Wc.seq
              obtain ⟨zm, h561, h556⟩ := obind h556
              refine Wc.r2 [{}, { r := some (.v (.bool zm.2) []), outs := [(0, .p (GL06Read.k2 zm.1) (GL06Read.h4_9f zm.1))] }] ⟨[tP 0 1000000, tP 4 4, tP 5 5, tB 30 zm.2], [(4, .cells GTerm.z [(3, .app 31)]), (5, .cells [aI us.gKind, .str us.gName, aI us.gNum, .sl (List.map GTerm.c (us.gKids ++ [un.2]))] [(3, .app 31)]), (1000000, .cells (GL06Read.k2 zm.1) (GL06Read.h4_9f zm.1))], []⟩ (.cons (cspec_l06Read_mark h561) .nil) ?_
              rcases oif h556 with ⟨h562, h556⟩ | ⟨h562, h556⟩
              · refine Wc.cT h562 ?_
                refine Wc.fx [] ⟨[tP 4 4, tP 5 5], [(4, .cells GTerm.z [(3, .app 31)]), (5, .cells [aI us.gKind, .str us.gName, aI us.gNum, .sl (List.map GTerm.c (us.gKids ++ [un.2]))] [(3, .app 31)]), (1000000, .cells (GL06Read.k2 zm.1) (GL06Read.h4_9f zm.1))], []⟩ ?_
                refine Wc.exit ?_
                obtain rfl := Option.some.inj h556
                exact ⟨_, _, rfl, rfl⟩
              · refine Wc.cF h562 ?_
                refine Wc.fx [] ⟨[tP 0 1000000, tP 4 4, tP 5 5], [(4, .cells GTerm.z [(3, .app 31)]), (5, .cells [aI us.gKind, .str us.gName, aI us.gNum, .sl (List.map GTerm.c (us.gKids ++ [un.2]))] [(3, .app 31)]), (1000000, .cells (GL06Read.k2 zm.1) (GL06Read.h4_9f zm.1))], []⟩ ?_
                refine Wc.skip ?_
                obtain ⟨u3t, h563, h556⟩ := obind h556
                refine Wc.r2 [{}, { r := some (.v (.tup []) []), outs := [(0, .p (GL06Read.k2 u3t) (GL06Read.h4_9f u3t))] }] ⟨[tP 0 1000000, tP 4 4, tP 5 5], [(4, .cells GTerm.z [(3, .app 31)]), (5, .cells [aI us.gKind, .str us.gName, aI us.gNum, .sl (List.map GTerm.c (us.gKids ++ [un.2]))] [(3, .app 31)]), (1000000, .cells (GL06Read.k2 u3t) (GL06Read.h4_9f u3t))], []⟩ (.cons (cspec_l06Read_wants h563) .nil) ?_
                exact ⟨_, Nat.lt_succ_self _, _, _, rfl, h556⟩
          · refine Wc.cF h557 ?_
            refine Wc.fx [] ⟨[tP 4 4, tP 5 5], [(4, .cells GTerm.z [(3, .app 31)]), (5, .cells (GTerm.q us) [(3, .app 31)]), (1000000, .cells (GL06Read.k2 zd) (GL06Read.h4_9f zd))], []⟩ ?_
            refine Wc.exit ?_
            obtain rfl := Option.some.inj h556
            exact ⟨_, _, rfl, rfl⟩
      · rintro st ⟨u74, u2v, rfl, rfl⟩
        apply Wc.seq
        refine Wc.r1 [{ md := 1 }, { tk := [33] }] ⟨[tP 4 4], [(4, .cells (GTerm.q u74) [(3, .app 31)]), (1000000, .cells (GL06Read.k2 u2v) (GL06Read.h4_9f u2v))], []⟩ ?_
        obtain rfl := Option.some.inj h; exact Wc.ret dn
    · intro ub v6 r h
      rw [pspec_l06Read_term] at h
      refine FnO.o2 Tryz.func94 (rfl : Tryz.f94.body = some _) ?_
      intro w0 X0 Fin pv0 pb gt
      apply Wc.seq
      refine Wc.r0 ⟨[tP 0 1000000, tI 1 v6, tP 4 4], [(4, .cells GTerm.z [(3, .app 31)]), (1000000, .cells (GL06Read.k2 ub) (GL06Read.h4_9f ub))], []⟩ ?_
      apply Wc.seq
      refine Wc.r0 ⟨[tP 0 1000000, tI 1 v6, tP 4 4], [(4, .cells GTerm.z [(3, .app 31)]), (1000000, .cells [.sl (List.map GSign.c ub.gList), aI ub.gAt, .bool ub.gBad, aI (wr.i64 (ub.gDeep + 1)), .slx] (GL06Read.h4_9f ub))], []⟩ ?_
      apply Wc.seq
      refine Wc.seqJ (fun st => ∃ (u9u : Bool), st = ⟨[tP 0 1000000, tI 1 v6, tP 4 4, tB 28 u9u], [(4, .cells GTerm.z [(3, .app 31)]), (1000000, .cells [.sl (List.map GSign.c ub.gList), aI ub.gAt, .bool ub.gBad, aI (wr.i64 (ub.gDeep + 1)), .slx] (GL06Read.h4_9f ub))], []⟩ ∧ pspec_l06Read_term_J1 k (pspec_l06Read_atom k) (pspec_l06Read_primary k) (pspec_l06Read_round k) (pspec_l06Read_row k) (pspec_l06Read_some k) (pspec_l06Read_term k) ub v6 u9u = some r) ?_ ?_
      · rcases oif h with ⟨h574, h⟩ | ⟨h574, h⟩
        · refine Wc.r2 [{}, {}, {}, {}, { re := some (.bool true) }] ⟨[tP 0 1000000, tI 1 v6, tP 4 4, tB 28 true], [(4, .cells GTerm.z [(3, .app 31)]), (1000000, .cells [.sl (List.map GSign.c ub.gList), aI ub.gAt, .bool ub.gBad, aI (wr.i64 (ub.gDeep + 1)), .slx] (GL06Read.h4_9f ub))], []⟩ (.cons (congrArg AV.bool h574) .nil) ?_
          exact ⟨_, rfl, h⟩
        · refine Wc.r2 [{}, {}, {}, {}, { re := some (.bool false) }] ⟨[tP 0 1000000, tI 1 v6, tP 4 4, tB 28 (decide ((wr.i64 (ub.gDeep + 1)) > 130))], [(4, .cells GTerm.z [(3, .app 31)]), (1000000, .cells [.sl (List.map GSign.c ub.gList), aI ub.gAt, .bool ub.gBad, aI (wr.i64 (ub.gDeep + 1)), .slx] (GL06Read.h4_9f ub))], []⟩ (.cons (congrArg AV.bool h574) .nil) ?_
          exact ⟨_, rfl, h⟩
      · rintro st ⟨u9u, rfl, h⟩
        rcases oif h with ⟨h564, h⟩ | ⟨h564, h⟩
        · refine Wc.cT h564 ?_
          apply Wc.seq
          refine Wc.r0 ⟨[tP 4 4], [(4, .cells GTerm.z [(3, .app 31)]), (1000000, .cells [.sl (List.map GSign.c ub.gList), aI ub.gAt, .bool true, aI (wr.i64 (ub.gDeep + 1)), .slx] (GL06Read.h4_9f ub))], []⟩ ?_
          apply Wc.seq
          refine Wc.r1 [{}, { tk := [32] }] ⟨[tP 4 4], [(4, .cells GTerm.z [(3, .app 31)]), (1000000, .cells [.sl (List.map GSign.c ub.gList), aI ub.gAt, .bool true, aI (wr.i64 (ub.gDeep + 1)), .slx] (GL06Read.h4_9f ub))], []⟩ ?_
          refine Wc.fx [.un (.b 4 3)] ⟨[tP 4 4], [bC 4 GTerm.z, (1000000, .cells [.sl (List.map GSign.c ub.gList), aI ub.gAt, .bool true, aI (wr.i64 (ub.gDeep + 1)), .slx] (GL06Read.h4_9f ub))], []⟩ ?_
          obtain rfl := Option.some.inj h; exact Wc.ret dn
        · refine Wc.cF h564 ?_
          refine Wc.fx [] ⟨[tP 0 1000000, tI 1 v6, tP 4 4], [(4, .cells GTerm.z [(3, .app 31)]), (1000000, .cells [.sl (List.map GSign.c ub.gList), aI ub.gAt, .bool ub.gBad, aI (wr.i64 (ub.gDeep + 1)), .slx] (GL06Read.h4_9f ub))], []⟩ ?_
          refine Wc.skip ?_
          apply Wc.seq
          obtain ⟨u1g, h565, h⟩ := obind h
          refine Wc.r2 [{}, {}, { r := some (.v (.tup [.agg (GTerm.q u1g.2.1), aI u1g.2.2]) []), outs := [(0, .p (GL06Read.k2 u1g.1) (GL06Read.h4_9f u1g.1))] }] ⟨[tP 0 1000000, tI 1 v6, tP 4 4, tP 5 5, tI 6 u1g.2.2], [(4, .cells GTerm.z [(3, .app 31)]), bC 5 (GTerm.q u1g.2.1), (1000000, .cells (GL06Read.k2 u1g.1) (GL06Read.h4_9f u1g.1))], []⟩ (.cons (ih_pspec_l06Read_primary h565) .nil) ?_
          obtain ⟨out2, h566, h⟩ := obind h
          refine Wc.seqJ (fun st => ∃ (u66 : GTerm) (u06 : GL06Read), out2 = .done (u66, u06) ∧ st = ⟨[tP 0 1000000, tP 4 4, tP 5 5], [(4, .cells GTerm.z [(3, .app 31)]), bC 5 (GTerm.q u66), (1000000, .cells (GL06Read.k2 u06) (GL06Read.h4_9f u06))], []⟩) ?_ ?_
          · refine Wc.block ?_
            refine Wc.loop (fun m st => ∃ (u51 : Int) (u0g : GTerm) (ze : GL06Read), st = ⟨[tP 0 1000000, tI 1 v6, tP 4 4, tP 5 5, tI 6 u51], [(4, .cells GTerm.z [(3, .app 31)]), bC 5 (GTerm.q u0g), (1000000, .cells (GL06Read.k2 ze) (GL06Read.h4_9f ze))], []⟩ ∧ pspec_l06Read_term_L2 k (pspec_l06Read_atom k) (pspec_l06Read_primary k) (pspec_l06Read_round k) (pspec_l06Read_row k) (pspec_l06Read_some k) (pspec_l06Read_term k) v6 m u51 u0g ze = some out2) ?_ k ⟨_, _, _, rfl, h566⟩
            rintro m st ⟨u51, u0g, ze, rfl, h566⟩
            cases m with
            | zero => exact (onone h566).elim
            | succ m =>
              apply Wc.seq
              apply Wc.seq
              refine Wc.r0 ⟨[tP 0 1000000, tI 1 v6, tP 4 4, tP 5 5, tI 6 u51, tB 43 (!ze.gBad)], [(4, .cells GTerm.z [(3, .app 31)]), bC 5 (GTerm.q u0g), (1000000, .cells (GL06Read.k2 ze) (GL06Read.h4_9f ze))], []⟩ ?_
              rcases oif h566 with ⟨h567, h566⟩ | ⟨h567, h566⟩
              · refine Wc.cT h567 ?_
                refine Wc.fx [] ⟨[tP 0 1000000, tI 1 v6, tP 4 4, tP 5 5, tI 6 u51], [(4, .cells GTerm.z [(3, .app 31)]), bC 5 (GTerm.q u0g), (1000000, .cells (GL06Read.k2 ze) (GL06Read.h4_9f ze))], []⟩ ?_
                refine Wc.skip ?_
                refine Wc.block ?_
                apply Wc.seq
                obtain ⟨ua, h568, h566⟩ := obind h566
                refine Wc.r2 [{}, { r := some (.v (.tup [.agg (GOp.q ua.2.1), .bool ua.2.2]) []), outs := [(0, .p (GL06Read.k2 ua.1) (GL06Read.h4_9f ua.1))] }] ⟨[tP 0 1000000, tI 1 v6, tP 4 4, tP 5 5, tI 6 u51, tP 7 7, tB 8 ua.2.2], [(4, .cells GTerm.z [(3, .app 31)]), bC 5 (GTerm.q u0g), bC 7 (GOp.q ua.2.1), (1000000, .cells (GL06Read.k2 ua.1) (GL06Read.h4_9f ua.1))], []⟩ (.cons (cspec_l06Read_infix h568) .nil) ?_
                apply Wc.seq
                apply Wc.seq
                rcases oif h566 with ⟨h569, h566⟩ | ⟨h569, h566⟩
                · refine Wc.r2 [{}, {}, { re := some (.bool true) }] ⟨[tP 0 1000000, tI 1 v6, tP 4 4, tP 5 5, tP 7 7, tB 62 true], [(4, .cells GTerm.z [(3, .app 31)]), bC 5 (GTerm.q u0g), bC 7 (GOp.q ua.2.1), (1000000, .cells (GL06Read.k2 ua.1) (GL06Read.h4_9f ua.1))], []⟩ (.cons (congrArg AV.bool h569) .nil) ?_
                  refine Wc.cT rfl ?_
                  refine Wc.fx [] ⟨[tP 0 1000000, tP 4 4, tP 5 5], [(4, .cells GTerm.z [(3, .app 31)]), bC 5 (GTerm.q u0g), (1000000, .cells (GL06Read.k2 ua.1) (GL06Read.h4_9f ua.1))], []⟩ ?_
                  refine Wc.exit ?_
                  obtain rfl := Option.some.inj h566
                  exact ⟨_, _, rfl, rfl⟩
                · rcases oif h566 with ⟨h570, h566⟩ | ⟨h570, h566⟩
                  · refine Wc.r2 [{}, {}, { re := some (.bool false) }, {}, {}, {}, {}, {}, { re := some (.bool true) }] ⟨[tP 0 1000000, tI 1 v6, tP 4 4, tP 5 5, tP 7 7, tB 62 true], [(4, .cells GTerm.z [(3, .app 31)]), bC 5 (GTerm.q u0g), bC 7 (GOp.q ua.2.1), (1000000, .cells (GL06Read.k2 ua.1) (GL06Read.h4_9f ua.1))], []⟩ (.cons (congrArg AV.bool h569) (.cons (congrArg AV.bool h570) .nil)) ?_
                    refine Wc.cT rfl ?_
                    refine Wc.fx [] ⟨[tP 0 1000000, tP 4 4, tP 5 5], [(4, .cells GTerm.z [(3, .app 31)]), bC 5 (GTerm.q u0g), (1000000, .cells (GL06Read.k2 ua.1) (GL06Read.h4_9f ua.1))], []⟩ ?_
                    refine Wc.exit ?_
                    obtain rfl := Option.some.inj h566
                    exact ⟨_, _, rfl, rfl⟩
                  · refine Wc.r2 [{}, {}, { re := some (.bool false) }, {}, {}, {}, {}, {}, { re := some (.bool false) }] ⟨[tP 0 1000000, tI 1 v6, tP 4 4, tP 5 5, tP 7 7, tB 62 (decide (ua.2.1.gLeft < u51))], [(4, .cells GTerm.z [(3, .app 31)]), bC 5 (GTerm.q u0g), bC 7 (GOp.q ua.2.1), (1000000, .cells (GL06Read.k2 ua.1) (GL06Read.h4_9f ua.1))], []⟩ (.cons (congrArg AV.bool h569) (.cons (congrArg AV.bool h570) .nil)) ?_
                    rcases oif h566 with ⟨h571, h566⟩ | ⟨h571, h566⟩
                    · refine Wc.cT h571 ?_
                      refine Wc.fx [] ⟨[tP 0 1000000, tP 4 4, tP 5 5], [(4, .cells GTerm.z [(3, .app 31)]), bC 5 (GTerm.q u0g), (1000000, .cells (GL06Read.k2 ua.1) (GL06Read.h4_9f ua.1))], []⟩ ?_
                      refine Wc.exit ?_
                      obtain rfl := Option.some.inj h566
                      exact ⟨_, _, rfl, rfl⟩
                    · refine Wc.cF h571 ?_
                      refine Wc.fx [] ⟨[tP 0 1000000, tI 1 v6, tP 4 4, tP 5 5, tP 7 7], [(4, .cells GTerm.z [(3, .app 31)]), bC 5 (GTerm.q u0g), bC 7 (GOp.q ua.2.1), (1000000, .cells (GL06Read.k2 ua.1) (GL06Read.h4_9f ua.1))], []⟩ ?_
                      refine Wc.skip ?_
                      apply Wc.seq
                      refine Wc.r0 ⟨[tP 0 1000000, tI 1 v6, tP 4 4, tP 5 5, tP 7 7], [(4, .cells GTerm.z [(3, .app 31)]), bC 5 (GTerm.q u0g), bC 7 (GOp.q ua.2.1), (1000000, .cells [.sl (List.map GSign.c ua.1.gList), aI (wr.i64 (ua.1.gAt + 1)), .bool ua.1.gBad, aI ua.1.gDeep, .slx] (GL06Read.h4_9f ua.1))], []⟩ ?_
                      apply Wc.seq
                      obtain ⟨zt, h572, h566⟩ := obind h566
                      refine Wc.r2 [{}, {}, {}, { r := some (.v (.agg (GTerm.q zt.2)) []), outs := [(0, .p (GL06Read.k2 zt.1) (GL06Read.h4_9f zt.1))] }] ⟨[tP 0 1000000, tI 1 v6, tP 4 4, tP 5 5, tP 7 7, tP 9 9], [(4, .cells GTerm.z [(3, .app 31)]), bC 5 (GTerm.q u0g), bC 7 (GOp.q ua.2.1), bC 9 (GTerm.q zt.2), (1000000, .cells (GL06Read.k2 zt.1) (GL06Read.h4_9f zt.1))], []⟩ (.cons (ih_pspec_l06Read_term h572) .nil) ?_
                      apply Wc.seq
                      obtain ⟨u9t, h573, h566⟩ := obind h566
                      refine Wc.r2 [{}, {}, {}, {}, { r := some (.v (.agg (GTerm.q u9t)) [(3, .app 31)]) }, { tk := [79] }] ⟨[tP 0 1000000, tI 1 v6, tP 4 4, tP 5 5, tP 7 7], [(4, .cells GTerm.z [(3, .app 31)]), (5, .cells (GTerm.q u9t) [(3, .app 31)]), bC 7 (GOp.q ua.2.1), (1000000, .cells (GL06Read.k2 zt.1) (GL06Read.h4_9f zt.1))], []⟩ (.cons (cspec_l03Two h573) .nil) ?_
                      refine Wc.r3 [] [.un (.b 5 3)] ⟨[tP 0 1000000, tI 1 v6, tP 4 4, tP 5 5, tI 6 ua.2.1.gPrio], [(4, .cells GTerm.z [(3, .app 31)]), bC 5 (GTerm.q u9t), (1000000, .cells (GL06Read.k2 zt.1) (GL06Read.h4_9f zt.1))], []⟩ .nil ?_
                      exact ⟨_, Nat.lt_succ_self _, _, _, _, rfl, h566⟩
              · refine Wc.cF h567 ?_
                refine Wc.fx [] ⟨[tP 0 1000000, tP 4 4, tP 5 5], [(4, .cells GTerm.z [(3, .app 31)]), bC 5 (GTerm.q u0g), (1000000, .cells (GL06Read.k2 ze) (GL06Read.h4_9f ze))], []⟩ ?_
                refine Wc.exit ?_
                obtain rfl := Option.some.inj h566
                exact ⟨_, _, rfl, rfl⟩
          · rintro st ⟨u66, u06, rfl, rfl⟩
            apply Wc.seq
            refine Wc.r0 ⟨[tP 4 4, tP 5 5], [(4, .cells GTerm.z [(3, .app 31)]), bC 5 (GTerm.q u66), (1000000, .cells [.sl (List.map GSign.c u06.gList), aI u06.gAt, .bool u06.gBad, aI (wr.i64 (u06.gDeep - 1)), .slx] (GL06Read.h4_9f u06))], []⟩ ?_
            apply Wc.seq
            refine Wc.r0 ⟨[tP 4 4], [bC 4 (GTerm.q u66), (1000000, .cells [.sl (List.map GSign.c u06.gList), aI u06.gAt, .bool u06.gBad, aI (wr.i64 (u06.gDeep - 1)), .slx] (GL06Read.h4_9f u06))], []⟩ ?_
            obtain rfl := Option.some.inj h; exact Wc.ret dn
theorem cspec_l06Read_term {k : Nat} {ub : GL06Read} {v6 : Int} {r : GL06Read × GTerm} (h : pspec_l06Read_term k ub v6 = some r) : FnO Tryz.prog 94 [.p (GL06Read.k2 ub) (GL06Read.h4_9f ub), .v (aI v6) []] (.v (.agg (GTerm.q r.2)) []) [(0, .p (GL06Read.k2 r.1) (GL06Read.h4_9f r.1))] := (all_pspec_l06Read_atom k).2.2.2.2.2 h

def pspec_ReadSigns_J1 (k : Nat) (u0x : Int) (zu : GL06Read × GTerm) (u9x : Bool) (u0k : GL06Read) : Option (GTerm × (List ByteArray) × Int × Bool) :=
  if u9x = true then
    some (GTerm.mk 0 (bs []) 0 [], [], u0x, false)
  else
    if ([] : List ByteArray).length + u0k.gNames.length ≤ 1073741824 then
      some (zu.2, u0k.gNames, wr.i64 (u0k.gAt + 1), true)
    else none
def pspec_ReadSigns (k : Nat) (u3b : List GSign) (u47 : Int) : Option (GTerm × (List ByteArray) × Int × Bool) :=
  (pspec_l06Behind k u3b u47).bind fun u0x =>
  (pspec_l01In k u47 0 (wr.i64 ((u3b.length : Int) - 1))).bind fun uck =>
  if (!uck) = true then
    some (GTerm.mk 0 (bs []) 0 [], [], u0x, false)
  else
    (pspec_l06Read_term k (GL06Read.mk u3b u47 false 0 []) 1200).bind fun zu =>
    (pspec_l06Read_is k zu.1 5 (bs [])).bind fun zn =>
    if (!zn.2) = true then
      pspec_ReadSigns_J1 k u0x zu true zn.1
    else
      (pspec_TermOk k zu.2).bind fun ucl =>
      pspec_ReadSigns_J1 k u0x zu (!ucl) zn.1
theorem cspec_ReadSigns {k : Nat} {u3b : List GSign} {u47 : Int} {r : GTerm × (List ByteArray) × Int × Bool} (h : pspec_ReadSigns k u3b u47 = some r) : FnO Tryz.prog 72 [.v (.sl (List.map GSign.c u3b)) [], .v (aI u47) []] (.v (.tup [.agg (GTerm.q r.1), .sl (List.map cS r.2.1), aI r.2.2.1, .bool r.2.2.2]) [(4, .app 9)]) [] := by
  refine FnO.o2 Tryz.func72 (rfl : Tryz.f72.body = some _) ?_
  intro w0 X0 Fin pv0 pb gt
  unfold pspec_ReadSigns at h
  apply Wc.seq
  refine Wc.r0 ⟨[tV 0 (.sl (List.map GSign.c u3b)), tI 1 u47, tP 4 4], [(4, .cells GTerm.z [(3, .app 31)])], []⟩ ?_
  apply Wc.seq
  obtain ⟨u0x, h584, h⟩ := obind h
  refine Wc.r2 [{}, {}, { r := some (.v (aI u0x) []) }] ⟨[tV 0 (.sl (List.map GSign.c u3b)), tI 1 u47, tP 4 4, tI 8 u0x], [(4, .cells GTerm.z [(3, .app 31)])], []⟩ (.cons (cspec_l06Behind h584) .nil) ?_
  apply Wc.seq
  apply Wc.seq
  obtain ⟨uck, h585, h⟩ := obind h
  refine Wc.r2 [{}, {}, { v := some (aI (u3b.length : Int)) }, {}, { r := some (.v (.bool uck) []) }] ⟨[tV 0 (.sl (List.map GSign.c u3b)), tI 1 u47, tP 4 4, tI 8 u0x, tB 19 (!uck)], [(4, .cells GTerm.z [(3, .app 31)])], []⟩ (.cons (len_obl GSign.c u3b) (.cons (cspec_l01In h585) .nil)) ?_
  rcases oif h with ⟨h586, h⟩ | ⟨h586, h⟩
  · refine Wc.cT h586 ?_
    apply Wc.seq
    refine Wc.r2 [{}, { c := some (List.map cS []) }, {}, { tk := [20] }, { tk := [21] }] ⟨[tP 4 4, (5, (.v (.sl (List.map cS [])), [(0, .app 9)])), tI 6 u0x, tB 7 false], [(4, .cells GTerm.z [(3, .app 31)])], []⟩ (.cons (cl_nil cS) .nil) ?_
    refine Wc.fx [.un (.b 4 3)] ⟨[tP 4 4, (5, (.v (.sl (List.map cS [])), [(0, .app 9)])), tI 6 u0x, tB 7 false], [bC 4 GTerm.z], []⟩ ?_
    obtain rfl := Option.some.inj h; exact Wc.ret dn
  · refine Wc.cF h586 ?_
    refine Wc.fx [] ⟨[tV 0 (.sl (List.map GSign.c u3b)), tI 1 u47, tP 4 4, tI 8 u0x], [(4, .cells GTerm.z [(3, .app 31)])], []⟩ ?_
    refine Wc.skip ?_
    apply Wc.seq
    refine Wc.r1 [{}, {}, {}, { tk := [25] }] ⟨[tP 4 4, tI 8 u0x, tP 9 26], [(4, .cells GTerm.z [(3, .app 31)]), (26, .cells [.sl (List.map GSign.c u3b), aI u47, .bool false, aI 0, .sl (List.map cS [])] [(4, .app 9)])], []⟩ ?_
    apply Wc.seq
    obtain ⟨zu, h587, h⟩ := obind h
    refine Wc.r2 [{}, { r := some (.v (.agg (GTerm.q zu.2)) []), outs := [(0, .p (GL06Read.k2 zu.1) (GL06Read.h4_9f zu.1))], fx := [.ow (.b 26 4) false] }] ⟨[tP 4 4, tI 8 u0x, tP 9 26, tP 10 10], [(4, .cells GTerm.z [(3, .app 31)]), bC 10 (GTerm.q zu.2), (26, .cells (GL06Read.k2 zu.1) (GL06Read.h4_9f zu.1))], []⟩ (.cons (cspec_l06Read_term h587) .nil) ?_
    apply Wc.seq
    refine Wc.seqJ (fun st => ∃ (u9x : Bool) (u0k : GL06Read), st = ⟨[tP 4 4, tI 8 u0x, tP 9 26, tP 10 10, tB 36 u9x], [(4, .cells GTerm.z [(3, .app 31)]), bC 10 (GTerm.q zu.2), (26, .cells (GL06Read.k2 u0k) (GL06Read.h4_9f u0k))], []⟩ ∧ pspec_ReadSigns_J1 k u0x zu u9x u0k = some r) ?_ ?_
    · obtain ⟨zn, h590, h⟩ := obind h
      rcases oif h with ⟨h591, h⟩ | ⟨h591, h⟩
      · refine Wc.r2 [{}, { r := some (.v (.bool zn.2) []), outs := [(0, .p (GL06Read.k2 zn.1) (GL06Read.h4_9f zn.1))] }, {}, { re := some (.bool true) }] ⟨[tP 4 4, tI 8 u0x, tP 9 26, tP 10 10, tB 36 true], [(4, .cells GTerm.z [(3, .app 31)]), bC 10 (GTerm.q zu.2), (26, .cells (GL06Read.k2 zn.1) (GL06Read.h4_9f zn.1))], []⟩ (.cons (cspec_l06Read_is h590) (.cons (congrArg AV.bool h591) .nil)) ?_
        exact ⟨_, _, rfl, h⟩
      · obtain ⟨ucl, h592, h⟩ := obind h
        refine Wc.r2 [{}, { r := some (.v (.bool zn.2) []), outs := [(0, .p (GL06Read.k2 zn.1) (GL06Read.h4_9f zn.1))] }, {}, { re := some (.bool false) }, {}, { r := some (.v (.bool ucl) []) }] ⟨[tP 4 4, tI 8 u0x, tP 9 26, tP 10 10, tB 36 (!ucl)], [(4, .cells GTerm.z [(3, .app 31)]), bC 10 (GTerm.q zu.2), (26, .cells (GL06Read.k2 zn.1) (GL06Read.h4_9f zn.1))], []⟩ (.cons (cspec_l06Read_is h590) (.cons (congrArg AV.bool h591) (.cons (cspec_TermOk h592) .nil))) ?_
        exact ⟨_, _, rfl, h⟩
    · rintro st ⟨u9x, u0k, rfl, h⟩
      rcases oif h with ⟨h588, h⟩ | ⟨h588, h⟩
      · refine Wc.cT h588 ?_
        apply Wc.seq
        refine Wc.r2 [{}, { c := some (List.map cS []) }, {}, { tk := [37] }, { tk := [38] }] ⟨[tP 4 4, (5, (.v (.sl (List.map cS [])), [(0, .app 9)])), tI 6 u0x, tB 7 false], [(4, .cells GTerm.z [(3, .app 31)])], []⟩ (.cons (cl_nil cS) .nil) ?_
        refine Wc.fx [.un (.b 4 3)] ⟨[tP 4 4, (5, (.v (.sl (List.map cS [])), [(0, .app 9)])), tI 6 u0x, tB 7 false], [bC 4 GTerm.z], []⟩ ?_
        obtain rfl := Option.some.inj h; exact Wc.ret dn
      · refine Wc.cF h588 ?_
        refine Wc.fx [] ⟨[tP 4 4, tP 9 26, tP 10 10], [(4, .cells GTerm.z [(3, .app 31)]), bC 10 (GTerm.q zu.2), (26, .cells (GL06Read.k2 u0k) (GL06Read.h4_9f u0k))], []⟩ ?_
        refine Wc.skip ?_
        apply Wc.seq
        obtain ⟨h589, h⟩ := oguard h
        refine Wc.draw hmix [{}, { c := some (List.map cS []) }, {}, {}, {}, {}, { c := some (List.map cS u0k.gNames), tk := [41] }, {}, {}, {}, {}, {}, {}, { tk := [46] }] [] [4, 5, 6, 7] [4] [] ⟨[tP 4 4, (5, (.v (.sl (List.map cS u0k.gNames)), [(0, .app 9)])), tI 6 (wr.i64 (u0k.gAt + 1)), tB 7 true], [bC 4 (GTerm.q zu.2)], []⟩ _ (by kernel_rfl) (fun X => by kernel_rfl) (.cons (cl_nil cS) (.cons (app_re0 cS u0k.gNames) (.cons (app_leaf (c := cS) (ys := u0k.gNames) cS_leaf) (.cons (app_obl2 (c := cS) (xs := []) (ys := u0k.gNames) cS_len h589) .nil)))) ?_
        obtain rfl := Option.some.inj h; exact Wc.ret dn

def pspec_ReadTerm_J1 (k : Nat) (z5 : GTerm × (List ByteArray) × Int × Bool) (u9y : Bool) : Option (GTerm × (List ByteArray) × Bool) :=
  if u9y = true then
    some (GTerm.mk 0 (bs []) 0 [], [], false)
  else
    some (z5.1, z5.2.1, true)
def pspec_ReadTerm (k : Nat) (u9z : ByteArray) : Option (GTerm × (List ByteArray) × Bool) :=
  (pspec_SignsOf k u9z).bind fun u4k =>
  (pspec_ReadSigns k u4k.1 0).bind fun z5 =>
  if (!z5.2.2.2) = true then
    pspec_ReadTerm_J1 k z5 true
  else
    pspec_ReadTerm_J1 k z5 (z5.2.2.1 != (u4k.1.length : Int))
theorem cspec_ReadTerm {k : Nat} {u9z : ByteArray} {r : GTerm × (List ByteArray) × Bool} (h : pspec_ReadTerm k u9z = some r) : FnO Tryz.prog 34 [.v (.str u9z) []] (.v (.tup [.agg (GTerm.q r.1), .sl (List.map cS r.2.1), .bool r.2.2]) [(4, .app 9)]) [] := by
  refine FnO.o2 Tryz.func34 (rfl : Tryz.f34.body = some _) ?_
  intro w0 X0 Fin pv0 pb gt
  unfold pspec_ReadTerm at h
  apply Wc.seq
  refine Wc.r0 ⟨[tS 0 u9z, tP 2 2], [(2, .cells GTerm.z [(3, .app 31)])], []⟩ ?_
  apply Wc.seq
  obtain ⟨u4k, h597, h⟩ := obind h
  refine Wc.r2 [{}, { r := some (.v (.tup [.sl (List.map GSign.c u4k.1), .bool u4k.2]) [(0, .app 102)]) }, { tk := [13] }, { tk := [11] }, {}, { tk := [14] }] ⟨[tP 2 2, (5, (.v (.sl (List.map GSign.c u4k.1)), [(0, .app 102)]))], [(2, .cells GTerm.z [(3, .app 31)])], []⟩ (.cons (cspec_SignsOf h597) .nil) ?_
  apply Wc.seq
  obtain ⟨z5, h598, h⟩ := obind h
  refine Wc.r2 [{}, { r := some (.v (.tup [.agg (GTerm.q z5.1), .sl (List.map cS z5.2.1), aI z5.2.2.1, .bool z5.2.2.2]) [(4, .app 9)]) }, { tk := [18] }, {}, { tk := [16] }, {}, {}, {}, {}, { tk := [20] }] ⟨[tP 2 2, (5, (.v (.sl (List.map GSign.c u4k.1)), [(0, .app 102)])), tP 7 7, (8, (.v (.sl (List.map cS z5.2.1)), [(0, .app 9)])), tI 9 z5.2.2.1, tB 10 z5.2.2.2], [(2, .cells GTerm.z [(3, .app 31)]), bC 7 (GTerm.q z5.1)], []⟩ (.cons (cspec_ReadSigns h598) .nil) ?_
  apply Wc.seq
  refine Wc.seqJ (fun st => ∃ (u9y : Bool), st = ⟨[tP 2 2, tP 7 7, (8, (.v (.sl (List.map cS z5.2.1)), [(0, .app 9)])), tB 30 u9y], [(2, .cells GTerm.z [(3, .app 31)]), bC 7 (GTerm.q z5.1)], []⟩ ∧ pspec_ReadTerm_J1 k z5 u9y = some r) ?_ ?_
  · rcases oif h with ⟨h600, h⟩ | ⟨h600, h⟩
    · refine Wc.r2 [{}, {}, { re := some (.bool true) }] ⟨[tP 2 2, tP 7 7, (8, (.v (.sl (List.map cS z5.2.1)), [(0, .app 9)])), tB 30 true], [(2, .cells GTerm.z [(3, .app 31)]), bC 7 (GTerm.q z5.1)], []⟩ (.cons (congrArg AV.bool h600) .nil) ?_
      exact ⟨_, rfl, h⟩
    · refine Wc.r2 [{}, {}, { re := some (.bool false) }, {}, { tk := [5] }, { v := some (aI (u4k.1.length : Int)) }] ⟨[tP 2 2, tP 7 7, (8, (.v (.sl (List.map cS z5.2.1)), [(0, .app 9)])), tB 30 (z5.2.2.1 != (u4k.1.length : Int))], [(2, .cells GTerm.z [(3, .app 31)]), bC 7 (GTerm.q z5.1)], []⟩ (.cons (congrArg AV.bool h600) (.cons (len_obl GSign.c u4k.1) .nil)) ?_
      exact ⟨_, rfl, h⟩
  · rintro st ⟨u9y, rfl, h⟩
    rcases oif h with ⟨h599, h⟩ | ⟨h599, h⟩
    · refine Wc.cT h599 ?_
      apply Wc.seq
      refine Wc.r2 [{}, { c := some (List.map cS []) }, { tk := [31] }, { tk := [32] }] ⟨[tP 2 2, (3, (.v (.sl (List.map cS [])), [(0, .app 9)])), tB 4 false], [(2, .cells GTerm.z [(3, .app 31)])], []⟩ (.cons (cl_nil cS) .nil) ?_
      refine Wc.fx [.un (.b 2 3)] ⟨[tP 2 2, (3, (.v (.sl (List.map cS [])), [(0, .app 9)])), tB 4 false], [bC 2 GTerm.z], []⟩ ?_
      obtain rfl := Option.some.inj h; exact Wc.ret dn
    · refine Wc.cF h599 ?_
      refine Wc.fx [] ⟨[tP 2 2, tP 7 7, (8, (.v (.sl (List.map cS z5.2.1)), [(0, .app 9)]))], [(2, .cells GTerm.z [(3, .app 31)]), bC 7 (GTerm.q z5.1)], []⟩ ?_
      refine Wc.skip ?_
      apply Wc.seq
      refine Wc.r1 [{}, { tk := [8] }, {}, { tk := [34] }] ⟨[tP 2 2, (3, (.v (.sl (List.map cS z5.2.1)), [(0, .app 9)])), tB 4 true], [bC 2 (GTerm.q z5.1)], []⟩ ?_
      obtain rfl := Option.some.inj h; exact Wc.ret dn

def pspec_l08Lines (k : Nat) : Option (List ByteArray) :=
  some [(bs [112, 40, 97, 41]), (bs [112, 40, 98, 41]), (bs [112, 40, 99, 41]), (bs [113, 40, 88, 41, 32, 58, 45, 32, 112, 40, 88, 41]), (bs [113, 40, 122, 41]), (bs [114, 40, 88, 44, 32, 89, 41, 32, 58, 45, 32, 112, 40, 88, 41, 44, 32, 113, 40, 89, 41]), (bs [97, 112, 112, 40, 91, 93, 44, 32, 76, 44, 32, 76, 41]), (bs [97, 112, 112, 40, 91, 72, 124, 84, 93, 44, 32, 76, 44, 32, 91, 72, 124, 82, 93, 41, 32, 58, 45, 32, 97, 112, 112, 40, 84, 44, 32, 76, 44, 32, 82, 41]), (bs [108, 101, 110, 40, 91, 93, 44, 32, 48, 41]), (bs [108, 101, 110, 40, 91, 95, 124, 84, 93, 44, 32, 78, 41, 32, 58, 45, 32, 108, 101, 110, 40, 84, 44, 32, 77, 41, 44, 32, 78, 32, 105, 115, 32, 77, 32, 43, 32, 49]), (bs [115, 40, 88, 41, 32, 58, 45, 32, 112, 40, 88, 41, 44, 32, 33]), (bs [115, 40, 122, 41]), (bs [116, 40, 88, 41, 32, 58, 45, 32, 40, 112, 40, 88, 41, 32, 45, 62, 32, 116, 114, 117, 101, 32, 59, 32, 88, 32, 61, 32, 110, 111, 110, 101, 41]), (bs [117, 40, 88, 41, 32, 58, 45, 32, 92, 43, 32, 112, 40, 88, 41]), (bs [119, 40, 88, 41, 32, 58, 45, 32, 112, 40, 88, 41, 44, 32, 119, 114, 105, 116, 101, 40, 88, 41]), (bs [99, 40, 88, 41, 32, 58, 45, 32, 99, 97, 116, 99, 104, 40, 112, 40, 88, 41, 44, 32, 95, 44, 32, 116, 114, 117, 101, 41]), (bs [101, 40, 88, 41, 32, 58, 45, 32, 99, 97, 116, 99, 104, 40, 116, 104, 114, 111, 119, 40, 88, 41, 44, 32, 89, 44, 32, 119, 114, 105, 116, 101, 40, 89, 41, 41]), (bs [110, 40, 88, 41, 32, 58, 45, 32, 88, 32, 105, 115, 32, 51, 32, 47, 47, 32, 48]), (bs [109, 40, 88, 41, 32, 58, 45, 32, 99, 97, 116, 99, 104, 40, 110, 40, 88, 41, 44, 32, 101, 114, 114, 111, 114, 40, 69, 44, 32, 95, 41, 44, 32, 40, 88, 32, 61, 32, 69, 41, 41]), (bs [97, 100, 100, 40, 88, 41, 32, 58, 45, 32, 97, 115, 115, 101, 114, 116, 122, 40, 112, 40, 88, 41, 41]), (bs [100, 101, 108, 40, 88, 41, 32, 58, 45, 32, 114, 101, 116, 114, 97, 99, 116, 40, 112, 40, 88, 41, 41]), (bs [108, 111, 111, 112, 32, 58, 45, 32, 108, 111, 111, 112]), (bs [118, 40, 88, 41, 32, 58, 45, 32, 99, 97, 108, 108, 40, 112, 44, 32, 88, 41]), (bs [100, 40, 88, 44, 32, 89, 41, 32, 58, 45, 32, 88, 32, 61, 32, 89, 32, 59, 32, 89, 32, 61, 32, 98]), (bs [103, 40, 102, 40, 88, 41, 44, 32, 88, 41]), (bs [103, 40, 104, 40, 88, 41, 44, 32, 88, 41]), (bs [103, 40, 49, 44, 32, 111, 110, 101, 41]), (bs [107, 40, 88, 41, 32, 58, 45, 32, 117, 110, 107, 110, 111, 119, 110, 40, 88, 41]), (bs [121, 40, 88, 41, 32, 58, 45, 32, 112, 40, 88, 41, 44, 32, 97, 115, 115, 101, 114, 116, 122, 40, 112, 40, 100, 41, 41, 44, 32, 88, 32, 61, 32, 98])]
theorem cspec_l08Lines {k : Nat} {r : (List ByteArray)} (h : pspec_l08Lines k = some r) : FnO Tryz.prog 36 [] (.v (.sl (List.map cS r)) [(0, .app 9)]) [] := by
  refine FnO.o2 Tryz.func36 (rfl : Tryz.f36.body = some _) ?_
  intro w0 X0 Fin pv0 pb gt
  unfold pspec_l08Lines at h
  apply Wc.seq
  refine Wc.r0 ⟨[], [], []⟩ ?_
  apply Wc.seq
  refine Wc.r2 [{ c := some (List.map cS [(bs [112, 40, 97, 41]), (bs [112, 40, 98, 41]), (bs [112, 40, 99, 41]), (bs [113, 40, 88, 41, 32, 58, 45, 32, 112, 40, 88, 41]), (bs [113, 40, 122, 41]), (bs [114, 40, 88, 44, 32, 89, 41, 32, 58, 45, 32, 112, 40, 88, 41, 44, 32, 113, 40, 89, 41]), (bs [97, 112, 112, 40, 91, 93, 44, 32, 76, 44, 32, 76, 41]), (bs [97, 112, 112, 40, 91, 72, 124, 84, 93, 44, 32, 76, 44, 32, 91, 72, 124, 82, 93, 41, 32, 58, 45, 32, 97, 112, 112, 40, 84, 44, 32, 76, 44, 32, 82, 41]), (bs [108, 101, 110, 40, 91, 93, 44, 32, 48, 41]), (bs [108, 101, 110, 40, 91, 95, 124, 84, 93, 44, 32, 78, 41, 32, 58, 45, 32, 108, 101, 110, 40, 84, 44, 32, 77, 41, 44, 32, 78, 32, 105, 115, 32, 77, 32, 43, 32, 49]), (bs [115, 40, 88, 41, 32, 58, 45, 32, 112, 40, 88, 41, 44, 32, 33]), (bs [115, 40, 122, 41]), (bs [116, 40, 88, 41, 32, 58, 45, 32, 40, 112, 40, 88, 41, 32, 45, 62, 32, 116, 114, 117, 101, 32, 59, 32, 88, 32, 61, 32, 110, 111, 110, 101, 41]), (bs [117, 40, 88, 41, 32, 58, 45, 32, 92, 43, 32, 112, 40, 88, 41]), (bs [119, 40, 88, 41, 32, 58, 45, 32, 112, 40, 88, 41, 44, 32, 119, 114, 105, 116, 101, 40, 88, 41]), (bs [99, 40, 88, 41, 32, 58, 45, 32, 99, 97, 116, 99, 104, 40, 112, 40, 88, 41, 44, 32, 95, 44, 32, 116, 114, 117, 101, 41]), (bs [101, 40, 88, 41, 32, 58, 45, 32, 99, 97, 116, 99, 104, 40, 116, 104, 114, 111, 119, 40, 88, 41, 44, 32, 89, 44, 32, 119, 114, 105, 116, 101, 40, 89, 41, 41]), (bs [110, 40, 88, 41, 32, 58, 45, 32, 88, 32, 105, 115, 32, 51, 32, 47, 47, 32, 48]), (bs [109, 40, 88, 41, 32, 58, 45, 32, 99, 97, 116, 99, 104, 40, 110, 40, 88, 41, 44, 32, 101, 114, 114, 111, 114, 40, 69, 44, 32, 95, 41, 44, 32, 40, 88, 32, 61, 32, 69, 41, 41]), (bs [97, 100, 100, 40, 88, 41, 32, 58, 45, 32, 97, 115, 115, 101, 114, 116, 122, 40, 112, 40, 88, 41, 41]), (bs [100, 101, 108, 40, 88, 41, 32, 58, 45, 32, 114, 101, 116, 114, 97, 99, 116, 40, 112, 40, 88, 41, 41]), (bs [108, 111, 111, 112, 32, 58, 45, 32, 108, 111, 111, 112]), (bs [118, 40, 88, 41, 32, 58, 45, 32, 99, 97, 108, 108, 40, 112, 44, 32, 88, 41]), (bs [100, 40, 88, 44, 32, 89, 41, 32, 58, 45, 32, 88, 32, 61, 32, 89, 32, 59, 32, 89, 32, 61, 32, 98]), (bs [103, 40, 102, 40, 88, 41, 44, 32, 88, 41]), (bs [103, 40, 104, 40, 88, 41, 44, 32, 88, 41]), (bs [103, 40, 49, 44, 32, 111, 110, 101, 41]), (bs [107, 40, 88, 41, 32, 58, 45, 32, 117, 110, 107, 110, 111, 119, 110, 40, 88, 41]), (bs [121, 40, 88, 41, 32, 58, 45, 32, 112, 40, 88, 41, 44, 32, 97, 115, 115, 101, 114, 116, 122, 40, 112, 40, 100, 41, 41, 44, 32, 88, 32, 61, 32, 98])]) }, { tk := [1] }] ⟨[(0, (.v (.sl (List.map cS [(bs [112, 40, 97, 41]), (bs [112, 40, 98, 41]), (bs [112, 40, 99, 41]), (bs [113, 40, 88, 41, 32, 58, 45, 32, 112, 40, 88, 41]), (bs [113, 40, 122, 41]), (bs [114, 40, 88, 44, 32, 89, 41, 32, 58, 45, 32, 112, 40, 88, 41, 44, 32, 113, 40, 89, 41]), (bs [97, 112, 112, 40, 91, 93, 44, 32, 76, 44, 32, 76, 41]), (bs [97, 112, 112, 40, 91, 72, 124, 84, 93, 44, 32, 76, 44, 32, 91, 72, 124, 82, 93, 41, 32, 58, 45, 32, 97, 112, 112, 40, 84, 44, 32, 76, 44, 32, 82, 41]), (bs [108, 101, 110, 40, 91, 93, 44, 32, 48, 41]), (bs [108, 101, 110, 40, 91, 95, 124, 84, 93, 44, 32, 78, 41, 32, 58, 45, 32, 108, 101, 110, 40, 84, 44, 32, 77, 41, 44, 32, 78, 32, 105, 115, 32, 77, 32, 43, 32, 49]), (bs [115, 40, 88, 41, 32, 58, 45, 32, 112, 40, 88, 41, 44, 32, 33]), (bs [115, 40, 122, 41]), (bs [116, 40, 88, 41, 32, 58, 45, 32, 40, 112, 40, 88, 41, 32, 45, 62, 32, 116, 114, 117, 101, 32, 59, 32, 88, 32, 61, 32, 110, 111, 110, 101, 41]), (bs [117, 40, 88, 41, 32, 58, 45, 32, 92, 43, 32, 112, 40, 88, 41]), (bs [119, 40, 88, 41, 32, 58, 45, 32, 112, 40, 88, 41, 44, 32, 119, 114, 105, 116, 101, 40, 88, 41]), (bs [99, 40, 88, 41, 32, 58, 45, 32, 99, 97, 116, 99, 104, 40, 112, 40, 88, 41, 44, 32, 95, 44, 32, 116, 114, 117, 101, 41]), (bs [101, 40, 88, 41, 32, 58, 45, 32, 99, 97, 116, 99, 104, 40, 116, 104, 114, 111, 119, 40, 88, 41, 44, 32, 89, 44, 32, 119, 114, 105, 116, 101, 40, 89, 41, 41]), (bs [110, 40, 88, 41, 32, 58, 45, 32, 88, 32, 105, 115, 32, 51, 32, 47, 47, 32, 48]), (bs [109, 40, 88, 41, 32, 58, 45, 32, 99, 97, 116, 99, 104, 40, 110, 40, 88, 41, 44, 32, 101, 114, 114, 111, 114, 40, 69, 44, 32, 95, 41, 44, 32, 40, 88, 32, 61, 32, 69, 41, 41]), (bs [97, 100, 100, 40, 88, 41, 32, 58, 45, 32, 97, 115, 115, 101, 114, 116, 122, 40, 112, 40, 88, 41, 41]), (bs [100, 101, 108, 40, 88, 41, 32, 58, 45, 32, 114, 101, 116, 114, 97, 99, 116, 40, 112, 40, 88, 41, 41]), (bs [108, 111, 111, 112, 32, 58, 45, 32, 108, 111, 111, 112]), (bs [118, 40, 88, 41, 32, 58, 45, 32, 99, 97, 108, 108, 40, 112, 44, 32, 88, 41]), (bs [100, 40, 88, 44, 32, 89, 41, 32, 58, 45, 32, 88, 32, 61, 32, 89, 32, 59, 32, 89, 32, 61, 32, 98]), (bs [103, 40, 102, 40, 88, 41, 44, 32, 88, 41]), (bs [103, 40, 104, 40, 88, 41, 44, 32, 88, 41]), (bs [103, 40, 49, 44, 32, 111, 110, 101, 41]), (bs [107, 40, 88, 41, 32, 58, 45, 32, 117, 110, 107, 110, 111, 119, 110, 40, 88, 41]), (bs [121, 40, 88, 41, 32, 58, 45, 32, 112, 40, 88, 41, 44, 32, 97, 115, 115, 101, 114, 116, 122, 40, 112, 40, 100, 41, 41, 44, 32, 88, 32, 61, 32, 98])])), [(0, .app 9)]))], [], []⟩ (.cons (cl_cons (c := cS) (x := (bs [112, 40, 97, 41])) rfl (cl_cons (c := cS) (x := (bs [112, 40, 98, 41])) rfl (cl_cons (c := cS) (x := (bs [112, 40, 99, 41])) rfl (cl_cons (c := cS) (x := (bs [113, 40, 88, 41, 32, 58, 45, 32, 112, 40, 88, 41])) rfl (cl_cons (c := cS) (x := (bs [113, 40, 122, 41])) rfl (cl_cons (c := cS) (x := (bs [114, 40, 88, 44, 32, 89, 41, 32, 58, 45, 32, 112, 40, 88, 41, 44, 32, 113, 40, 89, 41])) rfl (cl_cons (c := cS) (x := (bs [97, 112, 112, 40, 91, 93, 44, 32, 76, 44, 32, 76, 41])) rfl (cl_cons (c := cS) (x := (bs [97, 112, 112, 40, 91, 72, 124, 84, 93, 44, 32, 76, 44, 32, 91, 72, 124, 82, 93, 41, 32, 58, 45, 32, 97, 112, 112, 40, 84, 44, 32, 76, 44, 32, 82, 41])) rfl (cl_cons (c := cS) (x := (bs [108, 101, 110, 40, 91, 93, 44, 32, 48, 41])) rfl (cl_cons (c := cS) (x := (bs [108, 101, 110, 40, 91, 95, 124, 84, 93, 44, 32, 78, 41, 32, 58, 45, 32, 108, 101, 110, 40, 84, 44, 32, 77, 41, 44, 32, 78, 32, 105, 115, 32, 77, 32, 43, 32, 49])) rfl (cl_cons (c := cS) (x := (bs [115, 40, 88, 41, 32, 58, 45, 32, 112, 40, 88, 41, 44, 32, 33])) rfl (cl_cons (c := cS) (x := (bs [115, 40, 122, 41])) rfl (cl_cons (c := cS) (x := (bs [116, 40, 88, 41, 32, 58, 45, 32, 40, 112, 40, 88, 41, 32, 45, 62, 32, 116, 114, 117, 101, 32, 59, 32, 88, 32, 61, 32, 110, 111, 110, 101, 41])) rfl (cl_cons (c := cS) (x := (bs [117, 40, 88, 41, 32, 58, 45, 32, 92, 43, 32, 112, 40, 88, 41])) rfl (cl_cons (c := cS) (x := (bs [119, 40, 88, 41, 32, 58, 45, 32, 112, 40, 88, 41, 44, 32, 119, 114, 105, 116, 101, 40, 88, 41])) rfl (cl_cons (c := cS) (x := (bs [99, 40, 88, 41, 32, 58, 45, 32, 99, 97, 116, 99, 104, 40, 112, 40, 88, 41, 44, 32, 95, 44, 32, 116, 114, 117, 101, 41])) rfl (cl_cons (c := cS) (x := (bs [101, 40, 88, 41, 32, 58, 45, 32, 99, 97, 116, 99, 104, 40, 116, 104, 114, 111, 119, 40, 88, 41, 44, 32, 89, 44, 32, 119, 114, 105, 116, 101, 40, 89, 41, 41])) rfl (cl_cons (c := cS) (x := (bs [110, 40, 88, 41, 32, 58, 45, 32, 88, 32, 105, 115, 32, 51, 32, 47, 47, 32, 48])) rfl (cl_cons (c := cS) (x := (bs [109, 40, 88, 41, 32, 58, 45, 32, 99, 97, 116, 99, 104, 40, 110, 40, 88, 41, 44, 32, 101, 114, 114, 111, 114, 40, 69, 44, 32, 95, 41, 44, 32, 40, 88, 32, 61, 32, 69, 41, 41])) rfl (cl_cons (c := cS) (x := (bs [97, 100, 100, 40, 88, 41, 32, 58, 45, 32, 97, 115, 115, 101, 114, 116, 122, 40, 112, 40, 88, 41, 41])) rfl (cl_cons (c := cS) (x := (bs [100, 101, 108, 40, 88, 41, 32, 58, 45, 32, 114, 101, 116, 114, 97, 99, 116, 40, 112, 40, 88, 41, 41])) rfl (cl_cons (c := cS) (x := (bs [108, 111, 111, 112, 32, 58, 45, 32, 108, 111, 111, 112])) rfl (cl_cons (c := cS) (x := (bs [118, 40, 88, 41, 32, 58, 45, 32, 99, 97, 108, 108, 40, 112, 44, 32, 88, 41])) rfl (cl_cons (c := cS) (x := (bs [100, 40, 88, 44, 32, 89, 41, 32, 58, 45, 32, 88, 32, 61, 32, 89, 32, 59, 32, 89, 32, 61, 32, 98])) rfl (cl_cons (c := cS) (x := (bs [103, 40, 102, 40, 88, 41, 44, 32, 88, 41])) rfl (cl_cons (c := cS) (x := (bs [103, 40, 104, 40, 88, 41, 44, 32, 88, 41])) rfl (cl_cons (c := cS) (x := (bs [103, 40, 49, 44, 32, 111, 110, 101, 41])) rfl (cl_cons (c := cS) (x := (bs [107, 40, 88, 41, 32, 58, 45, 32, 117, 110, 107, 110, 111, 119, 110, 40, 88, 41])) rfl (cl_cons (c := cS) (x := (bs [121, 40, 88, 41, 32, 58, 45, 32, 112, 40, 88, 41, 44, 32, 97, 115, 115, 101, 114, 116, 122, 40, 112, 40, 100, 41, 41, 44, 32, 88, 32, 61, 32, 98])) rfl (cl_nil cS)))))))))))))))))))))))))))))) .nil) ?_
  obtain rfl := Option.some.inj h; exact Wc.ret dn

def pspec_l01Once (k : Nat) (ua0 : GL01Cur) (ua1 : Int) : Option (GL01Cur × Bool) :=
  (pspec_l01Below k ua0 ua1).bind fun u68 =>
  some (u68.1, (u68.2 == 0))
theorem cspec_l01Once {k : Nat} {ua0 : GL01Cur} {ua1 : Int} {r : GL01Cur × Bool} (h : pspec_l01Once k ua0 ua1 = some r) : FnO Tryz.prog 69 [.p (GL01Cur.q ua0) [], .v (aI ua1) []] (.v (.bool r.2) []) [(0, .p (GL01Cur.q r.1) [])] := by
  refine FnO.o2 Tryz.func69 (rfl : Tryz.f69.body = some _) ?_
  intro w0 X0 Fin pv0 pb gt
  unfold pspec_l01Once at h
  apply Wc.seq
  refine Wc.r0 ⟨[tP 0 1000000, tI 1 ua1], [bC 1000000 (GL01Cur.q ua0)], []⟩ ?_
  apply Wc.seq
  obtain ⟨u68, h601, h⟩ := obind h
  refine Wc.r2 [{}, {}, { r := some (.v (aI u68.2) []), outs := [(0, .p (GL01Cur.q u68.1) [])] }] ⟨[tB 4 (u68.2 == 0)], [bC 1000000 (GL01Cur.q u68.1)], []⟩ (.cons (cspec_l01Below h601) .nil) ?_
  obtain rfl := Option.some.inj h; exact Wc.ret dn

def pspec_l08Db_J2 (k : Nat) (bk_ : Int → GDb → Option (Out (GL01Cur × GDb) GDb)) (zv : GDb) (u1i : GClause × Bool) (vo : Int) (ua2 : Bool) : Option (Out (GL01Cur × GDb) GDb) :=
  if ua2 = true then
    (pspec_Added k zv u1i.1).bind fun u75 =>
    bk_ (wr.i64 (vo + 1)) u75.1
  else
    bk_ (wr.i64 (vo + 1)) zv
def pspec_l08Db_L1 (k : Nat) (vh : (List ByteArray)) (ut : GL01Cur × Int) : Nat → Int → GDb → Option (Out (GL01Cur × GDb) GDb)
  | 0, _, _ => none
  | m + 1, vo, zv =>
    if (decide (vo < (vh.length : Int))) = true then
      (at' vh vo).bind fun ua3 =>
      if sumOk ua3 (bs [32, 46]) then
        (pspec_ReadTerm k (ua3 ++ (bs [32, 46]))).bind fun u53 =>
        if (3 : Int) ≠ 0 then
          (at' [(bs [111, 110, 101]), (bs [116, 119, 111]), (bs [])] (Int.tmod vo 3)).bind fun ucm =>
          (pspec_ClauseOf k u53.1 ucm).bind fun u1i =>
          if u53.2.2 = true then
            if u1i.2 = true then
              if (ut.2 == 0) = true then
                pspec_l08Db_J2 k (pspec_l08Db_L1 k vh ut m) zv u1i vo true
              else
                if (7 : Int) ≠ 0 then
                  pspec_l08Db_J2 k (pspec_l08Db_L1 k vh ut m) zv u1i vo ((Int.tmod vo 7) != ut.2)
                else none
            else
              pspec_l08Db_J2 k (pspec_l08Db_L1 k vh ut m) zv u1i vo false
          else
            pspec_l08Db_J2 k (pspec_l08Db_L1 k vh ut m) zv u1i vo false
        else none
      else none
    else
      some (.done zv)
def pspec_l08Db (k : Nat) (u69 : GL01Cur) : Option (GL01Cur × GDb) :=
  (pspec_l08Lines k).bind fun vh =>
  (pspec_l01Below k u69 7).bind fun ut =>
  (pspec_l08Db_L1 k vh ut k 0 (GDb.mk [] [])).bind fun out1 => match out1 with
  | .ret r => some r
  | .done u54 =>
    (pspec_l01Once k ut.1 2).bind fun u3u =>
    if u3u.2 = true then
      (pspec_Opened k u54 (bs [117, 110, 107, 110, 111, 119, 110, 47, 49])).bind fun ua4 =>
      some (u3u.1, ua4)
    else
      some (u3u.1, u54)
set_option maxHeartbeats 4000000 in
theorem cspec_l08Db {k : Nat} {u69 : GL01Cur} {r : GL01Cur × GDb} (h : pspec_l08Db k u69 = some r) : FnO Tryz.prog 31 [.p (GL01Cur.q u69) []] (.v (.agg (GDb.q r.2)) [(0, .app 35), (1, .app 9)]) [(0, .p (GL01Cur.q r.1) [])] := by
  refine FnO.o2 Tryz.func31 (rfl : Tryz.f31.body = some _) ?_
  intro w0 X0 Fin pv0 pb gt
  unfold pspec_l08Db at h
  apply Wc.seq
  refine Wc.r0 ⟨[tP 0 1000000, tP 2 2], [(2, .cells GDb.z [(0, .app 35), (1, .app 9)]), bC 1000000 (GL01Cur.q u69)], []⟩ ?_
  apply Wc.seq
  refine Wc.r1 [{}, {}, { tk := [12] }] ⟨[tP 0 1000000, tP 2 2, tP 3 3], [(2, .cells GDb.z [(0, .app 35), (1, .app 9)]), (3, .cells GDb.z [(0, .app 35), (1, .app 9)]), bC 1000000 (GL01Cur.q u69)], []⟩ ?_
  apply Wc.seq
  obtain ⟨vh, h621, h⟩ := obind h
  refine Wc.r2 [{ r := some (.v (.sl (List.map cS vh)) [(0, .app 9)]) }, { tk := [13] }] ⟨[tP 0 1000000, tP 2 2, tP 3 3, (4, (.v (.sl (List.map cS vh)), [(0, .app 9)]))], [(2, .cells GDb.z [(0, .app 35), (1, .app 9)]), (3, .cells GDb.z [(0, .app 35), (1, .app 9)]), bC 1000000 (GL01Cur.q u69)], []⟩ (.cons (cspec_l08Lines h621) .nil) ?_
  apply Wc.seq
  obtain ⟨ut, h622, h⟩ := obind h
  refine Wc.r2 [{}, { r := some (.v (aI ut.2) []), outs := [(0, .p (GL01Cur.q ut.1) [])] }] ⟨[tP 0 1000000, tP 2 2, tP 3 3, (4, (.v (.sl (List.map cS vh)), [(0, .app 9)])), tI 5 ut.2], [(2, .cells GDb.z [(0, .app 35), (1, .app 9)]), (3, .cells GDb.z [(0, .app 35), (1, .app 9)]), bC 1000000 (GL01Cur.q ut.1)], []⟩ (.cons (cspec_l01Below h622) .nil) ?_
  apply Wc.seq
  apply Wc.seq
  refine Wc.r0 ⟨[tP 0 1000000, tP 2 2, tP 3 3, (4, (.v (.sl (List.map cS vh)), [(0, .app 9)])), tI 5 ut.2, tI 6 0], [(2, .cells GDb.z [(0, .app 35), (1, .app 9)]), (3, .cells GDb.z [(0, .app 35), (1, .app 9)]), bC 1000000 (GL01Cur.q ut.1)], []⟩ ?_
  obtain ⟨out1, h623, h⟩ := obind h
  refine Wc.lastJ (fun st => ∃ (u54 : GDb), out1 = .done u54 ∧ st = ⟨[tP 0 1000000, tP 2 2, tP 3 3], [(2, .cells GDb.z [(0, .app 35), (1, .app 9)]), (3, .cells (GDb.q u54) [(0, .app 35), (1, .app 9)]), bC 1000000 (GL01Cur.q ut.1)], []⟩) ?_ ?_
  · refine Wc.block ?_
    refine Wc.loop (fun m st => ∃ (vo : Int) (zv : GDb), st = ⟨[tP 0 1000000, tP 2 2, tP 3 3, (4, (.v (.sl (List.map cS vh)), [(0, .app 9)])), tI 5 ut.2, tI 6 vo], [(2, .cells GDb.z [(0, .app 35), (1, .app 9)]), (3, .cells (GDb.q zv) [(0, .app 35), (1, .app 9)]), bC 1000000 (GL01Cur.q ut.1)], []⟩ ∧ pspec_l08Db_L1 k vh ut m vo zv = some out1) ?_ k ⟨_, _, rfl, h623⟩
    rintro m st ⟨vo, zv, rfl, h623⟩
    cases m with
    | zero => exact (onone h623).elim
    | succ m =>
      apply Wc.seq
      apply Wc.seq
      refine Wc.r2 [{}, {}, { v := some (aI (vh.length : Int)) }] ⟨[tP 0 1000000, tP 2 2, tP 3 3, (4, (.v (.sl (List.map cS vh)), [(0, .app 9)])), tI 5 ut.2, tI 6 vo, tB 19 (decide (vo < (vh.length : Int)))], [(2, .cells GDb.z [(0, .app 35), (1, .app 9)]), (3, .cells (GDb.q zv) [(0, .app 35), (1, .app 9)]), bC 1000000 (GL01Cur.q ut.1)], []⟩ (.cons (len_obl cS vh) .nil) ?_
      rcases oif h623 with ⟨h624, h623⟩ | ⟨h624, h623⟩
      · refine Wc.cT h624 ?_
        refine Wc.fx [] ⟨[tP 0 1000000, tP 2 2, tP 3 3, (4, (.v (.sl (List.map cS vh)), [(0, .app 9)])), tI 5 ut.2, tI 6 vo], [(2, .cells GDb.z [(0, .app 35), (1, .app 9)]), (3, .cells (GDb.q zv) [(0, .app 35), (1, .app 9)]), bC 1000000 (GL01Cur.q ut.1)], []⟩ ?_
        refine Wc.skip ?_
        apply Wc.seq
        refine Wc.block ?_
        apply Wc.seq
        obtain ⟨ua3, h625, h623⟩ := obind h623
        obtain ⟨h626, h623⟩ := oguard h623
        obtain ⟨u53, h627, h623⟩ := obind h623
        refine Wc.r2 [{}, {}, { v := some (.vptr [.str ua3]) }, {}, {}, { r := some (.v (.tup [.agg (GTerm.q u53.1), .sl (List.map cS u53.2.1), .bool u53.2.2]) [(4, .app 9)]) }, { tk := [28] }, {}, { tk := [22] }, {}, {}, {}, { tk := [30] }] ⟨[tP 0 1000000, tP 2 2, tP 3 3, (4, (.v (.sl (List.map cS vh)), [(0, .app 9)])), tI 5 ut.2, tI 6 vo, tP 7 7, tB 9 u53.2.2], [(2, .cells GDb.z [(0, .app 35), (1, .app 9)]), (3, .cells (GDb.q zv) [(0, .app 35), (1, .app 9)]), bC 7 (GTerm.q u53.1), bC 1000000 (GL01Cur.q ut.1)], []⟩ (.cons (at_obl (c := cS) rfl cS_len h625) (.cons (len_ok 1 [.str ua3]) (.cons h626 (.cons (cspec_ReadTerm h627) .nil)))) ?_
        apply Wc.seq
        obtain ⟨h628, h623⟩ := oguard h623
        obtain ⟨ucm, h629, h623⟩ := obind h623
        obtain ⟨u1i, h630, h623⟩ := obind h623
        refine Wc.draw hmix [{}, { c := some (List.map cS [(bs [111, 110, 101]), (bs [116, 119, 111]), (bs [])]) }, {}, {}, { v := some (.vptr [.str ucm]) }, {}, { r := some (.v (.tup [.agg (GClause.q u1i.1), .bool u1i.2]) []) }] [] [0, 2, 3, 4, 5, 6, 9, 10, 11] [2, 3, 10, 1000000] [] ⟨[tP 0 1000000, tP 2 2, tP 3 3, (4, (.v (.sl (List.map cS vh)), [(0, .app 9)])), tI 5 ut.2, tI 6 vo, tB 9 u53.2.2, tP 10 10, tB 11 u1i.2], [(2, .cells GDb.z [(0, .app 35), (1, .app 9)]), (3, .cells (GDb.q zv) [(0, .app 35), (1, .app 9)]), bC 10 (GClause.q u1i.1), bC 1000000 (GL01Cur.q ut.1)], []⟩ _ (by kernel_rfl) (fun X => by kernel_rfl) (.cons (cl_cons (c := cS) (x := (bs [111, 110, 101])) rfl (cl_cons (c := cS) (x := (bs [116, 119, 111])) rfl (cl_cons (c := cS) (x := (bs [])) rfl (cl_nil cS)))) (.cons h628 (.cons (at_obl (c := cS) rfl cS_len h629) (.cons (len_ok 1 [.str ucm]) (.cons (FnO.un (cspec_ClauseOf h630)) .nil))))) ?_
        refine Wc.seqJ (fun st => ∃ (ua2 : Bool), st = ⟨[tP 0 1000000, tP 2 2, tP 3 3, (4, (.v (.sl (List.map cS vh)), [(0, .app 9)])), tI 5 ut.2, tI 6 vo, tP 10 10, tB 55 ua2], [(2, .cells GDb.z [(0, .app 35), (1, .app 9)]), (3, .cells (GDb.q zv) [(0, .app 35), (1, .app 9)]), bC 10 (GClause.q u1i.1), bC 1000000 (GL01Cur.q ut.1)], []⟩ ∧ pspec_l08Db_J2 k (pspec_l08Db_L1 k vh ut m) zv u1i vo ua2 = some out1) ?_ ?_
        · rcases oif h623 with ⟨h633, h623⟩ | ⟨h633, h623⟩
          · rcases oif h623 with ⟨h634, h623⟩ | ⟨h634, h623⟩
            · rcases oif h623 with ⟨h635, h623⟩ | ⟨h635, h623⟩
              · refine Wc.r2 [{}, { re := some (.bool true) }, {}, {}, { re := some (.bool true) }, {}, {}, { re := some (.bool true) }] ⟨[tP 0 1000000, tP 2 2, tP 3 3, (4, (.v (.sl (List.map cS vh)), [(0, .app 9)])), tI 5 ut.2, tI 6 vo, tP 10 10, tB 55 true], [(2, .cells GDb.z [(0, .app 35), (1, .app 9)]), (3, .cells (GDb.q zv) [(0, .app 35), (1, .app 9)]), bC 10 (GClause.q u1i.1), bC 1000000 (GL01Cur.q ut.1)], []⟩ (.cons (congrArg AV.bool h633) (.cons (congrArg AV.bool h634) (.cons (congrArg AV.bool h635) .nil))) ?_
                exact ⟨_, rfl, h623⟩
              · obtain ⟨h636, h623⟩ := oguard h623
                refine Wc.r2 [{}, { re := some (.bool true) }, {}, {}, { re := some (.bool true) }, {}, {}, { re := some (.bool false) }] ⟨[tP 0 1000000, tP 2 2, tP 3 3, (4, (.v (.sl (List.map cS vh)), [(0, .app 9)])), tI 5 ut.2, tI 6 vo, tP 10 10, tB 55 ((Int.tmod vo 7) != ut.2)], [(2, .cells GDb.z [(0, .app 35), (1, .app 9)]), (3, .cells (GDb.q zv) [(0, .app 35), (1, .app 9)]), bC 10 (GClause.q u1i.1), bC 1000000 (GL01Cur.q ut.1)], []⟩ (.cons (congrArg AV.bool h633) (.cons (congrArg AV.bool h634) (.cons (congrArg AV.bool h635) (.cons h636 .nil)))) ?_
                exact ⟨_, rfl, h623⟩
            · refine Wc.r2 [{}, { re := some (.bool true) }, {}, {}, { re := some (.bool false) }] ⟨[tP 0 1000000, tP 2 2, tP 3 3, (4, (.v (.sl (List.map cS vh)), [(0, .app 9)])), tI 5 ut.2, tI 6 vo, tP 10 10, tB 55 false], [(2, .cells GDb.z [(0, .app 35), (1, .app 9)]), (3, .cells (GDb.q zv) [(0, .app 35), (1, .app 9)]), bC 10 (GClause.q u1i.1), bC 1000000 (GL01Cur.q ut.1)], []⟩ (.cons (congrArg AV.bool h633) (.cons (congrArg AV.bool h634) .nil)) ?_
              exact ⟨_, rfl, h623⟩
          · refine Wc.r2 [{}, { re := some (.bool false) }] ⟨[tP 0 1000000, tP 2 2, tP 3 3, (4, (.v (.sl (List.map cS vh)), [(0, .app 9)])), tI 5 ut.2, tI 6 vo, tP 10 10, tB 55 false], [(2, .cells GDb.z [(0, .app 35), (1, .app 9)]), (3, .cells (GDb.q zv) [(0, .app 35), (1, .app 9)]), bC 10 (GClause.q u1i.1), bC 1000000 (GL01Cur.q ut.1)], []⟩ (.cons (congrArg AV.bool h633) .nil) ?_
            exact ⟨_, rfl, h623⟩
        · rintro st ⟨ua2, rfl, h623⟩
          rcases oif h623 with ⟨h631, h623⟩ | ⟨h631, h623⟩
          · refine Wc.cT h631 ?_
            obtain ⟨u75, h632, h623⟩ := obind h623
            refine Wc.r2 [{}, {}, { r := some (.v (.tup [.agg (GDb.q u75.1), .bool u75.2]) [(0, .app 35), (1, .app 9)]) }, { tk := [59] }, { tk := [56] }, {}, { tk := [60] }] ⟨[tP 0 1000000, tP 2 2, tP 3 3, (4, (.v (.sl (List.map cS vh)), [(0, .app 9)])), tI 5 ut.2, tI 6 vo], [(2, .cells GDb.z [(0, .app 35), (1, .app 9)]), (3, .cells (GDb.q u75.1) [(0, .app 35), (1, .app 9)]), bC 1000000 (GL01Cur.q ut.1)], []⟩ (.cons (cspec_Added h632) .nil) ?_
            refine Wc.r0 ⟨[tP 0 1000000, tP 2 2, tP 3 3, (4, (.v (.sl (List.map cS vh)), [(0, .app 9)])), tI 5 ut.2, tI 6 (wr.i64 (vo + 1))], [(2, .cells GDb.z [(0, .app 35), (1, .app 9)]), (3, .cells (GDb.q u75.1) [(0, .app 35), (1, .app 9)]), bC 1000000 (GL01Cur.q ut.1)], []⟩ ?_
            exact ⟨_, Nat.lt_succ_self _, _, _, rfl, h623⟩
          · refine Wc.cF h631 ?_
            refine Wc.fx [] ⟨[tP 0 1000000, tP 2 2, tP 3 3, (4, (.v (.sl (List.map cS vh)), [(0, .app 9)])), tI 5 ut.2, tI 6 vo], [(2, .cells GDb.z [(0, .app 35), (1, .app 9)]), (3, .cells (GDb.q zv) [(0, .app 35), (1, .app 9)]), bC 1000000 (GL01Cur.q ut.1)], []⟩ ?_
            refine Wc.skip ?_
            refine Wc.r0 ⟨[tP 0 1000000, tP 2 2, tP 3 3, (4, (.v (.sl (List.map cS vh)), [(0, .app 9)])), tI 5 ut.2, tI 6 (wr.i64 (vo + 1))], [(2, .cells GDb.z [(0, .app 35), (1, .app 9)]), (3, .cells (GDb.q zv) [(0, .app 35), (1, .app 9)]), bC 1000000 (GL01Cur.q ut.1)], []⟩ ?_
            exact ⟨_, Nat.lt_succ_self _, _, _, rfl, h623⟩
      · refine Wc.cF h624 ?_
        refine Wc.fx [] ⟨[tP 0 1000000, tP 2 2, tP 3 3], [(2, .cells GDb.z [(0, .app 35), (1, .app 9)]), (3, .cells (GDb.q zv) [(0, .app 35), (1, .app 9)]), bC 1000000 (GL01Cur.q ut.1)], []⟩ ?_
        refine Wc.exit ?_
        obtain rfl := Option.some.inj h623
        exact ⟨_, rfl, rfl⟩
  · rintro st ⟨u54, rfl, rfl⟩
    apply Wc.seq
    apply Wc.seq
    obtain ⟨u3u, h637, h⟩ := obind h
    refine Wc.r2 [{}, { r := some (.v (.bool u3u.2) []), outs := [(0, .p (GL01Cur.q u3u.1) [])] }] ⟨[tP 2 2, tP 3 3, tB 63 u3u.2], [(2, .cells GDb.z [(0, .app 35), (1, .app 9)]), (3, .cells (GDb.q u54) [(0, .app 35), (1, .app 9)]), bC 1000000 (GL01Cur.q u3u.1)], []⟩ (.cons (cspec_l01Once h637) .nil) ?_
    rcases oif h with ⟨h638, h⟩ | ⟨h638, h⟩
    · refine Wc.cT h638 ?_
      obtain ⟨ua4, h639, h⟩ := obind h
      refine Wc.r2 [{}, { r := some (.v (.agg (GDb.q ua4)) [(0, .app 35), (1, .app 9)]) }, { tk := [65] }] ⟨[tP 2 2, tP 3 3], [(2, .cells GDb.z [(0, .app 35), (1, .app 9)]), (3, .cells (GDb.q ua4) [(0, .app 35), (1, .app 9)]), bC 1000000 (GL01Cur.q u3u.1)], []⟩ (.cons (cspec_Opened h639) .nil) ?_
      apply Wc.seq
      refine Wc.r1 [{ md := 1 }, { tk := [66] }] ⟨[tP 2 2], [(2, .cells (GDb.q ua4) [(0, .app 35), (1, .app 9)]), bC 1000000 (GL01Cur.q u3u.1)], []⟩ ?_
      obtain rfl := Option.some.inj h; exact Wc.ret dn
    · refine Wc.cF h638 ?_
      refine Wc.fx [] ⟨[tP 2 2, tP 3 3], [(2, .cells GDb.z [(0, .app 35), (1, .app 9)]), (3, .cells (GDb.q u54) [(0, .app 35), (1, .app 9)]), bC 1000000 (GL01Cur.q u3u.1)], []⟩ ?_
      refine Wc.skip ?_
      apply Wc.seq
      refine Wc.r1 [{ md := 1 }, { tk := [66] }] ⟨[tP 2 2], [(2, .cells (GDb.q u54) [(0, .app 35), (1, .app 9)]), bC 1000000 (GL01Cur.q u3u.1)], []⟩ ?_
      obtain rfl := Option.some.inj h; exact Wc.ret dn

def pspec_l01New_L1 (k : Nat) (vi : List Int) : Nat → Int → Int → Option (Out GL01Cur Int)
  | 0, _, _ => none
  | m + 1, u2w, u2x =>
    if (decide (u2x < (vi.length : Int))) = true then
      if (decide (u2x < 4000)) = true then
        (at' vi u2x).bind fun u76 =>
        pspec_l01New_L1 k vi m (band .i64 (wr.i64 ((wr.i64 ((wr.i64 (u2w * 131)) + (wr.i64 u76))) + 7)) 1073741823) (wr.i64 (u2x + 1))
      else
        some (.done u2w)
    else
      some (.done u2w)
def pspec_l01New (k : Nat) (vi : List Int) : Option GL01Cur :=
  (pspec_l01New_L1 k vi k (wr.i64 (95101 + (vi.length : Int))) 0).bind fun out1 => match out1 with
  | .ret r => some r
  | .done u77 =>
    some (GL01Cur.mk vi 0 u77)
theorem cspec_l01New {k : Nat} {vi : List Int} {r : GL01Cur} (h : pspec_l01New k vi = some r) : FnO Tryz.prog 32 [.v (.sl (List.map cI.u8 vi)) []] (.p (GL01Cur.q r) []) [] := by
  refine FnO.o2 Tryz.func32 (rfl : Tryz.f32.body = some _) ?_
  intro w0 X0 Fin pv0 pb gt
  unfold pspec_l01New at h
  apply Wc.seq
  refine Wc.r0 ⟨[tV 0 (.sl (List.map cI.u8 vi))], [], []⟩ ?_
  apply Wc.seq
  refine Wc.r2 [{}, { v := some (aI (vi.length : Int)) }] ⟨[tV 0 (.sl (List.map cI.u8 vi)), tI 3 (wr.i64 (95101 + (vi.length : Int)))], [], []⟩ (.cons (len_obl cI.u8 vi) .nil) ?_
  apply Wc.seq
  apply Wc.seq
  refine Wc.r0 ⟨[tV 0 (.sl (List.map cI.u8 vi)), tI 3 (wr.i64 (95101 + (vi.length : Int))), tI 4 0], [], []⟩ ?_
  obtain ⟨out1, h640, h⟩ := obind h
  refine Wc.lastJ (fun st => ∃ (u77 : Int), out1 = .done u77 ∧ st = ⟨[tV 0 (.sl (List.map cI.u8 vi)), tI 3 u77], [], []⟩) ?_ ?_
  · refine Wc.block ?_
    refine Wc.loop (fun m st => ∃ (u2w : Int) (u2x : Int), st = ⟨[tV 0 (.sl (List.map cI.u8 vi)), tI 3 u2w, tI 4 u2x], [], []⟩ ∧ pspec_l01New_L1 k vi m u2w u2x = some out1) ?_ k ⟨_, _, rfl, h640⟩
    rintro m st ⟨u2w, u2x, rfl, h640⟩
    cases m with
    | zero => exact (onone h640).elim
    | succ m =>
      apply Wc.seq
      apply Wc.seq
      rcases oif h640 with ⟨h641, h640⟩ | ⟨h641, h640⟩
      · refine Wc.r2 [{}, {}, { v := some (aI (vi.length : Int)) }, {}, { re := some (.bool true) }] ⟨[tV 0 (.sl (List.map cI.u8 vi)), tI 3 u2w, tI 4 u2x, tB 15 (decide (u2x < 4000))], [], []⟩ (.cons (len_obl cI.u8 vi) (.cons (congrArg AV.bool h641) .nil)) ?_
        rcases oif h640 with ⟨h642, h640⟩ | ⟨h642, h640⟩
        · refine Wc.cT h642 ?_
          refine Wc.fx [] ⟨[tV 0 (.sl (List.map cI.u8 vi)), tI 3 u2w, tI 4 u2x], [], []⟩ ?_
          refine Wc.skip ?_
          apply Wc.seq
          refine Wc.block ?_
          obtain ⟨u76, h643, h640⟩ := obind h640
          refine Wc.r2 [{}, {}, {}, {}, { v := some (.vptr [.int .u8 u76]) }] ⟨[tV 0 (.sl (List.map cI.u8 vi)), tI 3 (band .i64 (wr.i64 ((wr.i64 ((wr.i64 (u2w * 131)) + (wr.i64 u76))) + 7)) 1073741823), tI 4 u2x], [], []⟩ (.cons (at_obl (c := cI.u8) rfl cI.u8_len h643) (.cons (len_ok 1 [.int .u8 u76]) .nil)) ?_
          refine Wc.r0 ⟨[tV 0 (.sl (List.map cI.u8 vi)), tI 3 (band .i64 (wr.i64 ((wr.i64 ((wr.i64 (u2w * 131)) + (wr.i64 u76))) + 7)) 1073741823), tI 4 (wr.i64 (u2x + 1))], [], []⟩ ?_
          exact ⟨_, Nat.lt_succ_self _, _, _, rfl, h640⟩
        · refine Wc.cF h642 ?_
          refine Wc.fx [] ⟨[tV 0 (.sl (List.map cI.u8 vi)), tI 3 u2w], [], []⟩ ?_
          refine Wc.exit ?_
          obtain rfl := Option.some.inj h640
          exact ⟨_, rfl, rfl⟩
      · refine Wc.r2 [{}, {}, { v := some (aI (vi.length : Int)) }, {}, { re := some (.bool false) }] ⟨[tV 0 (.sl (List.map cI.u8 vi)), tI 3 u2w, tI 4 u2x, tB 15 false], [], []⟩ (.cons (len_obl cI.u8 vi) (.cons (congrArg AV.bool h641) .nil)) ?_
        refine Wc.cF rfl ?_
        refine Wc.fx [] ⟨[tV 0 (.sl (List.map cI.u8 vi)), tI 3 u2w], [], []⟩ ?_
        refine Wc.exit ?_
        obtain rfl := Option.some.inj h640
        exact ⟨_, rfl, rfl⟩
  · rintro st ⟨u77, rfl, rfl⟩
    apply Wc.seq
    refine Wc.r0 ⟨[tP 2 31], [bC 31 [.sl (List.map cI.u8 vi), aI 0, aI u77]], []⟩ ?_
    obtain rfl := Option.some.inj h; exact Wc.ret dn

def pspec_DrawDb (k : Nat) (ua5 : List Int) : Option GDb :=
  (pspec_l01New k ua5).bind fun ue9 =>
  (pspec_l08Db k ue9).bind fun ua6 =>
  some ua6.2
theorem cspec_DrawDb {k : Nat} {ua5 : List Int} {r : GDb} (h : pspec_DrawDb k ua5 = some r) : FnO Tryz.prog 5 [.v (.sl (List.map cI.u8 ua5)) []] (.v (.agg (GDb.q r)) [(0, .app 35), (1, .app 9)]) [] := by
  refine FnO.o2 Tryz.func5 (rfl : Tryz.f5.body = some _) ?_
  intro w0 X0 Fin pv0 pb gt
  unfold pspec_DrawDb at h
  apply Wc.seq
  refine Wc.r0 ⟨[tV 0 (.sl (List.map cI.u8 ua5)), tP 2 2], [(2, .cells GDb.z [(0, .app 35), (1, .app 9)])], []⟩ ?_
  apply Wc.seq
  obtain ⟨ue9, h646, h⟩ := obind h
  obtain ⟨ua6, h647, h⟩ := obind h
  refine Wc.r2 [{}, { r := some (.p (GL01Cur.q ue9) []) }, { r := some (.v (.agg (GDb.q ua6.2)) [(0, .app 35), (1, .app 9)]), outs := [(0, .p (GL01Cur.q ua6.1) [])] }, { tk := [5] }] ⟨[tP 2 2], [(2, .cells (GDb.q ua6.2) [(0, .app 35), (1, .app 9)])], []⟩ (.cons (cspec_l01New h646) (.cons (cspec_l08Db h647) .nil)) ?_
  obtain rfl := Option.some.inj h; exact Wc.ret dn

def pspec_l01Pick (k : Nat) (ua7 : GL01Cur) (u5j : List ByteArray) : Option (GL01Cur × ByteArray) :=
  (pspec_l01Below k ua7 (u5j.length : Int)).bind fun u78 =>
  (at' u5j u78.2).bind fun ua8 =>
  some (u78.1, ua8)
theorem cspec_l01Pick {k : Nat} {ua7 : GL01Cur} {u5j : List ByteArray} {r : GL01Cur × ByteArray} (h : pspec_l01Pick k ua7 u5j = some r) : FnO Tryz.prog 35 [.p (GL01Cur.q ua7) [], .v (.sl (List.map cS u5j)) []] (.v (.str r.2) []) [(0, .p (GL01Cur.q r.1) [])] := by
  refine FnO.o2 Tryz.func35 (rfl : Tryz.f35.body = some _) ?_
  intro w0 X0 Fin pv0 pb gt
  unfold pspec_l01Pick at h
  apply Wc.seq
  refine Wc.r0 ⟨[tP 0 1000000, tV 1 (.sl (List.map cS u5j))], [bC 1000000 (GL01Cur.q ua7)], []⟩ ?_
  apply Wc.seq
  obtain ⟨u78, h648, h⟩ := obind h
  obtain ⟨ua8, h649, h⟩ := obind h
  refine Wc.r2 [{}, {}, {}, { v := some (aI (u5j.length : Int)) }, { r := some (.v (aI u78.2) []), outs := [(0, .p (GL01Cur.q u78.1) [])] }, { v := some (.vptr [.str ua8]) }] ⟨[tS 4 ua8], [bC 1000000 (GL01Cur.q u78.1)], []⟩ (.cons (len_obl cS u5j) (.cons (cspec_l01Below h648) (.cons (at_obl (c := cS) rfl cS_len h649) (.cons (len_ok 1 [.str ua8]) .nil)))) ?_
  obtain rfl := Option.some.inj h; exact Wc.ret dn

def pspec_l01PickInt (k : Nat) (ua9 : GL01Cur) (u5k : List Int) : Option (GL01Cur × Int) :=
  (pspec_l01Below k ua9 (u5k.length : Int)).bind fun u79 =>
  (at' u5k u79.2).bind fun uaa =>
  some (u79.1, uaa)
theorem cspec_l01PickInt {k : Nat} {ua9 : GL01Cur} {u5k : List Int} {r : GL01Cur × Int} (h : pspec_l01PickInt k ua9 u5k = some r) : FnO Tryz.prog 98 [.p (GL01Cur.q ua9) [], .v (.sl (List.map cI.i64 u5k)) []] (.v (aI r.2) []) [(0, .p (GL01Cur.q r.1) [])] := by
  refine FnO.o2 Tryz.func98 (rfl : Tryz.f98.body = some _) ?_
  intro w0 X0 Fin pv0 pb gt
  unfold pspec_l01PickInt at h
  apply Wc.seq
  refine Wc.r0 ⟨[tP 0 1000000, tV 1 (.sl (List.map cI.i64 u5k))], [bC 1000000 (GL01Cur.q ua9)], []⟩ ?_
  apply Wc.seq
  obtain ⟨u79, h650, h⟩ := obind h
  obtain ⟨uaa, h651, h⟩ := obind h
  refine Wc.r2 [{}, {}, {}, { v := some (aI (u5k.length : Int)) }, { r := some (.v (aI u79.2) []), outs := [(0, .p (GL01Cur.q u79.1) [])] }, { v := some (.vptr [aI uaa]) }] ⟨[tI 4 uaa], [bC 1000000 (GL01Cur.q u79.1)], []⟩ (.cons (len_obl cI.i64 u5k) (.cons (cspec_l01Below h650) (.cons (at_obl (c := cI.i64) rfl cI.i64_len h651) (.cons (len_ok 1 [aI uaa]) .nil)))) ?_
  obtain rfl := Option.some.inj h; exact Wc.ret dn

def pspec_l03Made_L2 (k : Nat) (rspec_l03Made : GL01Cur → Int → Option (GL01Cur × GTerm)) (uw : Int) : Nat → Int → GTerm → GL01Cur → Option (Out (GL01Cur × GTerm) (GTerm × GL01Cur))
  | 0, _, _, _ => none
  | m + 1, u2m, vj, uab =>
    (pspec_l01Below k uab 3).bind fun u2y =>
    if (decide (u2m < (wr.i64 (1 + u2y.2)))) = true then
      if (decide ((vj.gKids.length : Int) < 5)) = true then
        (rspec_l03Made u2y.1 (wr.i64 (uw - 1))).bind fun u1v =>
        if vj.gKids.length + [u1v.2].length ≤ 1073741824 then
          pspec_l03Made_L2 k rspec_l03Made uw m (wr.i64 (u2m + 1)) (GTerm.mk vj.gKind vj.gName vj.gNum (vj.gKids ++ [u1v.2])) u1v.1
        else none
      else
        pspec_l03Made_L2 k rspec_l03Made uw m (wr.i64 (u2m + 1)) vj u2y.1
    else
      some (.done (vj, u2y.1))
def pspec_l03Made_J1 (k : Nat) (rspec_l03Made : GL01Cur → Int → Option (GL01Cur × GTerm)) (vs : GL01Cur × Int) (uw : Int) (u1j : Int) : Option (GL01Cur × GTerm) :=
  if (decide (u1j < 2)) = true then
    (pspec_l01Below k vs.1 4).bind fun u7a =>
    (pspec_l03Var k u7a.2).bind fun ucn =>
    some (u7a.1, ucn)
  else
    if (decide (u1j < 4)) = true then
      if 0 ≤ (0 : Int) ∧ (0 : Int) ≤ 1 ∧ 1 ≤ ((bs [120, 32, 121]).size : Int) then
        (pspec_l01Pick k vs.1 [(bs [97]), (bs [98]), (bs [91, 93]), (bs [43]), (bs [66, 105, 103]), (bs [120, 32, 121]).extract ((0 : Int) : Int).toNat (1 : Int).toNat, (bs [58, 45]), (bs [61, 46, 46])]).bind fun u7b =>
        (pspec_l03Atom k u7b.2).bind fun uco =>
        some (u7b.1, uco)
      else none
    else
      if (decide (u1j < 6)) = true then
        (pspec_l01PickInt k vs.1 [0, 1, -7, 999999999]).bind fun u7c =>
        (pspec_l03Num k u7c.2).bind fun ucp =>
        some (u7c.1, ucp)
      else
        if (u1j == 6) = true then
          (rspec_l03Made vs.1 (wr.i64 (uw - 1))).bind fun uac =>
          (rspec_l03Made uac.1 (wr.i64 (uw - 1))).bind fun u7d =>
          (pspec_l03Two k (bs [46]) uac.2 u7d.2).bind fun ucq =>
          some (u7d.1, ucq)
        else
          if (u1j == 7) = true then
            (pspec_l01Pick k vs.1 [(bs [43]), (bs [61]), (bs [44]), (bs [102]), (bs [59])]).bind fun uad =>
            (rspec_l03Made uad.1 (wr.i64 (uw - 1))).bind fun uae =>
            (rspec_l03Made uae.1 (wr.i64 (uw - 1))).bind fun u7e =>
            (pspec_l03Two k uad.2 uae.2 u7e.2).bind fun ucr =>
            some (u7e.1, ucr)
          else
            (pspec_l01Pick k vs.1 [(bs [102]), (bs [103]), (bs [45]), (bs [91, 93])]).bind fun u55 =>
            (pspec_l03Made_L2 k rspec_l03Made uw k 0 (GTerm.mk 4 u55.2 0 []) u55.1).bind fun out2 => match out2 with
            | .ret r => some r
            | .done (u7f, u7g) =>
              some (u7g, u7f)
mutual
def pspec_l03Made : Nat → GL01Cur → Int → Option (GL01Cur × GTerm)
  | 0, _, _ => none
  | k + 1, u4l, uw =>
    (pspec_l01Below k u4l 10).bind fun vs =>
    if (decide (uw ≤ 0)) = true then
      if (6 : Int) ≠ 0 then
        pspec_l03Made_J1 k (pspec_l03Made k) vs uw (Int.tmod vs.2 6)
      else none
    else
      pspec_l03Made_J1 k (pspec_l03Made k) vs uw vs.2
end
set_option maxHeartbeats 4000000 in
theorem all_pspec_l03Made : ∀ k : Nat, (∀ {u4l : GL01Cur} {uw : Int} {r : GL01Cur × GTerm}, pspec_l03Made k u4l uw = some r → FnO Tryz.prog 73 [.p (GL01Cur.q u4l) [], .v (aI uw) []] (.v (.agg (GTerm.q r.2)) [(3, .app 31)]) [(0, .p (GL01Cur.q r.1) [])]) := by
  intro k
  induction k with
  | zero =>
    · intro u4l uw r h
      exact (onone (by rw [pspec_l03Made] at h; exact h)).elim
  | succ k ih =>
    have ih_pspec_l03Made := @ih
    · intro u4l uw r h
      rw [pspec_l03Made] at h
      refine FnO.o2 Tryz.func73 (rfl : Tryz.f73.body = some _) ?_
      intro w0 X0 Fin pv0 pb gt
      apply Wc.seq
      refine Wc.r0 ⟨[tP 0 1000000, tI 1 uw, tP 4 4], [(4, .cells GTerm.z [(3, .app 31)]), bC 1000000 (GL01Cur.q u4l)], []⟩ ?_
      apply Wc.seq
      obtain ⟨vs, h681, h⟩ := obind h
      refine Wc.r2 [{}, { r := some (.v (aI vs.2) []), outs := [(0, .p (GL01Cur.q vs.1) [])] }] ⟨[tP 0 1000000, tI 1 uw, tP 4 4, tI 5 vs.2], [(4, .cells GTerm.z [(3, .app 31)]), bC 1000000 (GL01Cur.q vs.1)], []⟩ (.cons (cspec_l01Below h681) .nil) ?_
      refine Wc.seqJ (fun st => ∃ (u1j : Int), st = ⟨[tP 0 1000000, tI 1 uw, tP 4 4, tI 5 u1j], [(4, .cells GTerm.z [(3, .app 31)]), bC 1000000 (GL01Cur.q vs.1)], []⟩ ∧ pspec_l03Made_J1 k (pspec_l03Made k) vs uw u1j = some r) ?_ ?_
      · apply Wc.seq
        refine Wc.r0 ⟨[tP 0 1000000, tI 1 uw, tP 4 4, tI 5 vs.2, tB 11 (decide (uw ≤ 0))], [(4, .cells GTerm.z [(3, .app 31)]), bC 1000000 (GL01Cur.q vs.1)], []⟩ ?_
        rcases oif h with ⟨h708, h⟩ | ⟨h708, h⟩
        · refine Wc.cT h708 ?_
          obtain ⟨h709, h⟩ := oguard h
          refine Wc.r2 [] ⟨[tP 0 1000000, tI 1 uw, tP 4 4, tI 5 (Int.tmod vs.2 6)], [(4, .cells GTerm.z [(3, .app 31)]), bC 1000000 (GL01Cur.q vs.1)], []⟩ (.cons h709 .nil) ?_
          exact ⟨_, rfl, h⟩
        · refine Wc.cF h708 ?_
          refine Wc.fx [] ⟨[tP 0 1000000, tI 1 uw, tP 4 4, tI 5 vs.2], [(4, .cells GTerm.z [(3, .app 31)]), bC 1000000 (GL01Cur.q vs.1)], []⟩ ?_
          refine Wc.skip ?_
          exact ⟨_, rfl, h⟩
      · rintro st ⟨u1j, rfl, h⟩
        apply Wc.seq
        refine Wc.block ?_
        apply Wc.seq
        refine Wc.r0 ⟨[tP 0 1000000, tI 1 uw, tP 4 4, tI 5 u1j, tB 14 (decide (u1j < 2))], [(4, .cells GTerm.z [(3, .app 31)]), bC 1000000 (GL01Cur.q vs.1)], []⟩ ?_
        rcases oif h with ⟨h682, h⟩ | ⟨h682, h⟩
        · refine Wc.cT h682 ?_
          apply Wc.seq
          obtain ⟨u7a, h683, h⟩ := obind h
          obtain ⟨ucn, h684, h⟩ := obind h
          refine Wc.r2 [{}, { r := some (.v (aI u7a.2) []), outs := [(0, .p (GL01Cur.q u7a.1) [])] }, { r := some (.v (.agg (GTerm.q ucn)) [(3, .app 31)]) }, { tk := [19] }] ⟨[tP 4 4], [(4, .cells (GTerm.q ucn) [(3, .app 31)]), bC 1000000 (GL01Cur.q u7a.1)], []⟩ (.cons (cspec_l01Below h683) (.cons (cspec_l03Var h684) .nil)) ?_
          obtain rfl := Option.some.inj h; exact Wc.ret dn
        · refine Wc.cF h682 ?_
          apply Wc.seq
          refine Wc.r0 ⟨[tP 0 1000000, tI 1 uw, tP 4 4, tI 5 u1j, tB 20 (decide (u1j < 4))], [(4, .cells GTerm.z [(3, .app 31)]), bC 1000000 (GL01Cur.q vs.1)], []⟩ ?_
          rcases oif h with ⟨h685, h⟩ | ⟨h685, h⟩
          · refine Wc.cT h685 ?_
            apply Wc.seq
            obtain ⟨h686, h⟩ := oguard h
            obtain ⟨u7b, h687, h⟩ := obind h
            obtain ⟨uco, h688, h⟩ := obind h
            refine Wc.r2 [{}, {}, { c := some (List.map cS [(bs [97]), (bs [98]), (bs [91, 93]), (bs [43]), (bs [66, 105, 103]), (bs [120, 32, 121]).extract ((0 : Int) : Int).toNat (1 : Int).toNat, (bs [58, 45]), (bs [61, 46, 46])]) }, { r := some (.v (.str u7b.2) []), outs := [(0, .p (GL01Cur.q u7b.1) [])] }, { r := some (.v (.agg (GTerm.q uco)) [(3, .app 31)]) }, { tk := [27] }] ⟨[tP 4 4], [(4, .cells (GTerm.q uco) [(3, .app 31)]), bC 1000000 (GL01Cur.q u7b.1)], []⟩ (.cons h686 (.cons (cl_cons (c := cS) (x := (bs [97])) rfl (cl_cons (c := cS) (x := (bs [98])) rfl (cl_cons (c := cS) (x := (bs [91, 93])) rfl (cl_cons (c := cS) (x := (bs [43])) rfl (cl_cons (c := cS) (x := (bs [66, 105, 103])) rfl (cl_cons (c := cS) (x := (bs [120, 32, 121]).extract ((0 : Int) : Int).toNat (1 : Int).toNat) rfl (cl_cons (c := cS) (x := (bs [58, 45])) rfl (cl_cons (c := cS) (x := (bs [61, 46, 46])) rfl (cl_nil cS))))))))) (.cons (cspec_l01Pick h687) (.cons (cspec_l03Atom h688) .nil)))) ?_
            obtain rfl := Option.some.inj h; exact Wc.ret dn
          · refine Wc.cF h685 ?_
            apply Wc.seq
            refine Wc.r0 ⟨[tP 0 1000000, tI 1 uw, tP 4 4, tI 5 u1j, tB 28 (decide (u1j < 6))], [(4, .cells GTerm.z [(3, .app 31)]), bC 1000000 (GL01Cur.q vs.1)], []⟩ ?_
            rcases oif h with ⟨h689, h⟩ | ⟨h689, h⟩
            · refine Wc.cT h689 ?_
              apply Wc.seq
              obtain ⟨u7c, h690, h⟩ := obind h
              obtain ⟨ucp, h691, h⟩ := obind h
              refine Wc.r2 [{}, { c := some (List.map cI.i64 [0, 1, -7, 999999999]) }, { r := some (.v (aI u7c.2) []), outs := [(0, .p (GL01Cur.q u7c.1) [])] }, { r := some (.v (.agg (GTerm.q ucp)) [(3, .app 31)]) }, { tk := [34] }] ⟨[tP 4 4], [(4, .cells (GTerm.q ucp) [(3, .app 31)]), bC 1000000 (GL01Cur.q u7c.1)], []⟩ (.cons (cl_cons (c := cI.i64) (x := 0) rfl (cl_cons (c := cI.i64) (x := 1) rfl (cl_cons (c := cI.i64) (x := -7) rfl (cl_cons (c := cI.i64) (x := 999999999) rfl (cl_nil cI.i64))))) (.cons (cspec_l01PickInt h690) (.cons (cspec_l03Num h691) .nil))) ?_
              obtain rfl := Option.some.inj h; exact Wc.ret dn
            · refine Wc.cF h689 ?_
              apply Wc.seq
              refine Wc.r0 ⟨[tP 0 1000000, tI 1 uw, tP 4 4, tI 5 u1j, tB 35 (u1j == 6)], [(4, .cells GTerm.z [(3, .app 31)]), bC 1000000 (GL01Cur.q vs.1)], []⟩ ?_
              rcases oif h with ⟨h692, h⟩ | ⟨h692, h⟩
              · refine Wc.cT h692 ?_
                apply Wc.seq
                obtain ⟨uac, h693, h⟩ := obind h
                obtain ⟨u7d, h694, h⟩ := obind h
                obtain ⟨ucq, h695, h⟩ := obind h
                refine Wc.r2 [{}, {}, {}, { r := some (.v (.agg (GTerm.q uac.2)) [(3, .app 31)]), outs := [(0, .p (GL01Cur.q uac.1) [])] }, {}, {}, {}, { r := some (.v (.agg (GTerm.q u7d.2)) [(3, .app 31)]), outs := [(0, .p (GL01Cur.q u7d.1) [])] }, { r := some (.v (.agg (GTerm.q ucq)) [(3, .app 31)]) }, { tk := [46] }] ⟨[tP 4 4], [(4, .cells (GTerm.q ucq) [(3, .app 31)]), bC 1000000 (GL01Cur.q u7d.1)], []⟩ (.cons (ih_pspec_l03Made h693) (.cons (ih_pspec_l03Made h694) (.cons (cspec_l03Two h695) .nil))) ?_
                obtain rfl := Option.some.inj h; exact Wc.ret dn
              · refine Wc.cF h692 ?_
                apply Wc.seq
                refine Wc.r0 ⟨[tP 0 1000000, tI 1 uw, tP 4 4, tB 47 (u1j == 7)], [(4, .cells GTerm.z [(3, .app 31)]), bC 1000000 (GL01Cur.q vs.1)], []⟩ ?_
                rcases oif h with ⟨h696, h⟩ | ⟨h696, h⟩
                · refine Wc.cT h696 ?_
                  apply Wc.seq
                  obtain ⟨uad, h697, h⟩ := obind h
                  obtain ⟨uae, h698, h⟩ := obind h
                  obtain ⟨u7e, h699, h⟩ := obind h
                  obtain ⟨ucr, h700, h⟩ := obind h
                  refine Wc.r2 [{}, { c := some (List.map cS [(bs [43]), (bs [61]), (bs [44]), (bs [102]), (bs [59])]) }, { r := some (.v (.str uad.2) []), outs := [(0, .p (GL01Cur.q uad.1) [])] }, {}, {}, {}, { r := some (.v (.agg (GTerm.q uae.2)) [(3, .app 31)]), outs := [(0, .p (GL01Cur.q uae.1) [])] }, {}, {}, {}, { r := some (.v (.agg (GTerm.q u7e.2)) [(3, .app 31)]), outs := [(0, .p (GL01Cur.q u7e.1) [])] }, { r := some (.v (.agg (GTerm.q ucr)) [(3, .app 31)]) }, { tk := [61] }] ⟨[tP 4 4], [(4, .cells (GTerm.q ucr) [(3, .app 31)]), bC 1000000 (GL01Cur.q u7e.1)], []⟩ (.cons (cl_cons (c := cS) (x := (bs [43])) rfl (cl_cons (c := cS) (x := (bs [61])) rfl (cl_cons (c := cS) (x := (bs [44])) rfl (cl_cons (c := cS) (x := (bs [102])) rfl (cl_cons (c := cS) (x := (bs [59])) rfl (cl_nil cS)))))) (.cons (cspec_l01Pick h697) (.cons (ih_pspec_l03Made h698) (.cons (ih_pspec_l03Made h699) (.cons (cspec_l03Two h700) .nil))))) ?_
                  obtain rfl := Option.some.inj h; exact Wc.ret dn
                · refine Wc.cF h696 ?_
                  refine Wc.fx [] ⟨[tP 0 1000000, tI 1 uw, tP 4 4], [(4, .cells GTerm.z [(3, .app 31)]), bC 1000000 (GL01Cur.q vs.1)], []⟩ ?_
                  refine Wc.skip ?_
                  apply Wc.seq
                  obtain ⟨u55, h701, h⟩ := obind h
                  refine Wc.r2 [{}, { c := some (List.map cS [(bs [102]), (bs [103]), (bs [45]), (bs [91, 93])]) }, { r := some (.v (.str u55.2) []), outs := [(0, .p (GL01Cur.q u55.1) [])] }, {}, {}, { tk := [65] }] ⟨[tP 0 1000000, tI 1 uw, tP 4 4, tP 6 6], [(4, .cells GTerm.z [(3, .app 31)]), (6, .cells [aI 4, .str u55.2, aI 0, .sl (List.map GTerm.c [])] [(3, .app 31)]), bC 1000000 (GL01Cur.q u55.1)], []⟩ (.cons (cl_cons (c := cS) (x := (bs [102])) rfl (cl_cons (c := cS) (x := (bs [103])) rfl (cl_cons (c := cS) (x := (bs [45])) rfl (cl_cons (c := cS) (x := (bs [91, 93])) rfl (cl_nil cS))))) (.cons (cspec_l01Pick h701) .nil)) ?_
                  apply Wc.seq
                  apply Wc.seq
                  refine Wc.r0 ⟨[tP 0 1000000, tI 1 uw, tP 4 4, tP 6 6, tI 7 0], [(4, .cells GTerm.z [(3, .app 31)]), (6, .cells [aI 4, .str u55.2, aI 0, .sl (List.map GTerm.c [])] [(3, .app 31)]), bC 1000000 (GL01Cur.q u55.1)], []⟩ ?_
                  obtain ⟨out2, h702, h⟩ := obind h
                  refine Wc.lastJ (fun st => ∃ (u7f : GTerm) (u7g : GL01Cur), out2 = .done (u7f, u7g) ∧ st = ⟨[tP 4 4, tP 6 6], [(4, .cells GTerm.z [(3, .app 31)]), (6, .cells (GTerm.q u7f) [(3, .app 31)]), bC 1000000 (GL01Cur.q u7g)], []⟩) ?_ ?_
                  · refine Wc.block ?_
                    refine Wc.loop (fun m st => ∃ (u2m : Int) (vj : GTerm) (uab : GL01Cur), st = ⟨[tP 0 1000000, tI 1 uw, tP 4 4, tP 6 6, tI 7 u2m], [(4, .cells GTerm.z [(3, .app 31)]), (6, .cells (GTerm.q vj) [(3, .app 31)]), bC 1000000 (GL01Cur.q uab)], []⟩ ∧ pspec_l03Made_L2 k (pspec_l03Made k) uw m u2m vj uab = some out2) ?_ k ⟨_, _, _, rfl, h702⟩
                    rintro m st ⟨u2m, vj, uab, rfl, h702⟩
                    cases m with
                    | zero => exact (onone h702).elim
                    | succ m =>
                      apply Wc.seq
                      apply Wc.seq
                      obtain ⟨u2y, h703, h702⟩ := obind h702
                      refine Wc.r2 [{}, {}, { r := some (.v (aI u2y.2) []), outs := [(0, .p (GL01Cur.q u2y.1) [])] }] ⟨[tP 0 1000000, tI 1 uw, tP 4 4, tP 6 6, tI 7 u2m, tB 70 (decide (u2m < (wr.i64 (1 + u2y.2))))], [(4, .cells GTerm.z [(3, .app 31)]), (6, .cells (GTerm.q vj) [(3, .app 31)]), bC 1000000 (GL01Cur.q u2y.1)], []⟩ (.cons (cspec_l01Below h703) .nil) ?_
                      rcases oif h702 with ⟨h704, h702⟩ | ⟨h704, h702⟩
                      · refine Wc.cT h704 ?_
                        refine Wc.fx [] ⟨[tP 0 1000000, tI 1 uw, tP 4 4, tP 6 6, tI 7 u2m], [(4, .cells GTerm.z [(3, .app 31)]), (6, .cells (GTerm.q vj) [(3, .app 31)]), bC 1000000 (GL01Cur.q u2y.1)], []⟩ ?_
                        refine Wc.skip ?_
                        apply Wc.seq
                        refine Wc.block ?_
                        apply Wc.seq
                        refine Wc.r2 [{}, {}, { v := some (aI (vj.gKids.length : Int)) }] ⟨[tP 0 1000000, tI 1 uw, tP 4 4, tP 6 6, tI 7 u2m, tB 76 (decide ((vj.gKids.length : Int) < 5))], [(4, .cells GTerm.z [(3, .app 31)]), (6, .cells (GTerm.q vj) [(3, .app 31)]), bC 1000000 (GL01Cur.q u2y.1)], []⟩ (.cons (len_obl GTerm.c vj.gKids) .nil) ?_
                        rcases oif h702 with ⟨h705, h702⟩ | ⟨h705, h702⟩
                        · refine Wc.cT h705 ?_
                          obtain ⟨u1v, h706, h702⟩ := obind h702
                          obtain ⟨h707, h702⟩ := oguard h702
                          refine Wc.draw hmix [{}, { md := 1 }, {}, {}, {}, { r := some (.v (.agg (GTerm.q u1v.2)) [(3, .app 31)]), outs := [(0, .p (GL01Cur.q u1v.1) [])] }, { c := some (List.map GTerm.c [u1v.2]) }, { c := some (List.map GTerm.c (vj.gKids ++ [u1v.2])), tk := [78] }, {}, { tk := [84] }] [] [0, 1, 4, 6, 7] [4, 6, 1000000] [] ⟨[tP 0 1000000, tI 1 uw, tP 4 4, tP 6 6, tI 7 u2m], [(4, .cells GTerm.z [(3, .app 31)]), (6, .cells [aI vj.gKind, .str vj.gName, aI vj.gNum, .sl (List.map GTerm.c (vj.gKids ++ [u1v.2]))] [(3, .app 31)]), bC 1000000 (GL01Cur.q u1v.1)], []⟩ _ (by kernel_rfl) (fun X => by kernel_rfl) (.cons (ih_pspec_l03Made h706) (.cons (cl_cons (c := GTerm.c) (x := u1v.2) (GTerm.c_eq u1v.2) (cl_nil GTerm.c)) (.cons (app_re2 GTerm.c vj.gKids [u1v.2]) (.cons (app_leaf (c := GTerm.c) (ys := [u1v.2]) GTerm.c_leaf) (.cons (app_obl2 (c := GTerm.c) (xs := vj.gKids) (ys := [u1v.2]) GTerm.c_len h707) .nil))))) ?_
                          refine Wc.r0 ⟨[tP 0 1000000, tI 1 uw, tP 4 4, tP 6 6, tI 7 (wr.i64 (u2m + 1))], [(4, .cells GTerm.z [(3, .app 31)]), (6, .cells [aI vj.gKind, .str vj.gName, aI vj.gNum, .sl (List.map GTerm.c (vj.gKids ++ [u1v.2]))] [(3, .app 31)]), bC 1000000 (GL01Cur.q u1v.1)], []⟩ ?_
                          exact ⟨_, Nat.lt_succ_self _, _, _, _, rfl, h702⟩
                        · refine Wc.cF h705 ?_
                          refine Wc.fx [] ⟨[tP 0 1000000, tI 1 uw, tP 4 4, tP 6 6, tI 7 u2m], [(4, .cells GTerm.z [(3, .app 31)]), (6, .cells (GTerm.q vj) [(3, .app 31)]), bC 1000000 (GL01Cur.q u2y.1)], []⟩ ?_
                          refine Wc.skip ?_
                          refine Wc.r0 ⟨[tP 0 1000000, tI 1 uw, tP 4 4, tP 6 6, tI 7 (wr.i64 (u2m + 1))], [(4, .cells GTerm.z [(3, .app 31)]), (6, .cells (GTerm.q vj) [(3, .app 31)]), bC 1000000 (GL01Cur.q u2y.1)], []⟩ ?_
                          exact ⟨_, Nat.lt_succ_self _, _, _, _, rfl, h702⟩
                      · refine Wc.cF h704 ?_
                        refine Wc.fx [] ⟨[tP 4 4, tP 6 6], [(4, .cells GTerm.z [(3, .app 31)]), (6, .cells (GTerm.q vj) [(3, .app 31)]), bC 1000000 (GL01Cur.q u2y.1)], []⟩ ?_
                        refine Wc.exit ?_
                        obtain rfl := Option.some.inj h702
                        exact ⟨_, _, rfl, rfl⟩
                  · rintro st ⟨u7f, u7g, rfl, rfl⟩
                    apply Wc.seq
                    refine Wc.r1 [{ md := 1 }, { tk := [86] }] ⟨[tP 4 4], [(4, .cells (GTerm.q u7f) [(3, .app 31)]), bC 1000000 (GL01Cur.q u7g)], []⟩ ?_
                    obtain rfl := Option.some.inj h; exact Wc.ret dn
theorem cspec_l03Made {k : Nat} {u4l : GL01Cur} {uw : Int} {r : GL01Cur × GTerm} (h : pspec_l03Made k u4l uw = some r) : FnO Tryz.prog 73 [.p (GL01Cur.q u4l) [], .v (aI uw) []] (.v (.agg (GTerm.q r.2)) [(3, .app 31)]) [(0, .p (GL01Cur.q r.1) [])] := (all_pspec_l03Made k) h

def pspec_l03Any_L1 (k : Nat) (vv : GL01Cur × Int) : Nat → Int → GTerm → Option (Out (GL01Cur × GTerm) GTerm)
  | 0, _, _ => none
  | m + 1, u48, u2z =>
    if (4 : Int) ≠ 0 then
      if (decide (u48 < (wr.i64 (38 + (Int.tmod vv.2 4))))) = true then
        pspec_l03Any_L1 k vv m (wr.i64 (u48 + 1)) (GTerm.mk 4 (bs [115]) 0 [u2z])
      else
        some (.done u2z)
    else none
def pspec_l03Any (k : Nat) (uaf : GL01Cur) : Option (GL01Cur × GTerm) :=
  (pspec_l01Below k uaf 12).bind fun u0y =>
  (pspec_l01Below k u0y.1 60).bind fun vv =>
  (pspec_l03Made k vv.1 3).bind fun uf =>
  if (u0y.2 == 0) = true then
    if (6 : Int) ≠ 0 then
      some (uf.1, GTerm.mk (Int.tmod vv.2 6) uf.2.gName uf.2.gNum uf.2.gKids)
    else none
  else
    if (u0y.2 == 1) = true then
      if (4 : Int) ≠ 0 then
        (at' [(bs []), (bs [97, 32, 98]), (bs [39]), (bs [97, 97, 97, 97, 97, 97, 97, 97, 97, 97, 97, 97, 97, 97, 97, 97, 97, 97, 97, 97, 97])] (Int.tmod vv.2 4)).bind fun u7h =>
        some (uf.1, GTerm.mk uf.2.gKind u7h uf.2.gNum uf.2.gKids)
      else none
    else
      if (u0y.2 == 2) = true then
        if (3 : Int) ≠ 0 then
          (at' [-1, 100000, 1000000000] (Int.tmod vv.2 3)).bind fun u7i =>
          some (uf.1, GTerm.mk uf.2.gKind uf.2.gName u7i uf.2.gKids)
        else none
      else
        if (u0y.2 == 3) = true then
          (pspec_l03Any_L1 k vv k 0 uf.2).bind fun out1 => match out1 with
          | .ret r => some r
          | .done u7j =>
            some (uf.1, u7j)
        else
          some (uf.1, uf.2)
set_option maxHeartbeats 4000000 in
theorem cspec_l03Any {k : Nat} {uaf : GL01Cur} {r : GL01Cur × GTerm} (h : pspec_l03Any k uaf = some r) : FnO Tryz.prog 37 [.p (GL01Cur.q uaf) []] (.v (.agg (GTerm.q r.2)) [(3, .app 31)]) [(0, .p (GL01Cur.q r.1) [])] := by
  refine FnO.o2 Tryz.func37 (rfl : Tryz.f37.body = some _) ?_
  intro w0 X0 Fin pv0 pb gt
  unfold pspec_l03Any at h
  apply Wc.seq
  refine Wc.r0 ⟨[tP 0 1000000, tP 2 2], [(2, .cells GTerm.z [(3, .app 31)]), bC 1000000 (GL01Cur.q uaf)], []⟩ ?_
  apply Wc.seq
  obtain ⟨u0y, h725, h⟩ := obind h
  refine Wc.r2 [{}, { r := some (.v (aI u0y.2) []), outs := [(0, .p (GL01Cur.q u0y.1) [])] }] ⟨[tP 0 1000000, tP 2 2, tI 3 u0y.2], [(2, .cells GTerm.z [(3, .app 31)]), bC 1000000 (GL01Cur.q u0y.1)], []⟩ (.cons (cspec_l01Below h725) .nil) ?_
  apply Wc.seq
  obtain ⟨vv, h726, h⟩ := obind h
  refine Wc.r2 [{}, { r := some (.v (aI vv.2) []), outs := [(0, .p (GL01Cur.q vv.1) [])] }] ⟨[tP 0 1000000, tP 2 2, tI 3 u0y.2, tI 4 vv.2], [(2, .cells GTerm.z [(3, .app 31)]), bC 1000000 (GL01Cur.q vv.1)], []⟩ (.cons (cspec_l01Below h726) .nil) ?_
  apply Wc.seq
  obtain ⟨uf, h727, h⟩ := obind h
  refine Wc.r2 [{}, { r := some (.v (.agg (GTerm.q uf.2)) [(3, .app 31)]), outs := [(0, .p (GL01Cur.q uf.1) [])] }, {}, { tk := [12] }] ⟨[tP 2 2, tI 3 u0y.2, tI 4 vv.2, tP 5 5], [(2, .cells GTerm.z [(3, .app 31)]), (5, .cells (GTerm.q uf.2) [(3, .app 31)]), bC 1000000 (GL01Cur.q uf.1)], []⟩ (.cons (cspec_l03Made h727) .nil) ?_
  apply Wc.seq
  apply Wc.seq
  refine Wc.r0 ⟨[tP 2 2, tI 4 vv.2, tP 5 5, tI 13 u0y.2], [(2, .cells GTerm.z [(3, .app 31)]), (5, .cells (GTerm.q uf.2) [(3, .app 31)]), bC 1000000 (GL01Cur.q uf.1)], []⟩ ?_
  refine Wc.block ?_
  apply Wc.seq
  refine Wc.r0 ⟨[tP 2 2, tI 4 vv.2, tP 5 5, tI 13 u0y.2, tB 14 (u0y.2 == 0)], [(2, .cells GTerm.z [(3, .app 31)]), (5, .cells (GTerm.q uf.2) [(3, .app 31)]), bC 1000000 (GL01Cur.q uf.1)], []⟩ ?_
  rcases oif h with ⟨h728, h⟩ | ⟨h728, h⟩
  · refine Wc.cT h728 ?_
    obtain ⟨h729, h⟩ := oguard h
    refine Wc.r2 [] ⟨[tP 2 2, tP 5 5], [(2, .cells GTerm.z [(3, .app 31)]), (5, .cells [aI (Int.tmod vv.2 6), .str uf.2.gName, aI uf.2.gNum, .sl (List.map GTerm.c uf.2.gKids)] [(3, .app 31)]), bC 1000000 (GL01Cur.q uf.1)], []⟩ (.cons h729 .nil) ?_
    apply Wc.seq
    refine Wc.r1 [{ md := 1 }, { tk := [47] }] ⟨[tP 2 2], [(2, .cells [aI (Int.tmod vv.2 6), .str uf.2.gName, aI uf.2.gNum, .sl (List.map GTerm.c uf.2.gKids)] [(3, .app 31)]), bC 1000000 (GL01Cur.q uf.1)], []⟩ ?_
    obtain rfl := Option.some.inj h; exact Wc.ret dn
  · refine Wc.cF h728 ?_
    apply Wc.seq
    refine Wc.r0 ⟨[tP 2 2, tI 4 vv.2, tP 5 5, tI 13 u0y.2, tB 19 (u0y.2 == 1)], [(2, .cells GTerm.z [(3, .app 31)]), (5, .cells (GTerm.q uf.2) [(3, .app 31)]), bC 1000000 (GL01Cur.q uf.1)], []⟩ ?_
    rcases oif h with ⟨h730, h⟩ | ⟨h730, h⟩
    · refine Wc.cT h730 ?_
      obtain ⟨h731, h⟩ := oguard h
      obtain ⟨u7h, h732, h⟩ := obind h
      refine Wc.r2 [{ c := some (List.map cS [(bs []), (bs [97, 32, 98]), (bs [39]), (bs [97, 97, 97, 97, 97, 97, 97, 97, 97, 97, 97, 97, 97, 97, 97, 97, 97, 97, 97, 97, 97])]) }, {}, {}, { v := some (.vptr [.str u7h]) }] ⟨[tP 2 2, tP 5 5], [(2, .cells GTerm.z [(3, .app 31)]), (5, .cells [aI uf.2.gKind, .str u7h, aI uf.2.gNum, .sl (List.map GTerm.c uf.2.gKids)] [(3, .app 31)]), bC 1000000 (GL01Cur.q uf.1)], []⟩ (.cons (cl_cons (c := cS) (x := (bs [])) rfl (cl_cons (c := cS) (x := (bs [97, 32, 98])) rfl (cl_cons (c := cS) (x := (bs [39])) rfl (cl_cons (c := cS) (x := (bs [97, 97, 97, 97, 97, 97, 97, 97, 97, 97, 97, 97, 97, 97, 97, 97, 97, 97, 97, 97, 97])) rfl (cl_nil cS))))) (.cons h731 (.cons (at_obl (c := cS) rfl cS_len h732) (.cons (len_ok 1 [.str u7h]) .nil)))) ?_
      apply Wc.seq
      refine Wc.r1 [{ md := 1 }, { tk := [47] }] ⟨[tP 2 2], [(2, .cells [aI uf.2.gKind, .str u7h, aI uf.2.gNum, .sl (List.map GTerm.c uf.2.gKids)] [(3, .app 31)]), bC 1000000 (GL01Cur.q uf.1)], []⟩ ?_
      obtain rfl := Option.some.inj h; exact Wc.ret dn
    · refine Wc.cF h730 ?_
      apply Wc.seq
      refine Wc.r0 ⟨[tP 2 2, tI 4 vv.2, tP 5 5, tI 13 u0y.2, tB 27 (u0y.2 == 2)], [(2, .cells GTerm.z [(3, .app 31)]), (5, .cells (GTerm.q uf.2) [(3, .app 31)]), bC 1000000 (GL01Cur.q uf.1)], []⟩ ?_
      rcases oif h with ⟨h733, h⟩ | ⟨h733, h⟩
      · refine Wc.cT h733 ?_
        obtain ⟨h734, h⟩ := oguard h
        obtain ⟨u7i, h735, h⟩ := obind h
        refine Wc.r2 [{ c := some (List.map cI.i64 [-1, 100000, 1000000000]) }, {}, {}, { v := some (.vptr [aI u7i]) }] ⟨[tP 2 2, tP 5 5], [(2, .cells GTerm.z [(3, .app 31)]), (5, .cells [aI uf.2.gKind, .str uf.2.gName, aI u7i, .sl (List.map GTerm.c uf.2.gKids)] [(3, .app 31)]), bC 1000000 (GL01Cur.q uf.1)], []⟩ (.cons (cl_cons (c := cI.i64) (x := -1) rfl (cl_cons (c := cI.i64) (x := 100000) rfl (cl_cons (c := cI.i64) (x := 1000000000) rfl (cl_nil cI.i64)))) (.cons h734 (.cons (at_obl (c := cI.i64) rfl cI.i64_len h735) (.cons (len_ok 1 [aI u7i]) .nil)))) ?_
        apply Wc.seq
        refine Wc.r1 [{ md := 1 }, { tk := [47] }] ⟨[tP 2 2], [(2, .cells [aI uf.2.gKind, .str uf.2.gName, aI u7i, .sl (List.map GTerm.c uf.2.gKids)] [(3, .app 31)]), bC 1000000 (GL01Cur.q uf.1)], []⟩ ?_
        obtain rfl := Option.some.inj h; exact Wc.ret dn
      · refine Wc.cF h733 ?_
        apply Wc.seq
        refine Wc.r0 ⟨[tP 2 2, tI 4 vv.2, tP 5 5, tB 35 (u0y.2 == 3)], [(2, .cells GTerm.z [(3, .app 31)]), (5, .cells (GTerm.q uf.2) [(3, .app 31)]), bC 1000000 (GL01Cur.q uf.1)], []⟩ ?_
        rcases oif h with ⟨h736, h⟩ | ⟨h736, h⟩
        · refine Wc.cT h736 ?_
          apply Wc.seq
          refine Wc.r0 ⟨[tP 2 2, tI 4 vv.2, tP 5 5, tI 6 0], [(2, .cells GTerm.z [(3, .app 31)]), (5, .cells (GTerm.q uf.2) [(3, .app 31)]), bC 1000000 (GL01Cur.q uf.1)], []⟩ ?_
          obtain ⟨out1, h737, h⟩ := obind h
          refine Wc.lastJ (fun st => ∃ (u7j : GTerm), out1 = .done u7j ∧ st = ⟨[tP 2 2, tP 5 5], [(2, .cells GTerm.z [(3, .app 31)]), (5, .cells (GTerm.q u7j) [(3, .app 31)]), bC 1000000 (GL01Cur.q uf.1)], []⟩) ?_ ?_
          · refine Wc.block ?_
            refine Wc.loop (fun m st => ∃ (u48 : Int) (u2z : GTerm), st = ⟨[tP 2 2, tI 4 vv.2, tP 5 5, tI 6 u48], [(2, .cells GTerm.z [(3, .app 31)]), (5, .cells (GTerm.q u2z) [(3, .app 31)]), bC 1000000 (GL01Cur.q uf.1)], []⟩ ∧ pspec_l03Any_L1 k vv m u48 u2z = some out1) ?_ k ⟨_, _, rfl, h737⟩
            rintro m st ⟨u48, u2z, rfl, h737⟩
            cases m with
            | zero => exact (onone h737).elim
            | succ m =>
              apply Wc.seq
              apply Wc.seq
              obtain ⟨h738, h737⟩ := oguard h737
              refine Wc.r2 [] ⟨[tP 2 2, tI 4 vv.2, tP 5 5, tI 6 u48, tB 41 (decide (u48 < (wr.i64 (38 + (Int.tmod vv.2 4)))))], [(2, .cells GTerm.z [(3, .app 31)]), (5, .cells (GTerm.q u2z) [(3, .app 31)]), bC 1000000 (GL01Cur.q uf.1)], []⟩ (.cons h738 .nil) ?_
              rcases oif h737 with ⟨h739, h737⟩ | ⟨h739, h737⟩
              · refine Wc.cT h739 ?_
                refine Wc.fx [] ⟨[tP 2 2, tI 4 vv.2, tP 5 5, tI 6 u48], [(2, .cells GTerm.z [(3, .app 31)]), (5, .cells (GTerm.q u2z) [(3, .app 31)]), bC 1000000 (GL01Cur.q uf.1)], []⟩ ?_
                refine Wc.skip ?_
                apply Wc.seq
                refine Wc.block ?_
                refine Wc.r2 [{}, { c := some (List.map GTerm.c [u2z]) }, { tk := [45] }, { tk := [46] }] ⟨[tP 2 2, tI 4 vv.2, tP 5 5, tI 6 u48], [(2, .cells GTerm.z [(3, .app 31)]), (5, .cells [aI 4, .str (bs [115]), aI 0, .sl (List.map GTerm.c [u2z])] [(3, .app 31)]), bC 1000000 (GL01Cur.q uf.1)], []⟩ (.cons (cl_cons (c := GTerm.c) (x := u2z) (GTerm.c_eq u2z) (cl_nil GTerm.c)) .nil) ?_
                refine Wc.r0 ⟨[tP 2 2, tI 4 vv.2, tP 5 5, tI 6 (wr.i64 (u48 + 1))], [(2, .cells GTerm.z [(3, .app 31)]), (5, .cells [aI 4, .str (bs [115]), aI 0, .sl (List.map GTerm.c [u2z])] [(3, .app 31)]), bC 1000000 (GL01Cur.q uf.1)], []⟩ ?_
                exact ⟨_, Nat.lt_succ_self _, _, _, rfl, h737⟩
              · refine Wc.cF h739 ?_
                refine Wc.fx [] ⟨[tP 2 2, tP 5 5], [(2, .cells GTerm.z [(3, .app 31)]), (5, .cells (GTerm.q u2z) [(3, .app 31)]), bC 1000000 (GL01Cur.q uf.1)], []⟩ ?_
                refine Wc.exit ?_
                obtain rfl := Option.some.inj h737
                exact ⟨_, rfl, rfl⟩
          · rintro st ⟨u7j, rfl, rfl⟩
            apply Wc.seq
            refine Wc.r1 [{ md := 1 }, { tk := [47] }] ⟨[tP 2 2], [(2, .cells (GTerm.q u7j) [(3, .app 31)]), bC 1000000 (GL01Cur.q uf.1)], []⟩ ?_
            obtain rfl := Option.some.inj h; exact Wc.ret dn
        · refine Wc.cF h736 ?_
          refine Wc.fx [] ⟨[tP 2 2, tP 5 5], [(2, .cells GTerm.z [(3, .app 31)]), (5, .cells (GTerm.q uf.2) [(3, .app 31)]), bC 1000000 (GL01Cur.q uf.1)], []⟩ ?_
          refine Wc.skip ?_
          apply Wc.seq
          refine Wc.r1 [{ md := 1 }, { tk := [47] }] ⟨[tP 2 2], [(2, .cells (GTerm.q uf.2) [(3, .app 31)]), bC 1000000 (GL01Cur.q uf.1)], []⟩ ?_
          obtain rfl := Option.some.inj h; exact Wc.ret dn

def pspec_l03Term (k : Nat) (uag : GL01Cur) : Option (GL01Cur × GTerm) :=
  (pspec_l03Made k uag 3).bind fun u2n =>
  (pspec_TermOk k u2n.2).bind fun ucs =>
  if ucs = true then
    some (u2n.1, u2n.2)
  else
    (pspec_l03Atom k (bs [97])).bind fun uct =>
    some (u2n.1, uct)
theorem cspec_l03Term {k : Nat} {uag : GL01Cur} {r : GL01Cur × GTerm} (h : pspec_l03Term k uag = some r) : FnO Tryz.prog 39 [.p (GL01Cur.q uag) []] (.v (.agg (GTerm.q r.2)) [(3, .app 31)]) [(0, .p (GL01Cur.q r.1) [])] := by
  refine FnO.o2 Tryz.func39 (rfl : Tryz.f39.body = some _) ?_
  intro w0 X0 Fin pv0 pb gt
  unfold pspec_l03Term at h
  apply Wc.seq
  refine Wc.r0 ⟨[tP 0 1000000, tP 2 2], [(2, .cells GTerm.z [(3, .app 31)]), bC 1000000 (GL01Cur.q uag)], []⟩ ?_
  apply Wc.seq
  obtain ⟨u2n, h744, h⟩ := obind h
  refine Wc.r2 [{}, { r := some (.v (.agg (GTerm.q u2n.2)) [(3, .app 31)]), outs := [(0, .p (GL01Cur.q u2n.1) [])] }, {}, { tk := [5] }] ⟨[tP 2 2, tP 3 3], [(2, .cells GTerm.z [(3, .app 31)]), (3, .cells (GTerm.q u2n.2) [(3, .app 31)]), bC 1000000 (GL01Cur.q u2n.1)], []⟩ (.cons (cspec_l03Made h744) .nil) ?_
  apply Wc.seq
  apply Wc.seq
  obtain ⟨ucs, h745, h⟩ := obind h
  refine Wc.r2 [{}, { r := some (.v (.bool ucs) []) }] ⟨[tP 2 2, tP 3 3, tB 7 ucs], [(2, .cells GTerm.z [(3, .app 31)]), (3, .cells (GTerm.q u2n.2) [(3, .app 31)]), bC 1000000 (GL01Cur.q u2n.1)], []⟩ (.cons (cspec_TermOk h745) .nil) ?_
  rcases oif h with ⟨h746, h⟩ | ⟨h746, h⟩
  · refine Wc.cT h746 ?_
    apply Wc.seq
    refine Wc.r1 [{ md := 1 }, { tk := [8] }] ⟨[tP 2 2], [(2, .cells (GTerm.q u2n.2) [(3, .app 31)]), bC 1000000 (GL01Cur.q u2n.1)], []⟩ ?_
    obtain rfl := Option.some.inj h; exact Wc.ret dn
  · refine Wc.cF h746 ?_
    refine Wc.fx [] ⟨[tP 2 2], [(2, .cells GTerm.z [(3, .app 31)]), bC 1000000 (GL01Cur.q u2n.1)], []⟩ ?_
    refine Wc.skip ?_
    apply Wc.seq
    obtain ⟨uct, h747, h⟩ := obind h
    refine Wc.r2 [{ r := some (.v (.agg (GTerm.q uct)) [(3, .app 31)]) }, { tk := [9] }] ⟨[tP 2 2], [(2, .cells (GTerm.q uct) [(3, .app 31)]), bC 1000000 (GL01Cur.q u2n.1)], []⟩ (.cons (cspec_l03Atom h747) .nil) ?_
    obtain rfl := Option.some.inj h; exact Wc.ret dn

def pspec_DrawClauseOf (k : Nat) (uah : List Int) : Option (GTerm × ByteArray) :=
  (pspec_l01New k uah).bind fun ucu =>
  (pspec_l01Below k ucu 4).bind fun u3c =>
  (pspec_l08Lines k).bind fun uea =>
  (pspec_l01Pick k u3c.1 uea).bind fun u49 =>
  if sumOk u49.2 (bs [32, 46]) then
    (pspec_ReadTerm k (u49.2 ++ (bs [32, 46]))).bind fun u4a =>
    if (u3c.2 == 0) = true then
      (pspec_l03Any k u49.1).bind fun u6a =>
      some (u6a.2, (bs [111, 110, 101]))
    else
      if (u3c.2 == 1) = true then
        (pspec_l03Term k u49.1).bind fun uai =>
        (pspec_l03Term k uai.1).bind fun ucv =>
        (pspec_l03Two k (bs [58, 45]) uai.2 ucv.2).bind fun u7k =>
        some (u7k, (bs [111, 110, 101]))
      else
        some (u4a.1, (bs [111, 110, 101]))
  else none
theorem cspec_DrawClauseOf {k : Nat} {uah : List Int} {r : GTerm × ByteArray} (h : pspec_DrawClauseOf k uah = some r) : FnO Tryz.prog 6 [.v (.sl (List.map cI.u8 uah)) []] (.v (.tup [.agg (GTerm.q r.1), .str r.2]) []) [] := by
  refine FnO.o2 Tryz.func6 (rfl : Tryz.f6.body = some _) ?_
  intro w0 X0 Fin pv0 pb gt
  unfold pspec_DrawClauseOf at h
  apply Wc.seq
  refine Wc.r0 ⟨[tV 0 (.sl (List.map cI.u8 uah)), tP 2 2], [(2, .cells GTerm.z [(3, .app 31)])], []⟩ ?_
  apply Wc.seq
  obtain ⟨ucu, h760, h⟩ := obind h
  refine Wc.r2 [{}, { r := some (.p (GL01Cur.q ucu) []) }] ⟨[tP 2 2, tP 4 10], [(2, .cells GTerm.z [(3, .app 31)]), bC 10 (GL01Cur.q ucu)], []⟩ (.cons (cspec_l01New h760) .nil) ?_
  apply Wc.seq
  obtain ⟨u3c, h761, h⟩ := obind h
  refine Wc.r2 [{}, { r := some (.v (aI u3c.2) []), outs := [(0, .p (GL01Cur.q u3c.1) [])] }] ⟨[tP 2 2, tP 4 10, tI 5 u3c.2], [(2, .cells GTerm.z [(3, .app 31)]), bC 10 (GL01Cur.q u3c.1)], []⟩ (.cons (cspec_l01Below h761) .nil) ?_
  apply Wc.seq
  obtain ⟨uea, h762, h⟩ := obind h
  obtain ⟨u49, h763, h⟩ := obind h
  obtain ⟨h764, h⟩ := oguard h
  obtain ⟨u4a, h765, h⟩ := obind h
  refine Wc.r2 [{}, { r := some (.v (.sl (List.map cS uea)) [(0, .app 9)]) }, { r := some (.v (.str u49.2) []), outs := [(0, .p (GL01Cur.q u49.1) [])] }, {}, { r := some (.v (.tup [.agg (GTerm.q u4a.1), .sl (List.map cS u4a.2.1), .bool u4a.2.2]) [(4, .app 9)]) }, { tk := [18] }, {}, { tk := [13] }, {}, {}, {}, { tk := [20] }] ⟨[tP 2 2, tP 4 10, tI 5 u3c.2, tP 6 6], [(2, .cells GTerm.z [(3, .app 31)]), bC 6 (GTerm.q u4a.1), bC 10 (GL01Cur.q u49.1)], []⟩ (.cons (cspec_l08Lines h762) (.cons (cspec_l01Pick h763) (.cons h764 (.cons (cspec_ReadTerm h765) .nil)))) ?_
  apply Wc.seq
  apply Wc.seq
  refine Wc.r0 ⟨[tP 2 2, tP 4 10, tP 6 6, tI 22 u3c.2], [(2, .cells GTerm.z [(3, .app 31)]), bC 6 (GTerm.q u4a.1), bC 10 (GL01Cur.q u49.1)], []⟩ ?_
  refine Wc.block ?_
  apply Wc.seq
  refine Wc.r0 ⟨[tP 2 2, tP 4 10, tP 6 6, tI 22 u3c.2, tB 23 (u3c.2 == 0)], [(2, .cells GTerm.z [(3, .app 31)]), bC 6 (GTerm.q u4a.1), bC 10 (GL01Cur.q u49.1)], []⟩ ?_
  rcases oif h with ⟨h766, h⟩ | ⟨h766, h⟩
  · refine Wc.cT h766 ?_
    obtain ⟨u6a, h767, h⟩ := obind h
    refine Wc.r2 [{}, { r := some (.v (.agg (GTerm.q u6a.2)) [(3, .app 31)]), outs := [(0, .p (GL01Cur.q u6a.1) [])] }, { tk := [26] }] ⟨[tP 2 2, tP 6 6], [(2, .cells GTerm.z [(3, .app 31)]), (6, .cells (GTerm.q u6a.2) [(3, .app 31)])], []⟩ (.cons (cspec_l03Any h767) .nil) ?_
    apply Wc.seq
    refine Wc.r1 [{ md := 1 }, { tk := [34] }] ⟨[tP 2 2, tS 3 (bs [111, 110, 101])], [(2, .cells (GTerm.q u6a.2) [(3, .app 31)])], []⟩ ?_
    refine Wc.fx [.un (.b 2 3)] ⟨[tP 2 2, tS 3 (bs [111, 110, 101])], [bC 2 (GTerm.q u6a.2)], []⟩ ?_
    obtain rfl := Option.some.inj h; exact Wc.ret dn
  · refine Wc.cF h766 ?_
    apply Wc.seq
    refine Wc.r0 ⟨[tP 2 2, tP 4 10, tP 6 6, tB 27 (u3c.2 == 1)], [(2, .cells GTerm.z [(3, .app 31)]), bC 6 (GTerm.q u4a.1), bC 10 (GL01Cur.q u49.1)], []⟩ ?_
    rcases oif h with ⟨h768, h⟩ | ⟨h768, h⟩
    · refine Wc.cT h768 ?_
      obtain ⟨uai, h769, h⟩ := obind h
      obtain ⟨ucv, h770, h⟩ := obind h
      obtain ⟨u7k, h771, h⟩ := obind h
      refine Wc.r2 [{}, { r := some (.v (.agg (GTerm.q uai.2)) [(3, .app 31)]), outs := [(0, .p (GL01Cur.q uai.1) [])] }, {}, { r := some (.v (.agg (GTerm.q ucv.2)) [(3, .app 31)]), outs := [(0, .p (GL01Cur.q ucv.1) [])] }, { r := some (.v (.agg (GTerm.q u7k)) [(3, .app 31)]) }, { tk := [33] }] ⟨[tP 2 2, tP 6 6], [(2, .cells GTerm.z [(3, .app 31)]), (6, .cells (GTerm.q u7k) [(3, .app 31)])], []⟩ (.cons (cspec_l03Term h769) (.cons (cspec_l03Term h770) (.cons (cspec_l03Two h771) .nil))) ?_
      apply Wc.seq
      refine Wc.r1 [{ md := 1 }, { tk := [34] }] ⟨[tP 2 2, tS 3 (bs [111, 110, 101])], [(2, .cells (GTerm.q u7k) [(3, .app 31)])], []⟩ ?_
      refine Wc.fx [.un (.b 2 3)] ⟨[tP 2 2, tS 3 (bs [111, 110, 101])], [bC 2 (GTerm.q u7k)], []⟩ ?_
      obtain rfl := Option.some.inj h; exact Wc.ret dn
    · refine Wc.cF h768 ?_
      refine Wc.fx [] ⟨[tP 2 2, tP 6 6], [(2, .cells GTerm.z [(3, .app 31)]), bC 6 (GTerm.q u4a.1)], []⟩ ?_
      refine Wc.skip ?_
      apply Wc.seq
      refine Wc.r0 ⟨[tP 2 2, tS 3 (bs [111, 110, 101])], [bC 2 (GTerm.q u4a.1)], []⟩ ?_
      obtain rfl := Option.some.inj h; exact Wc.ret dn

def pimpl_within (k : Nat) (u6b : Int) (uaj : Int) (u7l : Int) : Option Bool :=
  if (decide (u6b ≥ uaj)) = true then
    some (decide (u6b ≤ u7l))
  else
    some false
theorem cimpl_within {k : Nat} {u6b : Int} {uaj : Int} {u7l : Int} {r : Bool} (h : pimpl_within k u6b uaj u7l = some r) : FnO Tryz.prog 99 [.v (aI u6b) [], .v (aI uaj) [], .v (aI u7l) []] (.v (.bool r) []) [] := by
  refine FnO.o2 Tryz.func99 (rfl : Tryz.f99.body = some _) ?_
  intro w0 X0 Fin pv0 pb gt
  unfold pimpl_within at h
  apply Wc.seq
  refine Wc.r0 ⟨[tI 0 u6b, tI 1 uaj, tI 2 u7l], [], []⟩ ?_
  apply Wc.seq
  rcases oif h with ⟨h772, h⟩ | ⟨h772, h⟩
  · refine Wc.r2 [{}, {}, {}, { re := some (.bool true) }] ⟨[tB 6 (decide (u6b ≤ u7l))], [], []⟩ (.cons (congrArg AV.bool h772) .nil) ?_
    obtain rfl := Option.some.inj h; exact Wc.ret dn
  · refine Wc.r2 [{}, {}, {}, { re := some (.bool false) }] ⟨[tB 6 false], [], []⟩ (.cons (congrArg AV.bool h772) .nil) ?_
    obtain rfl := Option.some.inj h; exact Wc.ret dn

def pimpl_nameOk_L1 (k : Nat) (vw : ByteArray) : Nat → Int → Option (Out Bool Unit)
  | 0, _ => none
  | m + 1, u02 =>
    if (decide (u02 < (vw.size : Int))) = true then
      if 0 ≤ u02 ∧ (u02).toNat < vw.size then
        (pimpl_within k (wr.i64 (bt vw u02)) 33 126).bind fun uak =>
        if (!uak) = true then
          some (.ret false)
        else
          if 0 ≤ u02 ∧ (u02).toNat < vw.size then
            if ((bt vw u02) == 39) = true then
              some (.ret false)
            else
              if 0 ≤ u02 ∧ (u02).toNat < vw.size then
                if ((bt vw u02) == 34) = true then
                  some (.ret false)
                else
                  pimpl_nameOk_L1 k vw m (wr.i64 (u02 + 1))
              else none
          else none
      else none
    else
      some (.done ())
def pimpl_nameOk (k : Nat) (vw : ByteArray) : Option Bool :=
  (pimpl_nameOk_L1 k vw k 0).bind fun out1 => match out1 with
  | .ret r => some r
  | .done () =>
    (pimpl_within k (vw.size : Int) 1 20).bind fun ucw =>
    some ucw
theorem cimpl_nameOk {k : Nat} {vw : ByteArray} {r : Bool} (h : pimpl_nameOk k vw = some r) : FnO Tryz.prog 100 [.v (.str vw) []] (.v (.bool r) []) [] := by
  refine FnO.o2 Tryz.func100 (rfl : Tryz.f100.body = some _) ?_
  intro w0 X0 Fin pv0 pb gt
  unfold pimpl_nameOk at h
  apply Wc.seq
  refine Wc.r0 ⟨[tS 0 vw], [], []⟩ ?_
  apply Wc.seq
  apply Wc.seq
  refine Wc.r0 ⟨[tS 0 vw, tI 3 0], [], []⟩ ?_
  obtain ⟨out1, h773, h⟩ := obind h
  refine Wc.lastJ (fun st => out1 = .done () ∧ st = ⟨[tS 0 vw], [], []⟩) ?_ ?_
  · refine Wc.block ?_
    refine Wc.loop (fun m st => ∃ (u02 : Int), st = ⟨[tS 0 vw, tI 3 u02], [], []⟩ ∧ pimpl_nameOk_L1 k vw m u02 = some out1) ?_ k ⟨_, rfl, h773⟩
    rintro m st ⟨u02, rfl, h773⟩
    cases m with
    | zero => exact (onone h773).elim
    | succ m =>
      apply Wc.seq
      apply Wc.seq
      refine Wc.r0 ⟨[tS 0 vw, tI 3 u02, tB 7 (decide (u02 < (vw.size : Int)))], [], []⟩ ?_
      rcases oif h773 with ⟨h774, h773⟩ | ⟨h774, h773⟩
      · refine Wc.cT h774 ?_
        refine Wc.fx [] ⟨[tS 0 vw, tI 3 u02], [], []⟩ ?_
        refine Wc.skip ?_
        apply Wc.seq
        refine Wc.block ?_
        apply Wc.seq
        obtain ⟨h775, h773⟩ := oguard h773
        obtain ⟨uak, h776, h773⟩ := obind h773
        rcases oif h773 with ⟨h777, h773⟩ | ⟨h777, h773⟩
        · refine Wc.r2 [{}, {}, {}, {}, { r := some (.v (.bool uak) []) }, {}, { re := some (.bool true) }] ⟨[tS 0 vw, tI 3 u02, tB 27 true], [], []⟩ (.cons h775 (.cons (cimpl_within h776) (.cons (congrArg AV.bool h777) .nil))) ?_
          refine Wc.cT rfl ?_
          apply Wc.seq
          refine Wc.r0 ⟨[tB 2 false], [], []⟩ ?_
          refine Wc.ret ?_
          obtain rfl := Option.some.inj h773
          obtain rfl := Option.some.inj h
          exact ⟨.inl rfl, by kernel_rfl, by kernel_rfl⟩
        · obtain ⟨h778, h773⟩ := oguard h773
          rcases oif h773 with ⟨h779, h773⟩ | ⟨h779, h773⟩
          · refine Wc.r2 [{}, {}, {}, {}, { r := some (.v (.bool uak) []) }, {}, { re := some (.bool false) }, {}, {}, {}, {}, {}, { re := some (.bool true) }] ⟨[tS 0 vw, tI 3 u02, tB 27 true], [], []⟩ (.cons h775 (.cons (cimpl_within h776) (.cons (congrArg AV.bool h777) (.cons h778 (.cons (congrArg AV.bool h779) .nil))))) ?_
            refine Wc.cT rfl ?_
            apply Wc.seq
            refine Wc.r0 ⟨[tB 2 false], [], []⟩ ?_
            refine Wc.ret ?_
            obtain rfl := Option.some.inj h773
            obtain rfl := Option.some.inj h
            exact ⟨.inl rfl, by kernel_rfl, by kernel_rfl⟩
          · obtain ⟨h780, h773⟩ := oguard h773
            refine Wc.r2 [{}, {}, {}, {}, { r := some (.v (.bool uak) []) }, {}, { re := some (.bool false) }, {}, {}, {}, {}, {}, { re := some (.bool false) }] ⟨[tS 0 vw, tI 3 u02, tB 27 ((bt vw u02) == 34)], [], []⟩ (.cons h775 (.cons (cimpl_within h776) (.cons (congrArg AV.bool h777) (.cons h778 (.cons (congrArg AV.bool h779) (.cons h780 .nil)))))) ?_
            rcases oif h773 with ⟨h781, h773⟩ | ⟨h781, h773⟩
            · refine Wc.cT h781 ?_
              apply Wc.seq
              refine Wc.r0 ⟨[tB 2 false], [], []⟩ ?_
              refine Wc.ret ?_
              obtain rfl := Option.some.inj h773
              obtain rfl := Option.some.inj h
              exact ⟨.inl rfl, by kernel_rfl, by kernel_rfl⟩
            · refine Wc.cF h781 ?_
              refine Wc.fx [] ⟨[tS 0 vw, tI 3 u02], [], []⟩ ?_
              refine Wc.skip ?_
              refine Wc.r0 ⟨[tS 0 vw, tI 3 (wr.i64 (u02 + 1))], [], []⟩ ?_
              exact ⟨_, Nat.lt_succ_self _, _, rfl, h773⟩
      · refine Wc.cF h774 ?_
        refine Wc.fx [] ⟨[tS 0 vw], [], []⟩ ?_
        refine Wc.exit ?_
        obtain rfl := Option.some.inj h773
        exact ⟨rfl, rfl⟩
  · rintro st ⟨rfl, rfl⟩
    apply Wc.seq
    obtain ⟨ucw, h782, h⟩ := obind h
    refine Wc.r2 [{}, {}, { r := some (.v (.bool ucw) []) }] ⟨[tB 2 ucw], [], []⟩ (.cons (cimpl_within h782) .nil) ?_
    obtain rfl := Option.some.inj h; exact Wc.ret dn

def pimpl_sized_L2 (k : Nat) (rimpl_sized : GTerm → Int → Option Int) (u9 : GTerm) (uk : Int) : Nat → Int → Int → Option (Out Int Int)
  | 0, _, _ => none
  | m + 1, u28, u2o =>
    if (decide (u2o < (u9.gKids.length : Int))) = true then
      (at' u9.gKids u2o).bind fun u7m =>
      (rimpl_sized u7m (wr.i64 (uk + 1))).bind fun u56 =>
      if (decide ((wr.i64 (u28 + u56)) > 400)) = true then
        some (.ret 401)
      else
        pimpl_sized_L2 k rimpl_sized u9 uk m (wr.i64 (u28 + u56)) (wr.i64 (u2o + 1))
    else
      some (.done u28)
def pimpl_sized_J1 (k : Nat) (rimpl_sized : GTerm → Int → Option Int) (u9 : GTerm) (uk : Int) : Option Int :=
  (pimpl_sized_L2 k rimpl_sized u9 uk k 1 0).bind fun out2 => match out2 with
  | .ret r => some r
  | .done u7n =>
    some u7n
mutual
def pimpl_sized : Nat → GTerm → Int → Option Int
  | 0, _, _ => none
  | k + 1, u9, uk =>
    if (decide (uk > 40)) = true then
      some 401
    else
      if (u9.gKind == 1) = true then
        if (!(sEq u9.gName (bs []))) = true then
          some 401
        else
          (pimpl_within k u9.gNum 0 99999).bind fun ucx =>
          if (!ucx) = true then
            some 401
          else
            if (decide ((u9.gKids.length : Int) > 0)) = true then
              some 401
            else
              pimpl_sized_J1 k (pimpl_sized k) u9 uk
      else
        if (u9.gKind == 2) = true then
          (pimpl_nameOk k u9.gName).bind fun ual =>
          if (!ual) = true then
            some 401
          else
            if (u9.gNum != 0) = true then
              some 401
            else
              if (decide ((u9.gKids.length : Int) > 0)) = true then
                some 401
              else
                pimpl_sized_J1 k (pimpl_sized k) u9 uk
        else
          if (u9.gKind == 3) = true then
            if (!(sEq u9.gName (bs []))) = true then
              some 401
            else
              (pimpl_within k u9.gNum (-999999999) 999999999).bind fun ucy =>
              if (!ucy) = true then
                some 401
              else
                if (decide ((u9.gKids.length : Int) > 0)) = true then
                  some 401
                else
                  pimpl_sized_J1 k (pimpl_sized k) u9 uk
          else
            if (u9.gKind == 4) = true then
              (pimpl_nameOk k u9.gName).bind fun uam =>
              if (!uam) = true then
                some 401
              else
                if (u9.gNum != 0) = true then
                  some 401
                else
                  (pimpl_within k (u9.gKids.length : Int) 1 5).bind fun ucz =>
                  if (!ucz) = true then
                    some 401
                  else
                    pimpl_sized_J1 k (pimpl_sized k) u9 uk
            else
              some 401
end
set_option maxHeartbeats 4000000 in
theorem all_pimpl_sized : ∀ k : Nat, (∀ {u9 : GTerm} {uk : Int} {r : Int}, pimpl_sized k u9 uk = some r → FnO Tryz.prog 75 [.v (.agg (GTerm.q u9)) [], .v (aI uk) []] (.v (aI r) []) []) := by
  intro k
  induction k with
  | zero =>
    · intro u9 uk r h
      exact (onone (by rw [pimpl_sized] at h; exact h)).elim
  | succ k ih =>
    have ih_pimpl_sized := @ih
    · intro u9 uk r h
      rw [pimpl_sized] at h
      refine FnO.o2 Tryz.func75 (rfl : Tryz.f75.body = some _) ?_
      intro w0 X0 Fin pv0 pb gt
      apply Wc.seq
      refine Wc.r0 ⟨[tI 1 uk, tP 2 2], [bC 2 (GTerm.q u9)], []⟩ ?_
      apply Wc.seq
      apply Wc.seq
      refine Wc.r0 ⟨[tI 1 uk, tP 2 2, tB 9 (decide (uk > 40))], [bC 2 (GTerm.q u9)], []⟩ ?_
      rcases oif h with ⟨h783, h⟩ | ⟨h783, h⟩
      · refine Wc.cT h783 ?_
        apply Wc.seq
        refine Wc.r0 ⟨[tI 4 401], [], []⟩ ?_
        obtain rfl := Option.some.inj h; exact Wc.ret dn
      · refine Wc.cF h783 ?_
        refine Wc.fx [] ⟨[tI 1 uk, tP 2 2], [bC 2 (GTerm.q u9)], []⟩ ?_
        refine Wc.skip ?_
        refine Wc.seqJ (fun st => st = ⟨[tI 1 uk, tP 2 2], [bC 2 (GTerm.q u9)], []⟩ ∧ pimpl_sized_J1 k (pimpl_sized k) u9 uk = some r) ?_ ?_
        · apply Wc.seq
          refine Wc.r0 ⟨[tI 1 uk, tP 2 2, tI 11 u9.gKind], [bC 2 (GTerm.q u9)], []⟩ ?_
          refine Wc.block ?_
          apply Wc.seq
          refine Wc.r0 ⟨[tI 1 uk, tP 2 2, tI 11 u9.gKind, tB 12 (u9.gKind == 1)], [bC 2 (GTerm.q u9)], []⟩ ?_
          rcases oif h with ⟨h789, h⟩ | ⟨h789, h⟩
          · refine Wc.cT h789 ?_
            apply Wc.seq
            rcases oif h with ⟨h790, h⟩ | ⟨h790, h⟩
            · refine Wc.r2 [{}, {}, {}, { re := some (.bool true) }] ⟨[tI 1 uk, tP 2 2, tB 28 true], [bC 2 (GTerm.q u9)], []⟩ (.cons (congrArg AV.bool h790) .nil) ?_
              refine Wc.cT rfl ?_
              apply Wc.seq
              refine Wc.r0 ⟨[tI 4 401], [], []⟩ ?_
              obtain rfl := Option.some.inj h; exact Wc.ret dn
            · obtain ⟨ucx, h791, h⟩ := obind h
              rcases oif h with ⟨h792, h⟩ | ⟨h792, h⟩
              · refine Wc.r2 [{}, {}, {}, { re := some (.bool false) }, {}, {}, { r := some (.v (.bool ucx) []) }, {}, {}, { re := some (.bool true) }] ⟨[tI 1 uk, tP 2 2, tB 28 true], [bC 2 (GTerm.q u9)], []⟩ (.cons (congrArg AV.bool h790) (.cons (cimpl_within h791) (.cons (congrArg AV.bool h792) .nil))) ?_
                refine Wc.cT rfl ?_
                apply Wc.seq
                refine Wc.r0 ⟨[tI 4 401], [], []⟩ ?_
                obtain rfl := Option.some.inj h; exact Wc.ret dn
              · refine Wc.r2 [{}, {}, {}, { re := some (.bool false) }, {}, {}, { r := some (.v (.bool ucx) []) }, {}, {}, { re := some (.bool false) }, {}, {}, { v := some (aI (u9.gKids.length : Int)) }] ⟨[tI 1 uk, tP 2 2, tB 28 (decide ((u9.gKids.length : Int) > 0))], [bC 2 (GTerm.q u9)], []⟩ (.cons (congrArg AV.bool h790) (.cons (cimpl_within h791) (.cons (congrArg AV.bool h792) (.cons (len_obl GTerm.c u9.gKids) .nil)))) ?_
                rcases oif h with ⟨h793, h⟩ | ⟨h793, h⟩
                · refine Wc.cT h793 ?_
                  apply Wc.seq
                  refine Wc.r0 ⟨[tI 4 401], [], []⟩ ?_
                  obtain rfl := Option.some.inj h; exact Wc.ret dn
                · refine Wc.cF h793 ?_
                  refine Wc.fx [] ⟨[tI 1 uk, tP 2 2], [bC 2 (GTerm.q u9)], []⟩ ?_
                  refine Wc.skip ?_
                  exact ⟨rfl, h⟩
          · refine Wc.cF h789 ?_
            apply Wc.seq
            refine Wc.r0 ⟨[tI 1 uk, tP 2 2, tI 11 u9.gKind, tB 29 (u9.gKind == 2)], [bC 2 (GTerm.q u9)], []⟩ ?_
            rcases oif h with ⟨h794, h⟩ | ⟨h794, h⟩
            · refine Wc.cT h794 ?_
              apply Wc.seq
              obtain ⟨ual, h795, h⟩ := obind h
              rcases oif h with ⟨h796, h⟩ | ⟨h796, h⟩
              · refine Wc.r2 [{}, {}, { r := some (.v (.bool ual) []) }, {}, { re := some (.bool true) }] ⟨[tI 1 uk, tP 2 2, tB 45 true], [bC 2 (GTerm.q u9)], []⟩ (.cons (cimpl_nameOk h795) (.cons (congrArg AV.bool h796) .nil)) ?_
                refine Wc.cT rfl ?_
                apply Wc.seq
                refine Wc.r0 ⟨[tI 4 401], [], []⟩ ?_
                obtain rfl := Option.some.inj h; exact Wc.ret dn
              · rcases oif h with ⟨h797, h⟩ | ⟨h797, h⟩
                · refine Wc.r2 [{}, {}, { r := some (.v (.bool ual) []) }, {}, { re := some (.bool false) }, {}, {}, {}, {}, { re := some (.bool true) }] ⟨[tI 1 uk, tP 2 2, tB 45 true], [bC 2 (GTerm.q u9)], []⟩ (.cons (cimpl_nameOk h795) (.cons (congrArg AV.bool h796) (.cons (congrArg AV.bool h797) .nil))) ?_
                  refine Wc.cT rfl ?_
                  apply Wc.seq
                  refine Wc.r0 ⟨[tI 4 401], [], []⟩ ?_
                  obtain rfl := Option.some.inj h; exact Wc.ret dn
                · refine Wc.r2 [{}, {}, { r := some (.v (.bool ual) []) }, {}, { re := some (.bool false) }, {}, {}, {}, {}, { re := some (.bool false) }, {}, {}, { v := some (aI (u9.gKids.length : Int)) }] ⟨[tI 1 uk, tP 2 2, tB 45 (decide ((u9.gKids.length : Int) > 0))], [bC 2 (GTerm.q u9)], []⟩ (.cons (cimpl_nameOk h795) (.cons (congrArg AV.bool h796) (.cons (congrArg AV.bool h797) (.cons (len_obl GTerm.c u9.gKids) .nil)))) ?_
                  rcases oif h with ⟨h798, h⟩ | ⟨h798, h⟩
                  · refine Wc.cT h798 ?_
                    apply Wc.seq
                    refine Wc.r0 ⟨[tI 4 401], [], []⟩ ?_
                    obtain rfl := Option.some.inj h; exact Wc.ret dn
                  · refine Wc.cF h798 ?_
                    refine Wc.fx [] ⟨[tI 1 uk, tP 2 2], [bC 2 (GTerm.q u9)], []⟩ ?_
                    refine Wc.skip ?_
                    exact ⟨rfl, h⟩
            · refine Wc.cF h794 ?_
              apply Wc.seq
              refine Wc.r0 ⟨[tI 1 uk, tP 2 2, tI 11 u9.gKind, tB 46 (u9.gKind == 3)], [bC 2 (GTerm.q u9)], []⟩ ?_
              rcases oif h with ⟨h799, h⟩ | ⟨h799, h⟩
              · refine Wc.cT h799 ?_
                apply Wc.seq
                rcases oif h with ⟨h800, h⟩ | ⟨h800, h⟩
                · refine Wc.r2 [{}, {}, {}, { re := some (.bool true) }] ⟨[tI 1 uk, tP 2 2, tB 62 true], [bC 2 (GTerm.q u9)], []⟩ (.cons (congrArg AV.bool h800) .nil) ?_
                  refine Wc.cT rfl ?_
                  apply Wc.seq
                  refine Wc.r0 ⟨[tI 4 401], [], []⟩ ?_
                  obtain rfl := Option.some.inj h; exact Wc.ret dn
                · obtain ⟨ucy, h801, h⟩ := obind h
                  rcases oif h with ⟨h802, h⟩ | ⟨h802, h⟩
                  · refine Wc.r2 [{}, {}, {}, { re := some (.bool false) }, {}, {}, { r := some (.v (.bool ucy) []) }, {}, {}, { re := some (.bool true) }] ⟨[tI 1 uk, tP 2 2, tB 62 true], [bC 2 (GTerm.q u9)], []⟩ (.cons (congrArg AV.bool h800) (.cons (cimpl_within h801) (.cons (congrArg AV.bool h802) .nil))) ?_
                    refine Wc.cT rfl ?_
                    apply Wc.seq
                    refine Wc.r0 ⟨[tI 4 401], [], []⟩ ?_
                    obtain rfl := Option.some.inj h; exact Wc.ret dn
                  · refine Wc.r2 [{}, {}, {}, { re := some (.bool false) }, {}, {}, { r := some (.v (.bool ucy) []) }, {}, {}, { re := some (.bool false) }, {}, {}, { v := some (aI (u9.gKids.length : Int)) }] ⟨[tI 1 uk, tP 2 2, tB 62 (decide ((u9.gKids.length : Int) > 0))], [bC 2 (GTerm.q u9)], []⟩ (.cons (congrArg AV.bool h800) (.cons (cimpl_within h801) (.cons (congrArg AV.bool h802) (.cons (len_obl GTerm.c u9.gKids) .nil)))) ?_
                    rcases oif h with ⟨h803, h⟩ | ⟨h803, h⟩
                    · refine Wc.cT h803 ?_
                      apply Wc.seq
                      refine Wc.r0 ⟨[tI 4 401], [], []⟩ ?_
                      obtain rfl := Option.some.inj h; exact Wc.ret dn
                    · refine Wc.cF h803 ?_
                      refine Wc.fx [] ⟨[tI 1 uk, tP 2 2], [bC 2 (GTerm.q u9)], []⟩ ?_
                      refine Wc.skip ?_
                      exact ⟨rfl, h⟩
              · refine Wc.cF h799 ?_
                apply Wc.seq
                refine Wc.r0 ⟨[tI 1 uk, tP 2 2, tB 63 (u9.gKind == 4)], [bC 2 (GTerm.q u9)], []⟩ ?_
                rcases oif h with ⟨h804, h⟩ | ⟨h804, h⟩
                · refine Wc.cT h804 ?_
                  apply Wc.seq
                  obtain ⟨uam, h805, h⟩ := obind h
                  rcases oif h with ⟨h806, h⟩ | ⟨h806, h⟩
                  · refine Wc.r2 [{}, {}, { r := some (.v (.bool uam) []) }, {}, { re := some (.bool true) }] ⟨[tI 1 uk, tP 2 2, tB 80 true], [bC 2 (GTerm.q u9)], []⟩ (.cons (cimpl_nameOk h805) (.cons (congrArg AV.bool h806) .nil)) ?_
                    refine Wc.cT rfl ?_
                    apply Wc.seq
                    refine Wc.r0 ⟨[tI 4 401], [], []⟩ ?_
                    obtain rfl := Option.some.inj h; exact Wc.ret dn
                  · rcases oif h with ⟨h807, h⟩ | ⟨h807, h⟩
                    · refine Wc.r2 [{}, {}, { r := some (.v (.bool uam) []) }, {}, { re := some (.bool false) }, {}, {}, {}, {}, { re := some (.bool true) }] ⟨[tI 1 uk, tP 2 2, tB 80 true], [bC 2 (GTerm.q u9)], []⟩ (.cons (cimpl_nameOk h805) (.cons (congrArg AV.bool h806) (.cons (congrArg AV.bool h807) .nil))) ?_
                      refine Wc.cT rfl ?_
                      apply Wc.seq
                      refine Wc.r0 ⟨[tI 4 401], [], []⟩ ?_
                      obtain rfl := Option.some.inj h; exact Wc.ret dn
                    · obtain ⟨ucz, h808, h⟩ := obind h
                      refine Wc.r2 [{}, {}, { r := some (.v (.bool uam) []) }, {}, { re := some (.bool false) }, {}, {}, {}, {}, { re := some (.bool false) }, {}, {}, { v := some (aI (u9.gKids.length : Int)) }, { r := some (.v (.bool ucz) []) }] ⟨[tI 1 uk, tP 2 2, tB 80 (!ucz)], [bC 2 (GTerm.q u9)], []⟩ (.cons (cimpl_nameOk h805) (.cons (congrArg AV.bool h806) (.cons (congrArg AV.bool h807) (.cons (len_obl GTerm.c u9.gKids) (.cons (cimpl_within h808) .nil))))) ?_
                      rcases oif h with ⟨h809, h⟩ | ⟨h809, h⟩
                      · refine Wc.cT h809 ?_
                        apply Wc.seq
                        refine Wc.r0 ⟨[tI 4 401], [], []⟩ ?_
                        obtain rfl := Option.some.inj h; exact Wc.ret dn
                      · refine Wc.cF h809 ?_
                        refine Wc.fx [] ⟨[tI 1 uk, tP 2 2], [bC 2 (GTerm.q u9)], []⟩ ?_
                        refine Wc.skip ?_
                        exact ⟨rfl, h⟩
                · refine Wc.cF h804 ?_
                  apply Wc.seq
                  refine Wc.r0 ⟨[tI 4 401], [], []⟩ ?_
                  obtain rfl := Option.some.inj h; exact Wc.ret dn
        · rintro st ⟨rfl, h⟩
          apply Wc.seq
          refine Wc.r0 ⟨[tI 1 uk, tP 2 2, tI 5 1], [bC 2 (GTerm.q u9)], []⟩ ?_
          apply Wc.seq
          apply Wc.seq
          refine Wc.r2 [{}, {}, { v := some (aI (u9.gKids.length : Int)) }] ⟨[tI 1 uk, tI 5 1, tV 82 (.sl (List.map GTerm.c u9.gKids)), tI 83 (u9.gKids.length : Int), tI 84 0], [], []⟩ (.cons (len_obl GTerm.c u9.gKids) .nil) ?_
          obtain ⟨out2, h784, h⟩ := obind h
          refine Wc.lastJ (fun st => ∃ (u7n : Int), out2 = .done u7n ∧ st = ⟨[tI 5 u7n], [], []⟩) ?_ ?_
          · refine Wc.block ?_
            refine Wc.loop (fun m st => ∃ (u28 : Int) (u2o : Int), st = ⟨[tI 1 uk, tI 5 u28, tV 82 (.sl (List.map GTerm.c u9.gKids)), tI 83 (u9.gKids.length : Int), tI 84 u2o], [], []⟩ ∧ pimpl_sized_L2 k (pimpl_sized k) u9 uk m u28 u2o = some out2) ?_ k ⟨_, _, rfl, h784⟩
            rintro m st ⟨u28, u2o, rfl, h784⟩
            cases m with
            | zero => exact (onone h784).elim
            | succ m =>
              apply Wc.seq
              refine Wc.r0 ⟨[tI 1 uk, tI 5 u28, tV 82 (.sl (List.map GTerm.c u9.gKids)), tI 83 (u9.gKids.length : Int), tI 84 u2o, tB 85 (decide (u2o < (u9.gKids.length : Int)))], [], []⟩ ?_
              apply Wc.seq
              rcases oif h784 with ⟨h785, h784⟩ | ⟨h785, h784⟩
              · refine Wc.cT h785 ?_
                refine Wc.fx [] ⟨[tI 1 uk, tI 5 u28, tV 82 (.sl (List.map GTerm.c u9.gKids)), tI 83 (u9.gKids.length : Int), tI 84 u2o], [], []⟩ ?_
                refine Wc.skip ?_
                apply Wc.seq
                refine Wc.block ?_
                apply Wc.seq
                obtain ⟨u7m, h786, h784⟩ := obind h784
                refine Wc.r2 [{ v := some (.vptr (GTerm.q u7m)) }] ⟨[tI 1 uk, tI 5 u28, tP 7 7, tV 82 (.sl (List.map GTerm.c u9.gKids)), tI 83 (u9.gKids.length : Int), tI 84 u2o], [bC 7 (GTerm.q u7m)], []⟩ (.cons (at_obl (c := GTerm.c) (GTerm.c_eq u7m) GTerm.c_len h786) (.cons (len_ok 4 (GTerm.q u7m)) .nil)) ?_
                apply Wc.seq
                obtain ⟨u56, h787, h784⟩ := obind h784
                refine Wc.r2 [{}, {}, {}, {}, { r := some (.v (aI u56) []) }] ⟨[tI 1 uk, tI 5 (wr.i64 (u28 + u56)), tV 82 (.sl (List.map GTerm.c u9.gKids)), tI 83 (u9.gKids.length : Int), tI 84 u2o], [], []⟩ (.cons (ih_pimpl_sized h787) .nil) ?_
                apply Wc.seq
                refine Wc.r0 ⟨[tI 1 uk, tI 5 (wr.i64 (u28 + u56)), tV 82 (.sl (List.map GTerm.c u9.gKids)), tI 83 (u9.gKids.length : Int), tI 84 u2o, tB 95 (decide ((wr.i64 (u28 + u56)) > 400))], [], []⟩ ?_
                rcases oif h784 with ⟨h788, h784⟩ | ⟨h788, h784⟩
                · refine Wc.cT h788 ?_
                  apply Wc.seq
                  refine Wc.r0 ⟨[tI 4 401], [], []⟩ ?_
                  refine Wc.ret ?_
                  obtain rfl := Option.some.inj h784
                  obtain rfl := Option.some.inj h
                  exact ⟨.inl rfl, by kernel_rfl, by kernel_rfl⟩
                · refine Wc.cF h788 ?_
                  refine Wc.fx [] ⟨[tI 1 uk, tI 5 (wr.i64 (u28 + u56)), tV 82 (.sl (List.map GTerm.c u9.gKids)), tI 83 (u9.gKids.length : Int), tI 84 u2o], [], []⟩ ?_
                  refine Wc.skip ?_
                  refine Wc.r0 ⟨[tI 1 uk, tI 5 (wr.i64 (u28 + u56)), tV 82 (.sl (List.map GTerm.c u9.gKids)), tI 83 (u9.gKids.length : Int), tI 84 (wr.i64 (u2o + 1))], [], []⟩ ?_
                  exact ⟨_, Nat.lt_succ_self _, _, _, rfl, h784⟩
              · refine Wc.cF h785 ?_
                refine Wc.fx [] ⟨[tI 5 u28], [], []⟩ ?_
                refine Wc.exit ?_
                obtain rfl := Option.some.inj h784
                exact ⟨_, rfl, rfl⟩
          · rintro st ⟨u7n, rfl, rfl⟩
            apply Wc.seq
            refine Wc.r0 ⟨[tI 4 u7n], [], []⟩ ?_
            obtain rfl := Option.some.inj h; exact Wc.ret dn
theorem cimpl_sized {k : Nat} {u9 : GTerm} {uk : Int} {r : Int} (h : pimpl_sized k u9 uk = some r) : FnO Tryz.prog 75 [.v (.agg (GTerm.q u9)) [], .v (aI uk) []] (.v (aI r) []) [] := (all_pimpl_sized k) h

def pimpl_TermOk (k : Nat) (uan : GTerm) : Option Bool :=
  (pimpl_sized k uan 1).bind fun ud0 =>
  some (decide (ud0 ≤ 400))
theorem cimpl_TermOk {k : Nat} {uan : GTerm} {r : Bool} (h : pimpl_TermOk k uan = some r) : FnO Tryz.prog 40 [.v (.agg (GTerm.q uan)) []] (.v (.bool r) []) [] := by
  refine FnO.o2 Tryz.func40 (rfl : Tryz.f40.body = some _) ?_
  intro w0 X0 Fin pv0 pb gt
  unfold pimpl_TermOk at h
  apply Wc.seq
  refine Wc.r0 ⟨[tP 1 1], [bC 1 (GTerm.q uan)], []⟩ ?_
  apply Wc.seq
  obtain ⟨ud0, h810, h⟩ := obind h
  refine Wc.r2 [{}, { r := some (.v (aI ud0) []) }] ⟨[tB 2 (decide (ud0 ≤ 400))], [], []⟩ (.cons (cimpl_sized h810) .nil) ?_
  obtain rfl := Option.some.inj h; exact Wc.ret dn

def pimpl_atom (k : Nat) (u7o : ByteArray) : Option GTerm :=
  some (GTerm.mk 2 u7o 0 [])
theorem cimpl_atom {k : Nat} {u7o : ByteArray} {r : GTerm} (h : pimpl_atom k u7o = some r) : FnO Tryz.prog 41 [.v (.str u7o) []] (.v (.agg (GTerm.q r)) [(3, .app 31)]) [] := by
  refine FnO.o2 Tryz.func41 (rfl : Tryz.f41.body = some _) ?_
  intro w0 X0 Fin pv0 pb gt
  unfold pimpl_atom at h
  apply Wc.seq
  refine Wc.r0 ⟨[tS 0 u7o, tP 2 2], [(2, .cells GTerm.z [(3, .app 31)])], []⟩ ?_
  apply Wc.seq
  refine Wc.r1 [{}, {}, { tk := [4] }] ⟨[tP 2 2], [(2, .cells [aI 2, .str u7o, aI 0, .sl (List.map GTerm.c [])] [(3, .app 31)])], []⟩ ?_
  obtain rfl := Option.some.inj h; exact Wc.ret dn

def pimpl_isStruct (k : Nat) (u4m : GTerm) (uao : ByteArray) (u7p : Int) : Option Bool :=
  if (u4m.gKind == 4) = true then
    if (sEq u4m.gName uao) = true then
      some ((u4m.gKids.length : Int) == u7p)
    else
      some false
  else
    some false
theorem cimpl_isStruct {k : Nat} {u4m : GTerm} {uao : ByteArray} {u7p : Int} {r : Bool} (h : pimpl_isStruct k u4m uao u7p = some r) : FnO Tryz.prog 42 [.v (.agg (GTerm.q u4m)) [], .v (.str uao) [], .v (aI u7p) []] (.v (.bool r) []) [] := by
  refine FnO.o2 Tryz.func42 (rfl : Tryz.f42.body = some _) ?_
  intro w0 X0 Fin pv0 pb gt
  unfold pimpl_isStruct at h
  apply Wc.seq
  refine Wc.r0 ⟨[tS 1 uao, tI 2 u7p, tP 3 3], [bC 3 (GTerm.q u4m)], []⟩ ?_
  apply Wc.seq
  rcases oif h with ⟨h811, h⟩ | ⟨h811, h⟩
  · rcases oif h with ⟨h812, h⟩ | ⟨h812, h⟩
    · refine Wc.r2 [{}, {}, {}, { re := some (.bool true) }, {}, {}, {}, {}, {}, { re := some (.bool true) }, {}, {}, { v := some (aI (u4m.gKids.length : Int)) }] ⟨[tB 6 ((u4m.gKids.length : Int) == u7p)], [], []⟩ (.cons (congrArg AV.bool h811) (.cons (congrArg AV.bool h812) (.cons (len_obl GTerm.c u4m.gKids) .nil))) ?_
      obtain rfl := Option.some.inj h; exact Wc.ret dn
    · refine Wc.r2 [{}, {}, {}, { re := some (.bool true) }, {}, {}, {}, {}, {}, { re := some (.bool false) }] ⟨[tB 6 false], [], []⟩ (.cons (congrArg AV.bool h811) (.cons (congrArg AV.bool h812) .nil)) ?_
      obtain rfl := Option.some.inj h; exact Wc.ret dn
  · refine Wc.r2 [{}, {}, {}, { re := some (.bool false) }] ⟨[tB 6 false], [], []⟩ (.cons (congrArg AV.bool h811) .nil) ?_
    obtain rfl := Option.some.inj h; exact Wc.ret dn

def pimpl_structure (k : Nat) (u7q : ByteArray) (u7r : List GTerm) : Option GTerm :=
  some (GTerm.mk 4 u7q 0 u7r)
theorem cimpl_structure {k : Nat} {u7q : ByteArray} {u7r : List GTerm} {r : GTerm} (h : pimpl_structure k u7q u7r = some r) : FnO Tryz.prog 43 [.v (.str u7q) [], .v (.sl (List.map GTerm.c u7r)) []] (.v (.agg (GTerm.q r)) []) [] := by
  refine FnO.o2 Tryz.func43 (rfl : Tryz.f43.body = some _) ?_
  intro w0 X0 Fin pv0 pb gt
  unfold pimpl_structure at h
  apply Wc.seq
  refine Wc.r0 ⟨[tS 0 u7q, tV 1 (.sl (List.map GTerm.c u7r)), tP 4 4], [(4, .cells GTerm.z [(3, .app 31)])], []⟩ ?_
  apply Wc.seq
  refine Wc.r0 ⟨[tP 4 4], [bC 4 [aI 4, .str u7q, aI 0, .sl (List.map GTerm.c u7r)]], []⟩ ?_
  obtain rfl := Option.some.inj h; exact Wc.ret dn

def pslices_Index___string_string__L1 (k : Nat) (vx : List ByteArray) (u1k : ByteArray) : Nat → Int → Option (Out Int Unit)
  | 0, _ => none
  | m + 1, u1l =>
    if (decide (u1l < (vx.length : Int))) = true then
      (at' vx u1l).bind fun uap =>
      if (sEq u1k uap) = true then
        some (.ret u1l)
      else
        pslices_Index___string_string__L1 k vx u1k m (wr.i64 (u1l + 1))
    else
      some (.done ())
def pslices_Index___string_string_ (k : Nat) (vx : List ByteArray) (u1k : ByteArray) : Option Int :=
  (pslices_Index___string_string__L1 k vx u1k k 0).bind fun out1 => match out1 with
  | .ret r => some r
  | .done () =>
    some (-1)
theorem cslices_Index___string_string_ {k : Nat} {vx : List ByteArray} {u1k : ByteArray} {r : Int} (h : pslices_Index___string_string_ k vx u1k = some r) : FnO Tryz.prog 82 [.v (.sl (List.map cS vx)) [], .v (.str u1k) []] (.v (aI r) []) [] := by
  refine FnO.o2 Tryz.func82 (rfl : Tryz.f82.body = some _) ?_
  intro w0 X0 Fin pv0 pb gt
  unfold pslices_Index___string_string_ at h
  apply Wc.seq
  refine Wc.r0 ⟨[tV 0 (.sl (List.map cS vx)), tS 1 u1k], [], []⟩ ?_
  apply Wc.seq
  apply Wc.seq
  refine Wc.r2 [{}, { v := some (aI (vx.length : Int)) }] ⟨[tV 0 (.sl (List.map cS vx)), tS 1 u1k, tI 7 (vx.length : Int), tI 8 0], [], []⟩ (.cons (len_obl cS vx) .nil) ?_
  obtain ⟨out1, h813, h⟩ := obind h
  refine Wc.lastJ (fun st => out1 = .done () ∧ st = ⟨[], [], []⟩) ?_ ?_
  · refine Wc.block ?_
    refine Wc.loop (fun m st => ∃ (u1l : Int), st = ⟨[tV 0 (.sl (List.map cS vx)), tS 1 u1k, tI 7 (vx.length : Int), tI 8 u1l], [], []⟩ ∧ pslices_Index___string_string__L1 k vx u1k m u1l = some out1) ?_ k ⟨_, rfl, h813⟩
    rintro m st ⟨u1l, rfl, h813⟩
    cases m with
    | zero => exact (onone h813).elim
    | succ m =>
      apply Wc.seq
      refine Wc.r0 ⟨[tV 0 (.sl (List.map cS vx)), tS 1 u1k, tI 7 (vx.length : Int), tI 8 u1l, tB 9 (decide (u1l < (vx.length : Int)))], [], []⟩ ?_
      apply Wc.seq
      rcases oif h813 with ⟨h814, h813⟩ | ⟨h814, h813⟩
      · refine Wc.cT h814 ?_
        refine Wc.fx [] ⟨[tV 0 (.sl (List.map cS vx)), tS 1 u1k, tI 7 (vx.length : Int), tI 8 u1l], [], []⟩ ?_
        refine Wc.skip ?_
        apply Wc.seq
        refine Wc.block ?_
        apply Wc.seq
        refine Wc.r0 ⟨[tV 0 (.sl (List.map cS vx)), tS 1 u1k, tI 5 u1l, tI 7 (vx.length : Int), tI 8 u1l], [], []⟩ ?_
        apply Wc.seq
        obtain ⟨uap, h815, h813⟩ := obind h813
        refine Wc.r2 [{}, {}, {}, { v := some (.vptr [.str uap]) }] ⟨[tV 0 (.sl (List.map cS vx)), tS 1 u1k, tI 5 u1l, tI 7 (vx.length : Int), tI 8 u1l, tB 16 (sEq u1k uap)], [], []⟩ (.cons (at_obl (c := cS) rfl cS_len h815) (.cons (len_ok 1 [.str uap]) .nil)) ?_
        rcases oif h813 with ⟨h816, h813⟩ | ⟨h816, h813⟩
        · refine Wc.cT h816 ?_
          apply Wc.seq
          refine Wc.r0 ⟨[tI 4 u1l], [], []⟩ ?_
          refine Wc.ret ?_
          obtain rfl := Option.some.inj h813
          obtain rfl := Option.some.inj h
          exact ⟨.inl rfl, by kernel_rfl, by kernel_rfl⟩
        · refine Wc.cF h816 ?_
          refine Wc.fx [] ⟨[tV 0 (.sl (List.map cS vx)), tS 1 u1k, tI 7 (vx.length : Int), tI 8 u1l], [], []⟩ ?_
          refine Wc.skip ?_
          refine Wc.r0 ⟨[tV 0 (.sl (List.map cS vx)), tS 1 u1k, tI 7 (vx.length : Int), tI 8 (wr.i64 (u1l + 1))], [], []⟩ ?_
          exact ⟨_, Nat.lt_succ_self _, _, rfl, h813⟩
      · refine Wc.cF h814 ?_
        refine Wc.fx [] ⟨[], [], []⟩ ?_
        refine Wc.exit ?_
        obtain rfl := Option.some.inj h813
        exact ⟨rfl, rfl⟩
  · rintro st ⟨rfl, rfl⟩
    apply Wc.seq
    refine Wc.r0 ⟨[tI 4 (-1)], [], []⟩ ?_
    obtain rfl := Option.some.inj h; exact Wc.ret dn

def pslices_Contains___string_string_ (k : Nat) (uaq : List ByteArray) (uar : ByteArray) : Option Bool :=
  (pslices_Index___string_string_ k uaq uar).bind fun ud1 =>
  some (decide (ud1 ≥ 0))
theorem cslices_Contains___string_string_ {k : Nat} {uaq : List ByteArray} {uar : ByteArray} {r : Bool} (h : pslices_Contains___string_string_ k uaq uar = some r) : FnO Tryz.prog 55 [.v (.sl (List.map cS uaq)) [], .v (.str uar) []] (.v (.bool r) []) [] := by
  refine FnO.o2 Tryz.func55 (rfl : Tryz.f55.body = some _) ?_
  intro w0 X0 Fin pv0 pb gt
  unfold pslices_Contains___string_string_ at h
  apply Wc.seq
  refine Wc.r0 ⟨[tV 0 (.sl (List.map cS uaq)), tS 1 uar], [], []⟩ ?_
  apply Wc.seq
  obtain ⟨ud1, h817, h⟩ := obind h
  refine Wc.r2 [{}, {}, { r := some (.v (aI ud1) []) }] ⟨[tB 4 (decide (ud1 ≥ 0))], [], []⟩ (.cons (cslices_Index___string_string_ h817) .nil) ?_
  obtain rfl := Option.some.inj h; exact Wc.ret dn

def pimpl_Control (k : Nat) (u7s : ByteArray) : Option Bool :=
  (pslices_Contains___string_string_ k [(bs [116, 114, 117, 101, 47, 48]), (bs [102, 97, 105, 108, 47, 48]), (bs [33, 47, 48]), (bs [44, 47, 50]), (bs [59, 47, 50]), (bs [45, 62, 47, 50]), (bs [92, 43, 47, 49]), (bs [99, 97, 108, 108, 47, 49]), (bs [99, 97, 108, 108, 47, 50]), (bs [99, 97, 108, 108, 47, 51]), (bs [99, 97, 116, 99, 104, 47, 51]), (bs [116, 104, 114, 111, 119, 47, 49]), (bs [61, 47, 50]), (bs [92, 61, 47, 50]), (bs [61, 61, 47, 50]), (bs [105, 115, 47, 50]), (bs [60, 47, 50]), (bs [61, 58, 61, 47, 50]), (bs [118, 97, 114, 47, 49]), (bs [97, 116, 111, 109, 47, 49]), (bs [119, 114, 105, 116, 101, 47, 49]), (bs [97, 115, 115, 101, 114, 116, 122, 47, 49]), (bs [114, 101, 116, 114, 97, 99, 116, 47, 49]), (bs [58, 45, 47, 50]), (bs [58, 45, 47, 49]), (bs [45, 45, 62, 47, 50])] u7s).bind fun ud2 =>
  some ud2
theorem cimpl_Control {k : Nat} {u7s : ByteArray} {r : Bool} (h : pimpl_Control k u7s = some r) : FnO Tryz.prog 22 [.v (.str u7s) []] (.v (.bool r) []) [] := by
  refine FnO.o2 Tryz.func22 (rfl : Tryz.f22.body = some _) ?_
  intro w0 X0 Fin pv0 pb gt
  unfold pimpl_Control at h
  apply Wc.seq
  refine Wc.r0 ⟨[tS 0 u7s], [], []⟩ ?_
  apply Wc.seq
  refine Wc.r2 [{ c := some (List.map cS [(bs [116, 114, 117, 101, 47, 48]), (bs [102, 97, 105, 108, 47, 48]), (bs [33, 47, 48]), (bs [44, 47, 50]), (bs [59, 47, 50]), (bs [45, 62, 47, 50]), (bs [92, 43, 47, 49]), (bs [99, 97, 108, 108, 47, 49]), (bs [99, 97, 108, 108, 47, 50]), (bs [99, 97, 108, 108, 47, 51]), (bs [99, 97, 116, 99, 104, 47, 51]), (bs [116, 104, 114, 111, 119, 47, 49]), (bs [61, 47, 50]), (bs [92, 61, 47, 50]), (bs [61, 61, 47, 50]), (bs [105, 115, 47, 50]), (bs [60, 47, 50]), (bs [61, 58, 61, 47, 50]), (bs [118, 97, 114, 47, 49]), (bs [97, 116, 111, 109, 47, 49]), (bs [119, 114, 105, 116, 101, 47, 49]), (bs [97, 115, 115, 101, 114, 116, 122, 47, 49]), (bs [114, 101, 116, 114, 97, 99, 116, 47, 49]), (bs [58, 45, 47, 50]), (bs [58, 45, 47, 49]), (bs [45, 45, 62, 47, 50])]) }, { tk := [4] }] ⟨[tS 0 u7s, (3, (.v (.sl (List.map cS [(bs [116, 114, 117, 101, 47, 48]), (bs [102, 97, 105, 108, 47, 48]), (bs [33, 47, 48]), (bs [44, 47, 50]), (bs [59, 47, 50]), (bs [45, 62, 47, 50]), (bs [92, 43, 47, 49]), (bs [99, 97, 108, 108, 47, 49]), (bs [99, 97, 108, 108, 47, 50]), (bs [99, 97, 108, 108, 47, 51]), (bs [99, 97, 116, 99, 104, 47, 51]), (bs [116, 104, 114, 111, 119, 47, 49]), (bs [61, 47, 50]), (bs [92, 61, 47, 50]), (bs [61, 61, 47, 50]), (bs [105, 115, 47, 50]), (bs [60, 47, 50]), (bs [61, 58, 61, 47, 50]), (bs [118, 97, 114, 47, 49]), (bs [97, 116, 111, 109, 47, 49]), (bs [119, 114, 105, 116, 101, 47, 49]), (bs [97, 115, 115, 101, 114, 116, 122, 47, 49]), (bs [114, 101, 116, 114, 97, 99, 116, 47, 49]), (bs [58, 45, 47, 50]), (bs [58, 45, 47, 49]), (bs [45, 45, 62, 47, 50])])), [(0, .app 9)]))], [], []⟩ (.cons (cl_cons (c := cS) (x := (bs [116, 114, 117, 101, 47, 48])) rfl (cl_cons (c := cS) (x := (bs [102, 97, 105, 108, 47, 48])) rfl (cl_cons (c := cS) (x := (bs [33, 47, 48])) rfl (cl_cons (c := cS) (x := (bs [44, 47, 50])) rfl (cl_cons (c := cS) (x := (bs [59, 47, 50])) rfl (cl_cons (c := cS) (x := (bs [45, 62, 47, 50])) rfl (cl_cons (c := cS) (x := (bs [92, 43, 47, 49])) rfl (cl_cons (c := cS) (x := (bs [99, 97, 108, 108, 47, 49])) rfl (cl_cons (c := cS) (x := (bs [99, 97, 108, 108, 47, 50])) rfl (cl_cons (c := cS) (x := (bs [99, 97, 108, 108, 47, 51])) rfl (cl_cons (c := cS) (x := (bs [99, 97, 116, 99, 104, 47, 51])) rfl (cl_cons (c := cS) (x := (bs [116, 104, 114, 111, 119, 47, 49])) rfl (cl_cons (c := cS) (x := (bs [61, 47, 50])) rfl (cl_cons (c := cS) (x := (bs [92, 61, 47, 50])) rfl (cl_cons (c := cS) (x := (bs [61, 61, 47, 50])) rfl (cl_cons (c := cS) (x := (bs [105, 115, 47, 50])) rfl (cl_cons (c := cS) (x := (bs [60, 47, 50])) rfl (cl_cons (c := cS) (x := (bs [61, 58, 61, 47, 50])) rfl (cl_cons (c := cS) (x := (bs [118, 97, 114, 47, 49])) rfl (cl_cons (c := cS) (x := (bs [97, 116, 111, 109, 47, 49])) rfl (cl_cons (c := cS) (x := (bs [119, 114, 105, 116, 101, 47, 49])) rfl (cl_cons (c := cS) (x := (bs [97, 115, 115, 101, 114, 116, 122, 47, 49])) rfl (cl_cons (c := cS) (x := (bs [114, 101, 116, 114, 97, 99, 116, 47, 49])) rfl (cl_cons (c := cS) (x := (bs [58, 45, 47, 50])) rfl (cl_cons (c := cS) (x := (bs [58, 45, 47, 49])) rfl (cl_cons (c := cS) (x := (bs [45, 45, 62, 47, 50])) rfl (cl_nil cS))))))))))))))))))))))))))) .nil) ?_
  apply Wc.seq
  obtain ⟨ud2, h818, h⟩ := obind h
  refine Wc.r2 [{ tk := [3] }, {}, { r := some (.v (.bool ud2) []) }] ⟨[tB 2 ud2], [], []⟩ (.cons (cslices_Contains___string_string_ h818) .nil) ?_
  obtain rfl := Option.some.inj h; exact Wc.ret dn

def pstrconv_Itoa (k : Nat) (n : Int) : Option ByteArray :=
  if -9223372036854775808 ≤ n ∧ n ≤ 9223372036854775807 then some ⟨(Lib.itoa n).toArray⟩ else none
theorem cstrconv_Itoa {k : Nat} {n : Int} {r : ByteArray} (h : pstrconv_Itoa k n = some r) : FnO Tryz.prog 84 [.v (aI n) []] (.v (.str r) []) [] := itoa_O Tryz.strconv_Itoa tab_at h

def pimpl_Decimal (k : Nat) (uas : Int) : Option ByteArray :=
  (pstrconv_Itoa k uas).bind fun ud3 =>
  some ud3
theorem cimpl_Decimal {k : Nat} {uas : Int} {r : ByteArray} (h : pimpl_Decimal k uas = some r) : FnO Tryz.prog 61 [.v (aI uas) []] (.v (.str r) []) [] := by
  refine FnO.o2 Tryz.func61 (rfl : Tryz.f61.body = some _) ?_
  intro w0 X0 Fin pv0 pb gt
  unfold pimpl_Decimal at h
  apply Wc.seq
  refine Wc.r0 ⟨[tI 0 uas], [], []⟩ ?_
  apply Wc.seq
  obtain ⟨ud3, h819, h⟩ := obind h
  refine Wc.r2 [{}, { r := some (.v (.str ud3) []) }] ⟨[tS 2 ud3], [], []⟩ (.cons (cstrconv_Itoa h819) .nil) ?_
  obtain rfl := Option.some.inj h; exact Wc.ret dn

def pimpl_PredOf_J1 (k : Nat) (u07 : GTerm) : Option ByteArray :=
  if sumOk u07.gName (bs [47]) then
    (pimpl_Decimal k (u07.gKids.length : Int)).bind fun uat =>
    if sumOk (u07.gName ++ (bs [47])) uat then
      some ((u07.gName ++ (bs [47])) ++ uat)
    else none
  else none
def pimpl_PredOf (k : Nat) (u07 : GTerm) : Option ByteArray :=
  if (u07.gKind != 2) = true then
    if (u07.gKind != 4) = true then
      some (bs [])
    else
      pimpl_PredOf_J1 k u07
  else
    pimpl_PredOf_J1 k u07
theorem cimpl_PredOf {k : Nat} {u07 : GTerm} {r : ByteArray} (h : pimpl_PredOf k u07 = some r) : FnO Tryz.prog 24 [.v (.agg (GTerm.q u07)) []] (.v (.str r) []) [] := by
  refine FnO.o2 Tryz.func24 (rfl : Tryz.f24.body = some _) ?_
  intro w0 X0 Fin pv0 pb gt
  unfold pimpl_PredOf at h
  apply Wc.seq
  refine Wc.r0 ⟨[tP 1 1], [bC 1 (GTerm.q u07)], []⟩ ?_
  refine Wc.seqJ (fun st => st = ⟨[tP 1 1], [bC 1 (GTerm.q u07)], []⟩ ∧ pimpl_PredOf_J1 k u07 = some r) ?_ ?_
  · apply Wc.seq
    rcases oif h with ⟨h823, h⟩ | ⟨h823, h⟩
    · refine Wc.r2 [{}, {}, {}, { re := some (.bool true) }] ⟨[tP 1 1, tB 10 (u07.gKind != 4)], [bC 1 (GTerm.q u07)], []⟩ (.cons (congrArg AV.bool h823) .nil) ?_
      rcases oif h with ⟨h824, h⟩ | ⟨h824, h⟩
      · refine Wc.cT h824 ?_
        apply Wc.seq
        refine Wc.r0 ⟨[tS 2 (bs [])], [], []⟩ ?_
        obtain rfl := Option.some.inj h; exact Wc.ret dn
      · refine Wc.cF h824 ?_
        refine Wc.fx [] ⟨[tP 1 1], [bC 1 (GTerm.q u07)], []⟩ ?_
        refine Wc.skip ?_
        exact ⟨rfl, h⟩
    · refine Wc.r2 [{}, {}, {}, { re := some (.bool false) }] ⟨[tP 1 1, tB 10 false], [bC 1 (GTerm.q u07)], []⟩ (.cons (congrArg AV.bool h823) .nil) ?_
      refine Wc.cF rfl ?_
      refine Wc.fx [] ⟨[tP 1 1], [bC 1 (GTerm.q u07)], []⟩ ?_
      refine Wc.skip ?_
      exact ⟨rfl, h⟩
  · rintro st ⟨rfl, h⟩
    apply Wc.seq
    obtain ⟨h820, h⟩ := oguard h
    obtain ⟨uat, h821, h⟩ := obind h
    obtain ⟨h822, h⟩ := oguard h
    refine Wc.draw hmix [{}, {}, {}, {}, {}, { v := some (aI (u07.gKids.length : Int)) }, { r := some (.v (.str uat) []) }] [] [2] [] [] ⟨[tS 2 ((u07.gName ++ (bs [47])) ++ uat)], [], []⟩ _ (by kernel_rfl) (fun X => by kernel_rfl) (.cons h820 (.cons (len_obl GTerm.c u07.gKids) (.cons (cimpl_Decimal h821) (.cons h822 .nil)))) ?_
    obtain rfl := Option.some.inj h; exact Wc.ret dn

def pimpl_headOk (k : Nat) (u7t : GTerm) : Option Bool :=
  (pimpl_PredOf k u7t).bind fun ud4 =>
  if (!(sEq ud4 (bs []))) = true then
    (pimpl_PredOf k u7t).bind fun ueb =>
    (pimpl_Control k ueb).bind fun ud5 =>
    some (!ud5)
  else
    some false
theorem cimpl_headOk {k : Nat} {u7t : GTerm} {r : Bool} (h : pimpl_headOk k u7t = some r) : FnO Tryz.prog 44 [.v (.agg (GTerm.q u7t)) []] (.v (.bool r) []) [] := by
  refine FnO.o2 Tryz.func44 (rfl : Tryz.f44.body = some _) ?_
  intro w0 X0 Fin pv0 pb gt
  unfold pimpl_headOk at h
  apply Wc.seq
  refine Wc.r0 ⟨[tP 1 1], [bC 1 (GTerm.q u7t)], []⟩ ?_
  apply Wc.seq
  obtain ⟨ud4, h825, h⟩ := obind h
  rcases oif h with ⟨h826, h⟩ | ⟨h826, h⟩
  · obtain ⟨ueb, h827, h⟩ := obind h
    obtain ⟨ud5, h828, h⟩ := obind h
    refine Wc.r2 [{}, { r := some (.v (.str ud4) []) }, {}, { re := some (.bool true) }, {}, { r := some (.v (.str ueb) []) }, { r := some (.v (.bool ud5) []) }] ⟨[tB 2 (!ud5)], [], []⟩ (.cons (cimpl_PredOf h825) (.cons (congrArg AV.bool h826) (.cons (cimpl_PredOf h827) (.cons (cimpl_Control h828) .nil)))) ?_
    obtain rfl := Option.some.inj h; exact Wc.ret dn
  · refine Wc.r2 [{}, { r := some (.v (.str ud4) []) }, {}, { re := some (.bool false) }] ⟨[tB 2 false], [], []⟩ (.cons (cimpl_PredOf h825) (.cons (congrArg AV.bool h826) .nil)) ?_
    obtain rfl := Option.some.inj h; exact Wc.ret dn

def pimpl_copyTerm_1 (k : Nat) (u7u : Int) : Option Int :=
  some u7u
theorem cimpl_copyTerm_1 {k : Nat} {u7u : Int} {r : Int} (h : pimpl_copyTerm_1 k u7u = some r) : FnO Tryz.prog 87 [.v (aI u7u) []] (.v (aI r) []) [] := by
  refine FnO.o2 Tryz.func87 (rfl : Tryz.f87.body = some _) ?_
  intro w0 X0 Fin pv0 pb gt
  unfold pimpl_copyTerm_1 at h
  apply Wc.seq
  refine Wc.r0 ⟨[tI 0 u7u], [], []⟩ ?_
  apply Wc.seq
  refine Wc.r0 ⟨[tI 2 u7u], [], []⟩ ?_
  obtain rfl := Option.some.inj h; exact Wc.ret dn

def pimpl_renamed_on1_pimpl_copyTerm_1_L2 (k : Nat) (rimpl_renamed_on1_pimpl_copyTerm_1 : GTerm → Option GTerm) (ue : GTerm) : Nat → Int → GTerm → Option (Out GTerm GTerm)
  | 0, _, _ => none
  | m + 1, u3d, zw =>
    if (decide (u3d < (ue.gKids.length : Int))) = true then
      (at' ue.gKids u3d).bind fun u7v =>
      (rimpl_renamed_on1_pimpl_copyTerm_1 u7v).bind fun u3e =>
      if zw.gKids.length + [u3e].length ≤ 1073741824 then
        pimpl_renamed_on1_pimpl_copyTerm_1_L2 k rimpl_renamed_on1_pimpl_copyTerm_1 ue m (wr.i64 (u3d + 1)) (GTerm.mk zw.gKind zw.gName zw.gNum (zw.gKids ++ [u3e]))
      else none
    else
      some (.done zw)
def pimpl_renamed_on1_pimpl_copyTerm_1_J1 (k : Nat) (rimpl_renamed_on1_pimpl_copyTerm_1 : GTerm → Option GTerm) (ue : GTerm) (u7w : GTerm) : Option GTerm :=
  (pimpl_renamed_on1_pimpl_copyTerm_1_L2 k rimpl_renamed_on1_pimpl_copyTerm_1 ue k 0 u7w).bind fun out2 => match out2 with
  | .ret r => some r
  | .done u7x =>
    some u7x
mutual
def pimpl_renamed_on1_pimpl_copyTerm_1 : Nat → GTerm → Option GTerm
  | 0, _ => none
  | k + 1, ue =>
    if (ue.gKind == 1) = true then
      (pimpl_copyTerm_1 k ue.gNum).bind fun ud6 =>
      pimpl_renamed_on1_pimpl_copyTerm_1_J1 k (pimpl_renamed_on1_pimpl_copyTerm_1 k) ue (GTerm.mk ue.gKind ue.gName ud6 [])
    else
      pimpl_renamed_on1_pimpl_copyTerm_1_J1 k (pimpl_renamed_on1_pimpl_copyTerm_1 k) ue (GTerm.mk ue.gKind ue.gName ue.gNum [])
end
set_option maxHeartbeats 4000000 in
theorem all_pimpl_renamed_on1_pimpl_copyTerm_1 : ∀ k : Nat, (∀ {ue : GTerm} {r : GTerm}, pimpl_renamed_on1_pimpl_copyTerm_1 k ue = some r → FnO Tryz.prog 86 [.v (.agg (GTerm.q ue)) [], .v (.func 87 []) []] (.v (.agg (GTerm.q r)) [(3, .app 31)]) []) := by
  intro k
  induction k with
  | zero =>
    · intro ue r h
      exact (onone (by rw [pimpl_renamed_on1_pimpl_copyTerm_1] at h; exact h)).elim
  | succ k ih =>
    have ih_pimpl_renamed_on1_pimpl_copyTerm_1 := @ih
    · intro ue r h
      rw [pimpl_renamed_on1_pimpl_copyTerm_1] at h
      refine FnO.o2 Tryz.func86 (rfl : Tryz.f86.body = some _) ?_
      intro w0 X0 Fin pv0 pb gt
      apply Wc.seq
      refine Wc.r0 ⟨[tV 1 (.func 87 []), tP 2 2, tP 4 4], [bC 2 (GTerm.q ue), (4, .cells GTerm.z [(3, .app 31)])], []⟩ ?_
      apply Wc.seq
      refine Wc.r0 ⟨[tV 1 (.func 87 []), tP 2 2, tP 4 4, tP 5 5], [bC 2 (GTerm.q ue), (4, .cells GTerm.z [(3, .app 31)]), bC 5 (GTerm.q ue)], []⟩ ?_
      apply Wc.seq
      refine Wc.r0 ⟨[tV 1 (.func 87 []), tP 2 2, tP 4 4, tP 5 5], [bC 2 (GTerm.q ue), (4, .cells GTerm.z [(3, .app 31)]), (5, .cells [aI ue.gKind, .str ue.gName, aI ue.gNum, .sl (List.map GTerm.c [])] [(3, .app 31)])], []⟩ ?_
      refine Wc.seqJ (fun st => ∃ (u7w : GTerm), st = ⟨[tV 1 (.func 87 []), tP 2 2, tP 4 4, tP 5 5], [bC 2 (GTerm.q ue), (4, .cells GTerm.z [(3, .app 31)]), (5, .cells (GTerm.q u7w) [(3, .app 31)])], []⟩ ∧ pimpl_renamed_on1_pimpl_copyTerm_1_J1 k (pimpl_renamed_on1_pimpl_copyTerm_1 k) ue u7w = some r) ?_ ?_
      · apply Wc.seq
        refine Wc.r0 ⟨[tV 1 (.func 87 []), tP 2 2, tP 4 4, tP 5 5, tB 12 (ue.gKind == 1)], [bC 2 (GTerm.q ue), (4, .cells GTerm.z [(3, .app 31)]), (5, .cells [aI ue.gKind, .str ue.gName, aI ue.gNum, .sl (List.map GTerm.c [])] [(3, .app 31)])], []⟩ ?_
        rcases oif h with ⟨h841, h⟩ | ⟨h841, h⟩
        · refine Wc.cT h841 ?_
          obtain ⟨ud6, h842, h⟩ := obind h
          refine Wc.r2 [{}, {}, {}, { r := some (.v (aI ud6) []) }] ⟨[tV 1 (.func 87 []), tP 2 2, tP 4 4, tP 5 5], [bC 2 (GTerm.q ue), (4, .cells GTerm.z [(3, .app 31)]), (5, .cells [aI ue.gKind, .str ue.gName, aI ud6, .sl (List.map GTerm.c [])] [(3, .app 31)])], []⟩ (.cons (cimpl_copyTerm_1 h842) .nil) ?_
          exact ⟨_, rfl, h⟩
        · refine Wc.cF h841 ?_
          refine Wc.fx [] ⟨[tV 1 (.func 87 []), tP 2 2, tP 4 4, tP 5 5], [bC 2 (GTerm.q ue), (4, .cells GTerm.z [(3, .app 31)]), (5, .cells [aI ue.gKind, .str ue.gName, aI ue.gNum, .sl (List.map GTerm.c [])] [(3, .app 31)])], []⟩ ?_
          refine Wc.skip ?_
          exact ⟨_, rfl, h⟩
      · rintro st ⟨u7w, rfl, h⟩
        apply Wc.seq
        apply Wc.seq
        refine Wc.r2 [{}, {}, { v := some (aI (ue.gKids.length : Int)) }] ⟨[tV 1 (.func 87 []), tP 4 4, tP 5 5, tV 19 (.sl (List.map GTerm.c ue.gKids)), tI 20 (ue.gKids.length : Int), tI 21 0], [(4, .cells GTerm.z [(3, .app 31)]), (5, .cells (GTerm.q u7w) [(3, .app 31)])], []⟩ (.cons (len_obl GTerm.c ue.gKids) .nil) ?_
        obtain ⟨out2, h836, h⟩ := obind h
        refine Wc.lastJ (fun st => ∃ (u7x : GTerm), out2 = .done u7x ∧ st = ⟨[tP 4 4, tP 5 5], [(4, .cells GTerm.z [(3, .app 31)]), (5, .cells (GTerm.q u7x) [(3, .app 31)])], []⟩) ?_ ?_
        · refine Wc.block ?_
          refine Wc.loop (fun m st => ∃ (u3d : Int) (zw : GTerm), st = ⟨[tV 1 (.func 87 []), tP 4 4, tP 5 5, tV 19 (.sl (List.map GTerm.c ue.gKids)), tI 20 (ue.gKids.length : Int), tI 21 u3d], [(4, .cells GTerm.z [(3, .app 31)]), (5, .cells (GTerm.q zw) [(3, .app 31)])], []⟩ ∧ pimpl_renamed_on1_pimpl_copyTerm_1_L2 k (pimpl_renamed_on1_pimpl_copyTerm_1 k) ue m u3d zw = some out2) ?_ k ⟨_, _, rfl, h836⟩
          rintro m st ⟨u3d, zw, rfl, h836⟩
          cases m with
          | zero => exact (onone h836).elim
          | succ m =>
            apply Wc.seq
            refine Wc.r0 ⟨[tV 1 (.func 87 []), tP 4 4, tP 5 5, tV 19 (.sl (List.map GTerm.c ue.gKids)), tI 20 (ue.gKids.length : Int), tI 21 u3d, tB 22 (decide (u3d < (ue.gKids.length : Int)))], [(4, .cells GTerm.z [(3, .app 31)]), (5, .cells (GTerm.q zw) [(3, .app 31)])], []⟩ ?_
            apply Wc.seq
            rcases oif h836 with ⟨h837, h836⟩ | ⟨h837, h836⟩
            · refine Wc.cT h837 ?_
              refine Wc.fx [] ⟨[tV 1 (.func 87 []), tP 4 4, tP 5 5, tV 19 (.sl (List.map GTerm.c ue.gKids)), tI 20 (ue.gKids.length : Int), tI 21 u3d], [(4, .cells GTerm.z [(3, .app 31)]), (5, .cells (GTerm.q zw) [(3, .app 31)])], []⟩ ?_
              refine Wc.skip ?_
              apply Wc.seq
              refine Wc.block ?_
              apply Wc.seq
              obtain ⟨u7v, h838, h836⟩ := obind h836
              refine Wc.r2 [{ v := some (.vptr (GTerm.q u7v)) }] ⟨[tV 1 (.func 87 []), tP 4 4, tP 5 5, tP 7 7, tV 19 (.sl (List.map GTerm.c ue.gKids)), tI 20 (ue.gKids.length : Int), tI 21 u3d], [(4, .cells GTerm.z [(3, .app 31)]), (5, .cells (GTerm.q zw) [(3, .app 31)]), bC 7 (GTerm.q u7v)], []⟩ (.cons (at_obl (c := GTerm.c) (GTerm.c_eq u7v) GTerm.c_len h838) (.cons (len_ok 4 (GTerm.q u7v)) .nil)) ?_
              obtain ⟨u3e, h839, h836⟩ := obind h836
              obtain ⟨h840, h836⟩ := oguard h836
              refine Wc.draw hmix [{}, { md := 1 }, {}, {}, { r := some (.v (.agg (GTerm.q u3e)) [(3, .app 31)]) }, { c := some (List.map GTerm.c [u3e]) }, { c := some (List.map GTerm.c (zw.gKids ++ [u3e])), tk := [26] }, {}, { tk := [31] }] [] [1, 4, 5, 19, 20, 21] [4, 5] [] ⟨[tV 1 (.func 87 []), tP 4 4, tP 5 5, tV 19 (.sl (List.map GTerm.c ue.gKids)), tI 20 (ue.gKids.length : Int), tI 21 u3d], [(4, .cells GTerm.z [(3, .app 31)]), (5, .cells [aI zw.gKind, .str zw.gName, aI zw.gNum, .sl (List.map GTerm.c (zw.gKids ++ [u3e]))] [(3, .app 31)])], []⟩ _ (by kernel_rfl) (fun X => by kernel_rfl) (.cons (ih_pimpl_renamed_on1_pimpl_copyTerm_1 h839) (.cons (cl_cons (c := GTerm.c) (x := u3e) (GTerm.c_eq u3e) (cl_nil GTerm.c)) (.cons (app_re2 GTerm.c zw.gKids [u3e]) (.cons (app_leaf (c := GTerm.c) (ys := [u3e]) GTerm.c_leaf) (.cons (app_obl2 (c := GTerm.c) (xs := zw.gKids) (ys := [u3e]) GTerm.c_len h840) .nil))))) ?_
              refine Wc.r0 ⟨[tV 1 (.func 87 []), tP 4 4, tP 5 5, tV 19 (.sl (List.map GTerm.c ue.gKids)), tI 20 (ue.gKids.length : Int), tI 21 (wr.i64 (u3d + 1))], [(4, .cells GTerm.z [(3, .app 31)]), (5, .cells [aI zw.gKind, .str zw.gName, aI zw.gNum, .sl (List.map GTerm.c (zw.gKids ++ [u3e]))] [(3, .app 31)])], []⟩ ?_
              exact ⟨_, Nat.lt_succ_self _, _, _, rfl, h836⟩
            · refine Wc.cF h837 ?_
              refine Wc.fx [] ⟨[tP 4 4, tP 5 5], [(4, .cells GTerm.z [(3, .app 31)]), (5, .cells (GTerm.q zw) [(3, .app 31)])], []⟩ ?_
              refine Wc.exit ?_
              obtain rfl := Option.some.inj h836
              exact ⟨_, rfl, rfl⟩
        · rintro st ⟨u7x, rfl, rfl⟩
          apply Wc.seq
          refine Wc.r1 [{ md := 1 }, { tk := [34] }] ⟨[tP 4 4], [(4, .cells (GTerm.q u7x) [(3, .app 31)])], []⟩ ?_
          obtain rfl := Option.some.inj h; exact Wc.ret dn
theorem cimpl_renamed_on1_pimpl_copyTerm_1 {k : Nat} {ue : GTerm} {r : GTerm} (h : pimpl_renamed_on1_pimpl_copyTerm_1 k ue = some r) : FnO Tryz.prog 86 [.v (.agg (GTerm.q ue)) [], .v (.func 87 []) []] (.v (.agg (GTerm.q r)) [(3, .app 31)]) [] := (all_pimpl_renamed_on1_pimpl_copyTerm_1 k) h

def pimpl_copyTerm (k : Nat) (uau : GTerm) : Option GTerm :=
  (pimpl_renamed_on1_pimpl_copyTerm_1 k uau).bind fun ud7 =>
  some ud7
theorem cimpl_copyTerm {k : Nat} {uau : GTerm} {r : GTerm} (h : pimpl_copyTerm k uau = some r) : FnO Tryz.prog 64 [.v (.agg (GTerm.q uau)) []] (.v (.agg (GTerm.q r)) [(3, .app 31)]) [] := by
  refine FnO.o2 Tryz.func64 (rfl : Tryz.f64.body = some _) ?_
  intro w0 X0 Fin pv0 pb gt
  unfold pimpl_copyTerm at h
  apply Wc.seq
  refine Wc.r0 ⟨[tP 1 1, tP 2 2], [bC 1 (GTerm.q uau), (2, .cells GTerm.z [(3, .app 31)])], []⟩ ?_
  apply Wc.seq
  obtain ⟨ud7, h830, h⟩ := obind h
  refine Wc.r2 [{}, { r := some (.v (.agg (GTerm.q ud7)) [(3, .app 31)]) }, { tk := [4] }] ⟨[tP 2 2], [(2, .cells (GTerm.q ud7) [(3, .app 31)])], []⟩ (.cons (cimpl_renamed_on1_pimpl_copyTerm_1 h830) .nil) ?_
  obtain rfl := Option.some.inj h; exact Wc.ret dn

def pimpl_copyClause (k : Nat) (u5l : GClause) : Option GClause :=
  (pimpl_copyTerm k u5l.gHead).bind fun u6c =>
  (pimpl_copyTerm k u5l.gBody).bind fun ue =>
  some (GClause.mk u6c ue u5l.gFile)
theorem cimpl_copyClause {k : Nat} {u5l : GClause} {r : GClause} (h : pimpl_copyClause k u5l = some r) : FnO Tryz.prog 45 [.v (.agg (GClause.q u5l)) []] (.v (.agg (GClause.q r)) [(3, .app 31), (7, .app 31)]) [] := by
  refine FnO.o2 Tryz.func45 (rfl : Tryz.f45.body = some _) ?_
  intro w0 X0 Fin pv0 pb gt
  unfold pimpl_copyClause at h
  apply Wc.seq
  refine Wc.r0 ⟨[tP 1 1, tP 2 2], [bC 1 (GClause.q u5l), (2, .cells GClause.z [(3, .app 31), (7, .app 31)])], []⟩ ?_
  apply Wc.seq
  obtain ⟨u6c, h833, h⟩ := obind h
  obtain ⟨ue, h834, h⟩ := obind h
  refine Wc.draw hmix [{}, {}, { r := some (.v (.agg (GTerm.q u6c)) [(3, .app 31)]) }, {}, {}, { r := some (.v (.agg (GTerm.q ue)) [(3, .app 31)]) }, {}, {}, { tk := [5, 8] }, { tk := [11] }] [] [2] [2] [] ⟨[tP 2 2], [(2, .cells [aI u6c.gKind, .str u6c.gName, aI u6c.gNum, .sl (List.map GTerm.c u6c.gKids), aI ue.gKind, .str ue.gName, aI ue.gNum, .sl (List.map GTerm.c ue.gKids), .str u5l.gFile] [(3, .app 31), (7, .app 31)])], []⟩ _ (by kernel_rfl) (fun X => by kernel_rfl) (.cons (cimpl_copyTerm h833) (.cons (cimpl_copyTerm h834) .nil)) ?_
  obtain rfl := Option.some.inj h; exact Wc.ret dn

def pimpl_ClauseOf_J1 (k : Nat) (u4n : GClause) : Option (GClause × Bool) :=
  (pimpl_headOk k u4n.gHead).bind fun ud8 =>
  if (!ud8) = true then
    some (GClause.mk (GTerm.mk 0 (bs []) 0 []) (GTerm.mk 0 (bs []) 0 []) (bs []), false)
  else
    (pimpl_TermOk k u4n.gBody).bind fun ud9 =>
    if (!ud9) = true then
      some (GClause.mk (GTerm.mk 0 (bs []) 0 []) (GTerm.mk 0 (bs []) 0 []) (bs []), false)
    else
      (pimpl_copyClause k u4n).bind fun uda =>
      some (uda, true)
def pimpl_ClauseOf (k : Nat) (zx : GTerm) (u29 : ByteArray) : Option (GClause × Bool) :=
  (pimpl_TermOk k zx).bind fun udb =>
  if (!udb) = true then
    some (GClause.mk (GTerm.mk 0 (bs []) 0 []) (GTerm.mk 0 (bs []) 0 []) (bs []), false)
  else
    (pimpl_atom k (bs [116, 114, 117, 101])).bind fun u2p =>
    (pimpl_isStruct k zx (bs [58, 45]) 2).bind fun udc =>
    if udc = true then
      (at' zx.gKids 0).bind fun u0l =>
      (at' zx.gKids 1).bind fun u08 =>
      if (u08.gKind == 1) = true then
        (pimpl_structure k (bs [99, 97, 108, 108]) [u08]).bind fun u6d =>
        pimpl_ClauseOf_J1 k (GClause.mk u0l u6d u29)
      else
        pimpl_ClauseOf_J1 k (GClause.mk u0l u08 u29)
    else
      pimpl_ClauseOf_J1 k (GClause.mk zx u2p u29)
set_option maxHeartbeats 4000000 in
theorem cimpl_ClauseOf {k : Nat} {zx : GTerm} {u29 : ByteArray} {r : GClause × Bool} (h : pimpl_ClauseOf k zx u29 = some r) : FnO Tryz.prog 7 [.v (.agg (GTerm.q zx)) [], .v (.str u29) []] (.v (.tup [.agg (GClause.q r.1), .bool r.2]) [(3, .app 31), (7, .app 31)]) [] := by
  refine FnO.o2 Tryz.func7 (rfl : Tryz.f7.body = some _) ?_
  intro w0 X0 Fin pv0 pb gt
  unfold pimpl_ClauseOf at h
  apply Wc.seq
  refine Wc.r0 ⟨[tS 1 u29, tP 2 2, tP 4 4], [bC 2 (GTerm.q zx), (4, .cells GClause.z [(3, .app 31), (7, .app 31)])], []⟩ ?_
  apply Wc.seq
  apply Wc.seq
  obtain ⟨udb, h849, h⟩ := obind h
  refine Wc.r2 [{}, { r := some (.v (.bool udb) []) }] ⟨[tS 1 u29, tP 2 2, tP 4 4, tB 9 (!udb)], [bC 2 (GTerm.q zx), (4, .cells GClause.z [(3, .app 31), (7, .app 31)])], []⟩ (.cons (cimpl_TermOk h849) .nil) ?_
  rcases oif h with ⟨h850, h⟩ | ⟨h850, h⟩
  · refine Wc.cT h850 ?_
    apply Wc.seq
    refine Wc.r1 [{}, { tk := [10] }] ⟨[tP 4 4, tB 5 false], [(4, .cells GClause.z [(3, .app 31), (7, .app 31)])], []⟩ ?_
    obtain rfl := Option.some.inj h; exact Wc.ret dn
  · refine Wc.cF h850 ?_
    refine Wc.fx [] ⟨[tS 1 u29, tP 2 2, tP 4 4], [bC 2 (GTerm.q zx), (4, .cells GClause.z [(3, .app 31), (7, .app 31)])], []⟩ ?_
    refine Wc.skip ?_
    apply Wc.seq
    obtain ⟨u2p, h851, h⟩ := obind h
    refine Wc.draw hmix [{}, { r := some (.v (.agg (GTerm.q u2p)) [(3, .app 31)]) }, {}, { tk := [12] }, {}, { tk := [14] }] [] [2, 4, 6] [2, 4, 6] [] ⟨[tP 2 2, tP 4 4, tP 6 6], [bC 2 (GTerm.q zx), (4, .cells GClause.z [(3, .app 31), (7, .app 31)]), (6, .cells [aI zx.gKind, .str zx.gName, aI zx.gNum, .sl (List.map GTerm.c zx.gKids), aI u2p.gKind, .str u2p.gName, aI u2p.gNum, .sl (List.map GTerm.c u2p.gKids), .str u29] [(7, .app 31)])], []⟩ _ (by kernel_rfl) (fun X => by kernel_rfl) (.cons (cimpl_atom h851) .nil) ?_
    refine Wc.seqJ (fun st => ∃ (u4n : GClause), st = ⟨[tP 4 4, tP 6 6], [(4, .cells GClause.z [(3, .app 31), (7, .app 31)]), bC 6 (GClause.q u4n)], []⟩ ∧ pimpl_ClauseOf_J1 k u4n = some r) ?_ ?_
    · apply Wc.seq
      obtain ⟨udc, h857, h⟩ := obind h
      refine Wc.r2 [{}, { r := some (.v (.bool udc) []) }] ⟨[tP 2 2, tP 4 4, tP 6 6, tB 16 udc], [bC 2 (GTerm.q zx), (4, .cells GClause.z [(3, .app 31), (7, .app 31)]), (6, .cells [aI zx.gKind, .str zx.gName, aI zx.gNum, .sl (List.map GTerm.c zx.gKids), aI u2p.gKind, .str u2p.gName, aI u2p.gNum, .sl (List.map GTerm.c u2p.gKids), .str u29] [(7, .app 31)])], []⟩ (.cons (cimpl_isStruct h857) .nil) ?_
      rcases oif h with ⟨h858, h⟩ | ⟨h858, h⟩
      · refine Wc.cT h858 ?_
        apply Wc.seq
        obtain ⟨u0l, h859, h⟩ := obind h
        obtain ⟨u08, h860, h⟩ := obind h
        refine Wc.draw hmix [{}, {}, { v := some (.vptr (GTerm.q u0l)) }, {}, {}, {}, { v := some (.vptr (GTerm.q u08)) }] [] [4, 6] [4, 6] [] ⟨[tP 4 4, tP 6 6], [(4, .cells GClause.z [(3, .app 31), (7, .app 31)]), bC 6 [aI u0l.gKind, .str u0l.gName, aI u0l.gNum, .sl (List.map GTerm.c u0l.gKids), aI u08.gKind, .str u08.gName, aI u08.gNum, .sl (List.map GTerm.c u08.gKids), .str u29]], []⟩ _ (by kernel_rfl) (fun X => by kernel_rfl) (.cons (at_obl (c := GTerm.c) (GTerm.c_eq u0l) GTerm.c_len h859) (.cons (len_ok 4 (GTerm.q u0l)) (.cons (at_obl (c := GTerm.c) (GTerm.c_eq u08) GTerm.c_len h860) (.cons (len_ok 4 (GTerm.q u08)) .nil)))) ?_
        apply Wc.seq
        refine Wc.r0 ⟨[tP 4 4, tP 6 6, tB 30 (u08.gKind == 1)], [(4, .cells GClause.z [(3, .app 31), (7, .app 31)]), bC 6 [aI u0l.gKind, .str u0l.gName, aI u0l.gNum, .sl (List.map GTerm.c u0l.gKids), aI u08.gKind, .str u08.gName, aI u08.gNum, .sl (List.map GTerm.c u08.gKids), .str u29]], []⟩ ?_
        rcases oif h with ⟨h861, h⟩ | ⟨h861, h⟩
        · refine Wc.cT h861 ?_
          obtain ⟨u6d, h862, h⟩ := obind h
          refine Wc.r2 [{}, {}, { c := some (List.map GTerm.c [u08]) }, { r := some (.v (.agg (GTerm.q u6d)) []) }] ⟨[tP 4 4, tP 6 6], [(4, .cells GClause.z [(3, .app 31), (7, .app 31)]), bC 6 [aI u0l.gKind, .str u0l.gName, aI u0l.gNum, .sl (List.map GTerm.c u0l.gKids), aI u6d.gKind, .str u6d.gName, aI u6d.gNum, .sl (List.map GTerm.c u6d.gKids), .str u29]], []⟩ (.cons (cl_cons (c := GTerm.c) (x := u08) (GTerm.c_eq u08) (cl_nil GTerm.c)) (.cons (cimpl_structure h862) .nil)) ?_
          exact ⟨_, rfl, h⟩
        · refine Wc.cF h861 ?_
          refine Wc.fx [] ⟨[tP 4 4, tP 6 6], [(4, .cells GClause.z [(3, .app 31), (7, .app 31)]), bC 6 [aI u0l.gKind, .str u0l.gName, aI u0l.gNum, .sl (List.map GTerm.c u0l.gKids), aI u08.gKind, .str u08.gName, aI u08.gNum, .sl (List.map GTerm.c u08.gKids), .str u29]], []⟩ ?_
          refine Wc.skip ?_
          exact ⟨_, rfl, h⟩
      · refine Wc.cF h858 ?_
        refine Wc.fx [.un (.b 6 7)] ⟨[tP 4 4, tP 6 6], [(4, .cells GClause.z [(3, .app 31), (7, .app 31)]), bC 6 [aI zx.gKind, .str zx.gName, aI zx.gNum, .sl (List.map GTerm.c zx.gKids), aI u2p.gKind, .str u2p.gName, aI u2p.gNum, .sl (List.map GTerm.c u2p.gKids), .str u29]], []⟩ ?_
        refine Wc.skip ?_
        exact ⟨_, rfl, h⟩
    · rintro st ⟨u4n, rfl, h⟩
      apply Wc.seq
      apply Wc.seq
      obtain ⟨ud8, h852, h⟩ := obind h
      rcases oif h with ⟨h853, h⟩ | ⟨h853, h⟩
      · refine Wc.r2 [{}, {}, { r := some (.v (.bool ud8) []) }, {}, { re := some (.bool true) }] ⟨[tP 4 4, tP 6 6, tB 45 true], [(4, .cells GClause.z [(3, .app 31), (7, .app 31)]), bC 6 (GClause.q u4n)], []⟩ (.cons (cimpl_headOk h852) (.cons (congrArg AV.bool h853) .nil)) ?_
        refine Wc.cT rfl ?_
        apply Wc.seq
        refine Wc.r1 [{}, { tk := [46] }] ⟨[tP 4 4, tB 5 false], [(4, .cells GClause.z [(3, .app 31), (7, .app 31)])], []⟩ ?_
        obtain rfl := Option.some.inj h; exact Wc.ret dn
      · obtain ⟨ud9, h854, h⟩ := obind h
        refine Wc.r2 [{}, {}, { r := some (.v (.bool ud8) []) }, {}, { re := some (.bool false) }, {}, {}, { r := some (.v (.bool ud9) []) }] ⟨[tP 4 4, tP 6 6, tB 45 (!ud9)], [(4, .cells GClause.z [(3, .app 31), (7, .app 31)]), bC 6 (GClause.q u4n)], []⟩ (.cons (cimpl_headOk h852) (.cons (congrArg AV.bool h853) (.cons (cimpl_TermOk h854) .nil))) ?_
        rcases oif h with ⟨h855, h⟩ | ⟨h855, h⟩
        · refine Wc.cT h855 ?_
          apply Wc.seq
          refine Wc.r1 [{}, { tk := [46] }] ⟨[tP 4 4, tB 5 false], [(4, .cells GClause.z [(3, .app 31), (7, .app 31)])], []⟩ ?_
          obtain rfl := Option.some.inj h; exact Wc.ret dn
        · refine Wc.cF h855 ?_
          refine Wc.fx [] ⟨[tP 4 4, tP 6 6], [(4, .cells GClause.z [(3, .app 31), (7, .app 31)]), bC 6 (GClause.q u4n)], []⟩ ?_
          refine Wc.skip ?_
          apply Wc.seq
          obtain ⟨uda, h856, h⟩ := obind h
          refine Wc.r2 [{}, { r := some (.v (.agg (GClause.q uda)) [(3, .app 31), (7, .app 31)]) }, { tk := [48] }] ⟨[tP 4 4, tB 5 true], [(4, .cells (GClause.q uda) [(3, .app 31), (7, .app 31)])], []⟩ (.cons (cimpl_copyClause h856) .nil) ?_
          obtain rfl := Option.some.inj h; exact Wc.ret dn

def pspec_DrawClauseTerm (k : Nat) (uav : List Int) : Option GClause :=
  (pspec_DrawClauseOf k uav).bind fun u6e =>
  (pspec_ClauseOf k u6e.1 u6e.2).bind fun u7y =>
  some u7y.1
theorem cspec_DrawClauseTerm {k : Nat} {uav : List Int} {r : GClause} (h : pspec_DrawClauseTerm k uav = some r) : FnO Tryz.prog 48 [.v (.sl (List.map cI.u8 uav)) []] (.v (.agg (GClause.q r)) [(3, .app 31), (7, .app 31)]) [] := by
  refine FnO.o2 Tryz.func48 (rfl : Tryz.f48.body = some _) ?_
  intro w0 X0 Fin pv0 pb gt
  unfold pspec_DrawClauseTerm at h
  apply Wc.seq
  refine Wc.r0 ⟨[tV 0 (.sl (List.map cI.u8 uav)), tP 2 2], [(2, .cells GClause.z [(3, .app 31), (7, .app 31)])], []⟩ ?_
  apply Wc.seq
  obtain ⟨u6e, h865, h⟩ := obind h
  refine Wc.r2 [{}, { r := some (.v (.tup [.agg (GTerm.q u6e.1), .str u6e.2]) []) }] ⟨[tP 2 2, tP 3 3, tS 4 u6e.2], [(2, .cells GClause.z [(3, .app 31), (7, .app 31)]), bC 3 (GTerm.q u6e.1)], []⟩ (.cons (cspec_DrawClauseOf h865) .nil) ?_
  apply Wc.seq
  obtain ⟨u7y, h866, h⟩ := obind h
  refine Wc.r2 [{}, {}, { r := some (.v (.tup [.agg (GClause.q u7y.1), .bool u7y.2]) [(3, .app 31), (7, .app 31)]) }, { tk := [15] }, { tk := [12] }, {}, {}, { tk := [16] }] ⟨[tP 2 2, tP 5 5], [(2, .cells GClause.z [(3, .app 31), (7, .app 31)]), (5, .cells (GClause.q u7y.1) [(3, .app 31), (7, .app 31)])], []⟩ (.cons (cspec_ClauseOf h866) .nil) ?_
  apply Wc.seq
  refine Wc.r1 [{ md := 1 }, { tk := [18] }] ⟨[tP 2 2], [(2, .cells (GClause.q u7y.1) [(3, .app 31), (7, .app 31)])], []⟩ ?_
  obtain rfl := Option.some.inj h; exact Wc.ret dn

def pspec_l08Any_L1 (k : Nat) : Nat → Int → GDb → Option (Out (GL01Cur × GDb) GDb)
  | 0, _, _ => none
  | m + 1, u4b, u18 =>
    if (decide (u4b < 120)) = true then
      (at' u18.gClauses 0).bind fun u2q =>
      if u18.gClauses.length + [u2q].length ≤ 1073741824 then
        pspec_l08Any_L1 k m (wr.i64 (u4b + 1)) (GDb.mk (u18.gClauses ++ [u2q]) u18.gOpen)
      else none
    else
      some (.done u18)
def pspec_l08Any (k : Nat) (uaw : GL01Cur) : Option (GL01Cur × GDb) :=
  (pspec_l01Below k uaw 10).bind fun u2a =>
  (pspec_l08Db k u2a.1).bind fun vy =>
  (pspec_l08Copy k vy.2).bind fun vz =>
  if (u2a.2 == 0) = true then
    (pspec_l03Any k vy.1).bind fun u2b =>
    (pspec_l03Any k u2b.1).bind fun u19 =>
    if vz.gClauses.length + [GClause.mk u2b.2 u19.2 (bs [])].length ≤ 1073741824 then
      some (u19.1, GDb.mk (vz.gClauses ++ [GClause.mk u2b.2 u19.2 (bs [])]) vz.gOpen)
    else none
  else
    if (u2a.2 == 1) = true then
      (pspec_l08Any_L1 k k 0 vz).bind fun out1 => match out1 with
      | .ret r => some r
      | .done u6f =>
        some (vy.1, u6f)
    else
      if (u2a.2 == 2) = true then
        if 0 ≤ (41 : Int) ∧ (41 : Int) ≤ 1073741824 then
          some (vy.1, GDb.mk vz.gClauses (List.replicate ((41 : Int)).toNat (bs [])))
        else none
      else
        some (vy.1, vz)
set_option maxHeartbeats 4000000 in
theorem cspec_l08Any {k : Nat} {uaw : GL01Cur} {r : GL01Cur × GDb} (h : pspec_l08Any k uaw = some r) : FnO Tryz.prog 49 [.p (GL01Cur.q uaw) []] (.v (.agg (GDb.q r.2)) [(0, .app 35)]) [(0, .p (GL01Cur.q r.1) [])] := by
  refine FnO.o2 Tryz.func49 (rfl : Tryz.f49.body = some _) ?_
  intro w0 X0 Fin pv0 pb gt
  unfold pspec_l08Any at h
  apply Wc.seq
  refine Wc.r0 ⟨[tP 0 1000000, tP 2 2], [(2, .cells GDb.z [(0, .app 35), (1, .app 9)]), bC 1000000 (GL01Cur.q uaw)], []⟩ ?_
  apply Wc.seq
  obtain ⟨u2a, h881, h⟩ := obind h
  refine Wc.r2 [{}, { r := some (.v (aI u2a.2) []), outs := [(0, .p (GL01Cur.q u2a.1) [])] }] ⟨[tP 0 1000000, tP 2 2, tI 3 u2a.2], [(2, .cells GDb.z [(0, .app 35), (1, .app 9)]), bC 1000000 (GL01Cur.q u2a.1)], []⟩ (.cons (cspec_l01Below h881) .nil) ?_
  apply Wc.seq
  obtain ⟨vy, h882, h⟩ := obind h
  obtain ⟨vz, h883, h⟩ := obind h
  refine Wc.r2 [{}, { r := some (.v (.agg (GDb.q vy.2)) [(0, .app 35), (1, .app 9)]), outs := [(0, .p (GL01Cur.q vy.1) [])] }, { r := some (.v (.agg (GDb.q vz)) [(0, .app 35), (1, .app 9)]) }, {}, { tk := [10] }] ⟨[tP 0 1000000, tP 2 2, tI 3 u2a.2, tP 4 4], [(2, .cells GDb.z [(0, .app 35), (1, .app 9)]), (4, .cells (GDb.q vz) [(0, .app 35), (1, .app 9)]), bC 1000000 (GL01Cur.q vy.1)], []⟩ (.cons (cspec_l08Db h882) (.cons (cspec_l08Copy h883) .nil)) ?_
  apply Wc.seq
  apply Wc.seq
  refine Wc.r0 ⟨[tP 0 1000000, tP 2 2, tP 4 4, tI 11 u2a.2], [(2, .cells GDb.z [(0, .app 35), (1, .app 9)]), (4, .cells (GDb.q vz) [(0, .app 35), (1, .app 9)]), bC 1000000 (GL01Cur.q vy.1)], []⟩ ?_
  refine Wc.block ?_
  apply Wc.seq
  refine Wc.r0 ⟨[tP 0 1000000, tP 2 2, tP 4 4, tI 11 u2a.2, tB 12 (u2a.2 == 0)], [(2, .cells GDb.z [(0, .app 35), (1, .app 9)]), (4, .cells (GDb.q vz) [(0, .app 35), (1, .app 9)]), bC 1000000 (GL01Cur.q vy.1)], []⟩ ?_
  rcases oif h with ⟨h884, h⟩ | ⟨h884, h⟩
  · refine Wc.cT h884 ?_
    obtain ⟨u2b, h885, h⟩ := obind h
    obtain ⟨u19, h886, h⟩ := obind h
    obtain ⟨h887, h⟩ := oguard h
    refine Wc.draw hmix [{}, { md := 1 }, {}, { r := some (.v (.agg (GTerm.q u2b.2)) [(3, .app 31)]), outs := [(0, .p (GL01Cur.q u2b.1) [])] }, {}, { r := some (.v (.agg (GTerm.q u19.2)) [(3, .app 31)]), outs := [(0, .p (GL01Cur.q u19.1) [])] }, { tk := [17, 19] }, { c := some (List.map GClause.c [GClause.mk u2b.2 u19.2 (bs [])]) }, { c := some (List.map GClause.c (vz.gClauses ++ [GClause.mk u2b.2 u19.2 (bs [])])), tk := [15] }, {}, { tk := [22] }] [.so 4] [2, 4] [2, 4, 1000000] [] ⟨[tP 2 2, tP 4 4], [(2, .cells GDb.z [(0, .app 35), (1, .app 9)]), (4, .cells [.sl (List.map GClause.c (vz.gClauses ++ [GClause.mk u2b.2 u19.2 (bs [])])), .sl (List.map cS vz.gOpen)] [(0, .app 35), (1, .app 9)]), bC 1000000 (GL01Cur.q u19.1)], []⟩ _ (by kernel_rfl) (fun X => by kernel_rfl) (.cons (cspec_l03Any h885) (.cons (cspec_l03Any h886) (.cons (cl_cons (c := GClause.c) (x := GClause.mk u2b.2 u19.2 (bs [])) (GClause.c_eq (GClause.mk u2b.2 u19.2 (bs []))) (cl_nil GClause.c)) (.cons (app_re2 GClause.c vz.gClauses [GClause.mk u2b.2 u19.2 (bs [])]) (.cons (app_leaf (c := GClause.c) (ys := [GClause.mk u2b.2 u19.2 (bs [])]) GClause.c_leaf) (.cons (app_obl2 (c := GClause.c) (xs := vz.gClauses) (ys := [GClause.mk u2b.2 u19.2 (bs [])]) GClause.c_len h887) .nil)))))) ?_
    apply Wc.seq
    refine Wc.r1 [{ md := 1 }, { tk := [43] }] ⟨[tP 2 2], [(2, .cells [.sl (List.map GClause.c (vz.gClauses ++ [GClause.mk u2b.2 u19.2 (bs [])])), .sl (List.map cS vz.gOpen)] [(0, .app 35), (1, .app 9)]), bC 1000000 (GL01Cur.q u19.1)], []⟩ ?_
    refine Wc.fx [.un (.b 2 1)] ⟨[tP 2 2], [(2, .cells [.sl (List.map GClause.c (vz.gClauses ++ [GClause.mk u2b.2 u19.2 (bs [])])), .sl (List.map cS vz.gOpen)] [(0, .app 35)]), bC 1000000 (GL01Cur.q u19.1)], []⟩ ?_
    obtain rfl := Option.some.inj h; exact Wc.ret dn
  · refine Wc.cF h884 ?_
    apply Wc.seq
    refine Wc.r0 ⟨[tP 2 2, tP 4 4, tI 11 u2a.2, tB 24 (u2a.2 == 1)], [(2, .cells GDb.z [(0, .app 35), (1, .app 9)]), (4, .cells (GDb.q vz) [(0, .app 35), (1, .app 9)]), bC 1000000 (GL01Cur.q vy.1)], []⟩ ?_
    rcases oif h with ⟨h888, h⟩ | ⟨h888, h⟩
    · refine Wc.cT h888 ?_
      apply Wc.seq
      refine Wc.r0 ⟨[tP 2 2, tP 4 4, tI 5 0], [(2, .cells GDb.z [(0, .app 35), (1, .app 9)]), (4, .cells (GDb.q vz) [(0, .app 35), (1, .app 9)]), bC 1000000 (GL01Cur.q vy.1)], []⟩ ?_
      obtain ⟨out1, h889, h⟩ := obind h
      refine Wc.lastJ (fun st => ∃ (u6f : GDb), out1 = .done u6f ∧ st = ⟨[tP 2 2, tP 4 4], [(2, .cells GDb.z [(0, .app 35), (1, .app 9)]), (4, .cells (GDb.q u6f) [(0, .app 35), (1, .app 9)]), bC 1000000 (GL01Cur.q vy.1)], []⟩) ?_ ?_
      · refine Wc.block ?_
        refine Wc.loop (fun m st => ∃ (u4b : Int) (u18 : GDb), st = ⟨[tP 2 2, tP 4 4, tI 5 u4b], [(2, .cells GDb.z [(0, .app 35), (1, .app 9)]), (4, .cells (GDb.q u18) [(0, .app 35), (1, .app 9)]), bC 1000000 (GL01Cur.q vy.1)], []⟩ ∧ pspec_l08Any_L1 k m u4b u18 = some out1) ?_ k ⟨_, _, rfl, h889⟩
        rintro m st ⟨u4b, u18, rfl, h889⟩
        cases m with
        | zero => exact (onone h889).elim
        | succ m =>
          apply Wc.seq
          apply Wc.seq
          refine Wc.r0 ⟨[tP 2 2, tP 4 4, tI 5 u4b, tB 27 (decide (u4b < 120))], [(2, .cells GDb.z [(0, .app 35), (1, .app 9)]), (4, .cells (GDb.q u18) [(0, .app 35), (1, .app 9)]), bC 1000000 (GL01Cur.q vy.1)], []⟩ ?_
          rcases oif h889 with ⟨h890, h889⟩ | ⟨h890, h889⟩
          · refine Wc.cT h890 ?_
            refine Wc.fx [] ⟨[tP 2 2, tP 4 4, tI 5 u4b], [(2, .cells GDb.z [(0, .app 35), (1, .app 9)]), (4, .cells (GDb.q u18) [(0, .app 35), (1, .app 9)]), bC 1000000 (GL01Cur.q vy.1)], []⟩ ?_
            refine Wc.skip ?_
            apply Wc.seq
            refine Wc.block ?_
            obtain ⟨u2q, h891, h889⟩ := obind h889
            obtain ⟨h892, h889⟩ := oguard h889
            refine Wc.every hmix [{}, { md := 1 }, {}, {}, { v := some (.vptr (GClause.q u2q)) }, {}, { c := some (List.map GClause.c [u2q]) }, { c := some (List.map GClause.c (u18.gClauses ++ [u2q])), tk := [31] }, {}, { tk := [37] }] [.so 4] [2, 4, 5] [2, 4, 1000000] [] ⟨[tP 2 2, tP 4 4, tI 5 u4b], [(2, .cells GDb.z [(0, .app 35), (1, .app 9)]), (4, .cells [.sl (List.map GClause.c (u18.gClauses ++ [u2q])), .sl (List.map cS u18.gOpen)] [(0, .app 35), (1, .app 9)]), bC 1000000 (GL01Cur.q vy.1)], []⟩ _ 21 (by kernel_rfl) (.cons .nil (.cons .nil (.cons .nil (.cons .nil (.cons (.cons (at_obl (c := GClause.c) (GClause.c_eq u2q) GClause.c_len h891) .nil) (.cons (.cons (len_ok 9 (GClause.q u2q)) .nil) (.cons (.cons (cl_cons (c := GClause.c) (x := u2q) (GClause.c_eq u2q) (cl_nil GClause.c)) .nil) (.cons (.cons (app_re2 GClause.c u18.gClauses [u2q]) (.cons (app_leaf (c := GClause.c) (ys := [u2q]) GClause.c_leaf) (.cons (app_obl2 (c := GClause.c) (xs := u18.gClauses) (ys := [u2q]) GClause.c_len h892) .nil))) (.cons .nil (.cons .nil .nil)))))))))) ?_
            refine Wc.r0 ⟨[tP 2 2, tP 4 4, tI 5 (wr.i64 (u4b + 1))], [(2, .cells GDb.z [(0, .app 35), (1, .app 9)]), (4, .cells [.sl (List.map GClause.c (u18.gClauses ++ [u2q])), .sl (List.map cS u18.gOpen)] [(0, .app 35), (1, .app 9)]), bC 1000000 (GL01Cur.q vy.1)], []⟩ ?_
            exact ⟨_, Nat.lt_succ_self _, _, _, rfl, h889⟩
          · refine Wc.cF h890 ?_
            refine Wc.fx [] ⟨[tP 2 2, tP 4 4], [(2, .cells GDb.z [(0, .app 35), (1, .app 9)]), (4, .cells (GDb.q u18) [(0, .app 35), (1, .app 9)]), bC 1000000 (GL01Cur.q vy.1)], []⟩ ?_
            refine Wc.exit ?_
            obtain rfl := Option.some.inj h889
            exact ⟨_, rfl, rfl⟩
      · rintro st ⟨u6f, rfl, rfl⟩
        apply Wc.seq
        refine Wc.r1 [{ md := 1 }, { tk := [43] }] ⟨[tP 2 2], [(2, .cells (GDb.q u6f) [(0, .app 35), (1, .app 9)]), bC 1000000 (GL01Cur.q vy.1)], []⟩ ?_
        refine Wc.fx [.un (.b 2 1)] ⟨[tP 2 2], [(2, .cells (GDb.q u6f) [(0, .app 35)]), bC 1000000 (GL01Cur.q vy.1)], []⟩ ?_
        obtain rfl := Option.some.inj h; exact Wc.ret dn
    · refine Wc.cF h888 ?_
      apply Wc.seq
      refine Wc.r0 ⟨[tP 2 2, tP 4 4, tB 39 (u2a.2 == 2)], [(2, .cells GDb.z [(0, .app 35), (1, .app 9)]), (4, .cells (GDb.q vz) [(0, .app 35), (1, .app 9)]), bC 1000000 (GL01Cur.q vy.1)], []⟩ ?_
      rcases oif h with ⟨h893, h⟩ | ⟨h893, h⟩
      · refine Wc.cT h893 ?_
        obtain ⟨h894, h⟩ := oguard h
        refine Wc.r2 [{ c := some (List.map cS (List.replicate ((41 : Int)).toNat (bs []))) }, {}, { tk := [41] }] ⟨[tP 2 2, tP 4 4], [(2, .cells GDb.z [(0, .app 35), (1, .app 9)]), (4, .cells [.sl (List.map GClause.c vz.gClauses), .slx] [(0, .app 35), (1, .ex 9 true (List.map cS (List.replicate ((41 : Int)).toNat (bs []))))]), bC 1000000 (GL01Cur.q vy.1)], []⟩ (.cons (rep_re (c := cS) (z := (bs [])) rfl ((41 : Int)).toNat) (.cons (ms_obl h894) .nil)) ?_
        apply Wc.seq
        refine Wc.r1 [{ md := 1 }, { tk := [43] }] ⟨[tP 2 2], [(2, .cells [.sl (List.map GClause.c vz.gClauses), .slx] [(0, .app 35), (1, .ex 9 true (List.map cS (List.replicate ((41 : Int)).toNat (bs []))))]), bC 1000000 (GL01Cur.q vy.1)], []⟩ ?_
        refine Wc.fx [.sh (.b 2 1)] ⟨[tP 2 2], [(2, .cells [.sl (List.map GClause.c vz.gClauses), .sl (List.map cS (List.replicate ((41 : Int)).toNat (bs [])))] [(0, .app 35)]), bC 1000000 (GL01Cur.q vy.1)], []⟩ ?_
        obtain rfl := Option.some.inj h; exact Wc.ret dn
      · refine Wc.cF h893 ?_
        refine Wc.fx [] ⟨[tP 2 2, tP 4 4], [(2, .cells GDb.z [(0, .app 35), (1, .app 9)]), (4, .cells (GDb.q vz) [(0, .app 35), (1, .app 9)]), bC 1000000 (GL01Cur.q vy.1)], []⟩ ?_
        refine Wc.skip ?_
        apply Wc.seq
        refine Wc.r1 [{ md := 1 }, { tk := [43] }] ⟨[tP 2 2], [(2, .cells (GDb.q vz) [(0, .app 35), (1, .app 9)]), bC 1000000 (GL01Cur.q vy.1)], []⟩ ?_
        refine Wc.fx [.un (.b 2 1)] ⟨[tP 2 2], [(2, .cells (GDb.q vz) [(0, .app 35)]), bC 1000000 (GL01Cur.q vy.1)], []⟩ ?_
        obtain rfl := Option.some.inj h; exact Wc.ret dn

def pspec_DrawAdded (k : Nat) (u6g : List Int) : Option (GDb × GClause) :=
  (pspec_l01New k u6g).bind fun uax =>
  (pspec_DrawClauseTerm k u6g).bind fun u7z =>
  (pspec_l08Any k uax).bind fun u80 =>
  some (u80.2, u7z)
theorem cspec_DrawAdded {k : Nat} {u6g : List Int} {r : GDb × GClause} (h : pspec_DrawAdded k u6g = some r) : FnO Tryz.prog 9 [.v (.sl (List.map cI.u8 u6g)) []] (.v (.tup [.agg (GDb.q r.1), .agg (GClause.q r.2)]) [(0, .app 35)]) [] := by
  refine FnO.o2 Tryz.func9 (rfl : Tryz.f9.body = some _) ?_
  intro w0 X0 Fin pv0 pb gt
  unfold pspec_DrawAdded at h
  apply Wc.seq
  refine Wc.r0 ⟨[tV 0 (.sl (List.map cI.u8 u6g)), tP 2 2, tP 3 3], [(2, .cells GDb.z [(0, .app 35), (1, .app 9)]), (3, .cells GClause.z [(3, .app 31), (7, .app 31)])], []⟩ ?_
  apply Wc.seq
  obtain ⟨uax, h898, h⟩ := obind h
  refine Wc.r2 [{}, { r := some (.p (GL01Cur.q uax) []) }] ⟨[tV 0 (.sl (List.map cI.u8 u6g)), tP 2 2, tP 3 3, tP 4 7], [(2, .cells GDb.z [(0, .app 35), (1, .app 9)]), (3, .cells GClause.z [(3, .app 31), (7, .app 31)]), bC 7 (GL01Cur.q uax)], []⟩ (.cons (cspec_l01New h898) .nil) ?_
  apply Wc.seq
  obtain ⟨u7z, h899, h⟩ := obind h
  refine Wc.r2 [{}, { r := some (.v (.agg (GClause.q u7z)) [(3, .app 31), (7, .app 31)]) }, {}, { tk := [9] }] ⟨[tP 2 2, tP 3 3, tP 4 7, tP 5 5], [(2, .cells GDb.z [(0, .app 35), (1, .app 9)]), (3, .cells GClause.z [(3, .app 31), (7, .app 31)]), (5, .cells (GClause.q u7z) [(3, .app 31), (7, .app 31)]), bC 7 (GL01Cur.q uax)], []⟩ (.cons (cspec_DrawClauseTerm h899) .nil) ?_
  apply Wc.seq
  obtain ⟨u80, h900, h⟩ := obind h
  refine Wc.draw hmix [{}, { r := some (.v (.agg (GDb.q u80.2)) [(0, .app 35)]), outs := [(0, .p (GL01Cur.q u80.1) [])] }, { md := 1 }, { tk := [11] }, { tk := [12] }] [] [2, 3] [2, 3] [] ⟨[tP 2 2, tP 3 3], [(2, .cells (GDb.q u80.2) [(0, .app 35)]), (3, .cells (GClause.q u7z) [(3, .app 31), (7, .app 31)])], []⟩ _ (by kernel_rfl) (fun X => by kernel_rfl) (.cons (cspec_l08Any h900) .nil) ?_
  refine Wc.fx [.un (.b 3 3), .un (.b 3 7)] ⟨[tP 2 2, tP 3 3], [(2, .cells (GDb.q u80.2) [(0, .app 35)]), bC 3 (GClause.q u7z)], []⟩ ?_
  obtain rfl := Option.some.inj h; exact Wc.ret dn
end Go.Proofs.YthemaodhckmnkaaGreatDoor

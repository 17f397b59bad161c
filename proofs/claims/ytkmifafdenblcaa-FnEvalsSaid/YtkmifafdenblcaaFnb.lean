/- What the functions do, part 2. -/
import Derived.Test.YtkmifafdenblcaaFna
set_option linter.unusedVariables false
set_option linter.unusedSimpArgs false
namespace Go.Proofs.Ytkmifafdenblcaa
open Go.RowKit Go.Bv
def pspec_l06Read_atom_J3 (k : Nat) (rspec_l06Read_atom : GL06Read → Int → Option (GL06Read × GTerm × Int)) (rspec_l06Read_primary : GL06Read → Int → Option (GL06Read × GTerm × Int)) (rspec_l06Read_round : GL06Read → Option (GL06Read × GTerm)) (rspec_l06Read_row : GL06Read → Option (GL06Read × GTerm)) (rspec_l06Read_some : GL06Read → ByteArray → Option (GL06Read × GTerm)) (rspec_l06Read_term : GL06Read → Int → Option (GL06Read × GTerm)) (u2 : GL06Read) (ur : GSign) (ua9 : Bool) : Option (GL06Read × GTerm × Int) :=
  if ua9 = true then
    some (GL06Read.mk u2.gList u2.gAt true u2.gDeep u2.gNames, GTerm.mk 0 (bs []) 0 [], 0)
  else
    (pspec_l03Atom k ur.gText).bind fun uaa =>
    some (GL06Read.mk u2.gList (wr.i64 (u2.gAt + 1)) u2.gBad u2.gDeep u2.gNames, uaa, 0)
def pspec_l06Read_atom_J2 (k : Nat) (rspec_l06Read_atom : GL06Read → Int → Option (GL06Read × GTerm × Int)) (rspec_l06Read_primary : GL06Read → Int → Option (GL06Read × GTerm × Int)) (rspec_l06Read_round : GL06Read → Option (GL06Read × GTerm)) (rspec_l06Read_row : GL06Read → Option (GL06Read × GTerm)) (rspec_l06Read_some : GL06Read → ByteArray → Option (GL06Read × GTerm)) (rspec_l06Read_term : GL06Read → Int → Option (GL06Read × GTerm)) (u2 : GL06Read) (z6 : GOp × Bool) (ur : GSign) (uab : Bool) : Option (GL06Read × GTerm × Int) :=
  if uab = true then
    (rspec_l06Read_term (GL06Read.mk u2.gList (wr.i64 (u2.gAt + 1)) u2.gBad u2.gDeep u2.gNames) z6.1.gRight).bind fun vs =>
    some (vs.1, GTerm.mk 4 ur.gText 0 [vs.2], z6.1.gPrio)
  else
    (pspec_InfixOf k ur.gText).bind fun u7n =>
    if z6.2 = true then
      pspec_l06Read_atom_J3 k rspec_l06Read_atom rspec_l06Read_primary rspec_l06Read_round rspec_l06Read_row rspec_l06Read_some rspec_l06Read_term u2 ur true
    else
      pspec_l06Read_atom_J3 k rspec_l06Read_atom rspec_l06Read_primary rspec_l06Read_round rspec_l06Read_row rspec_l06Read_some rspec_l06Read_term u2 ur u7n.2
def pspec_l06Read_atom_J1 (k : Nat) (rspec_l06Read_atom : GL06Read → Int → Option (GL06Read × GTerm × Int)) (rspec_l06Read_primary : GL06Read → Int → Option (GL06Read × GTerm × Int)) (rspec_l06Read_round : GL06Read → Option (GL06Read × GTerm)) (rspec_l06Read_row : GL06Read → Option (GL06Read × GTerm)) (rspec_l06Read_some : GL06Read → ByteArray → Option (GL06Read × GTerm)) (rspec_l06Read_term : GL06Read → Int → Option (GL06Read × GTerm)) (ur : GSign) (zx : Int) (uac : Bool) (u2 : GL06Read) : Option (GL06Read × GTerm × Int) :=
  if uac = true then
    (at' u2.gList (wr.i64 ((wr.i64 (u2.gAt + 2)) - 1))).bind fun u6b =>
    (pspec_l03Num k (wr.i64 (0 - u6b.gNum))).bind fun uad =>
    some (GL06Read.mk u2.gList (wr.i64 (u2.gAt + 2)) u2.gBad u2.gDeep u2.gNames, uad, 0)
  else
    (pspec_PrefixOf k ur.gText).bind fun z6 =>
    if z6.2 = true then
      pspec_l06Read_atom_J2 k rspec_l06Read_atom rspec_l06Read_primary rspec_l06Read_round rspec_l06Read_row rspec_l06Read_some rspec_l06Read_term u2 z6 ur (decide (z6.1.gPrio ≤ zx))
    else
      pspec_l06Read_atom_J2 k rspec_l06Read_atom rspec_l06Read_primary rspec_l06Read_round rspec_l06Read_row rspec_l06Read_some rspec_l06Read_term u2 z6 ur false
def pspec_l06Read_round_J1 (k : Nat) (rspec_l06Read_atom : GL06Read → Int → Option (GL06Read × GTerm × Int)) (rspec_l06Read_primary : GL06Read → Int → Option (GL06Read × GTerm × Int)) (rspec_l06Read_round : GL06Read → Option (GL06Read × GTerm)) (rspec_l06Read_row : GL06Read → Option (GL06Read × GTerm)) (rspec_l06Read_some : GL06Read → ByteArray → Option (GL06Read × GTerm)) (rspec_l06Read_term : GL06Read → Int → Option (GL06Read × GTerm)) (uae : Bool) (ve : GL06Read) : Option (GL06Read × GTerm) :=
  if uae = true then
    (at' ve.gList (wr.i64 ((wr.i64 (ve.gAt + 2)) - 2))).bind fun u5e =>
    (pspec_l03Atom k u5e.gText).bind fun uaf =>
    some (GL06Read.mk ve.gList (wr.i64 (ve.gAt + 2)) ve.gBad ve.gDeep ve.gNames, uaf)
  else
    (rspec_l06Read_term ve 1200).bind fun u17 =>
    (pspec_l06Read_wants k u17.1 (bs [41])).bind fun u18 =>
    some (u18, u17.2)
def pspec_l06Read_row_L1 (k : Nat) (rspec_l06Read_atom : GL06Read → Int → Option (GL06Read × GTerm × Int)) (rspec_l06Read_primary : GL06Read → Int → Option (GL06Read × GTerm × Int)) (rspec_l06Read_round : GL06Read → Option (GL06Read × GTerm)) (rspec_l06Read_row : GL06Read → Option (GL06Read × GTerm)) (rspec_l06Read_some : GL06Read → ByteArray → Option (GL06Read × GTerm)) (rspec_l06Read_term : GL06Read → Int → Option (GL06Read × GTerm)) (u0l : GTerm) : Nat → (List GTerm) → GL06Read → Option (Out (GL06Read × GTerm) ((List GTerm) × GTerm × GL06Read))
  | 0, _, _ => none
  | m + 1, zt, z7 =>
    if (!z7.gBad) = true then
      (rspec_l06Read_term z7 999).bind fun vj =>
      if zt.length + [vj.2].length ≤ 1073741824 then
        (pspec_l06Read_mark k vj.1 (bs [93])).bind fun zf =>
        if zf.2 = true then
          some (.done (zt ++ [vj.2], u0l, zf.1))
        else
          (pspec_l06Read_mark k zf.1 (bs [124])).bind fun u0f =>
          if u0f.2 = true then
            (rspec_l06Read_term u0f.1 999).bind fun u1m =>
            (pspec_l06Read_wants k u1m.1 (bs [93])).bind fun u39 =>
            some (.done (zt ++ [vj.2], u1m.2, u39))
          else
            (pspec_l06Read_wants k u0f.1 (bs [44])).bind fun u3a =>
            pspec_l06Read_row_L1 k rspec_l06Read_atom rspec_l06Read_primary rspec_l06Read_round rspec_l06Read_row rspec_l06Read_some rspec_l06Read_term u0l m (zt ++ [vj.2]) u3a
      else none
    else
      some (.done (zt, u0l, z7))
def pspec_l06Read_row_L2 (k : Nat) (rspec_l06Read_atom : GL06Read → Int → Option (GL06Read × GTerm × Int)) (rspec_l06Read_primary : GL06Read → Int → Option (GL06Read × GTerm × Int)) (rspec_l06Read_round : GL06Read → Option (GL06Read × GTerm)) (rspec_l06Read_row : GL06Read → Option (GL06Read × GTerm)) (rspec_l06Read_some : GL06Read → ByteArray → Option (GL06Read × GTerm)) (rspec_l06Read_term : GL06Read → Int → Option (GL06Read × GTerm)) (u0s : List GTerm) : Nat → Int → GTerm → Option (Out (GL06Read × GTerm) GTerm)
  | 0, _, _ => none
  | m + 1, u3b, u4n =>
    if (decide (u3b ≥ 0)) = true then
      (at' u0s u3b).bind fun uag =>
      (pspec_l03Two k (bs [46]) uag u4n).bind fun uah =>
      pspec_l06Read_row_L2 k rspec_l06Read_atom rspec_l06Read_primary rspec_l06Read_round rspec_l06Read_row rspec_l06Read_some rspec_l06Read_term u0s m (wr.i64 (u3b - 1)) uah
    else
      some (.done u4n)
def pspec_l06Read_some_L1 (k : Nat) (rspec_l06Read_atom : GL06Read → Int → Option (GL06Read × GTerm × Int)) (rspec_l06Read_primary : GL06Read → Int → Option (GL06Read × GTerm × Int)) (rspec_l06Read_round : GL06Read → Option (GL06Read × GTerm)) (rspec_l06Read_row : GL06Read → Option (GL06Read × GTerm)) (rspec_l06Read_some : GL06Read → ByteArray → Option (GL06Read × GTerm)) (rspec_l06Read_term : GL06Read → Int → Option (GL06Read × GTerm)) : Nat → GTerm → GL06Read → Option (Out (GL06Read × GTerm) (GTerm × GL06Read))
  | 0, _, _ => none
  | m + 1, up, z8 =>
    if (!z8.gBad) = true then
      (rspec_l06Read_term z8 999).bind fun ul =>
      if (decide ((up.gKids.length : Int) ≥ 5)) = true then
        some (.done (up, GL06Read.mk ul.1.gList ul.1.gAt true ul.1.gDeep ul.1.gNames))
      else
        if up.gKids.length + [ul.2].length ≤ 1073741824 then
          (pspec_l06Read_mark k ul.1 (bs [41])).bind fun zg =>
          if zg.2 = true then
            some (.done (GTerm.mk up.gKind up.gName up.gNum (up.gKids ++ [ul.2]), zg.1))
          else
            (pspec_l06Read_wants k zg.1 (bs [44])).bind fun u3c =>
            pspec_l06Read_some_L1 k rspec_l06Read_atom rspec_l06Read_primary rspec_l06Read_round rspec_l06Read_row rspec_l06Read_some rspec_l06Read_term m (GTerm.mk up.gKind up.gName up.gNum (up.gKids ++ [ul.2])) u3c
        else none
    else
      some (.done (up, z8))
def pspec_l06Read_term_L2 (k : Nat) (rspec_l06Read_atom : GL06Read → Int → Option (GL06Read × GTerm × Int)) (rspec_l06Read_primary : GL06Read → Int → Option (GL06Read × GTerm × Int)) (rspec_l06Read_round : GL06Read → Option (GL06Read × GTerm)) (rspec_l06Read_row : GL06Read → Option (GL06Read × GTerm)) (rspec_l06Read_some : GL06Read → ByteArray → Option (GL06Read × GTerm)) (rspec_l06Read_term : GL06Read → Int → Option (GL06Read × GTerm)) (vb : Int) : Nat → Int → GTerm → GL06Read → Option (Out (GL06Read × GTerm) (GTerm × GL06Read))
  | 0, _, _, _ => none
  | m + 1, u4o, u05, z9 =>
    if (!z9.gBad) = true then
      (pspec_l06Read_infix k z9).bind fun u9 =>
      if (!u9.2.2) = true then
        some (.done (u05, u9.1))
      else
        if (decide (u9.2.1.gPrio > vb)) = true then
          some (.done (u05, u9.1))
        else
          if (decide (u9.2.1.gLeft < u4o)) = true then
            some (.done (u05, u9.1))
          else
            (rspec_l06Read_term (GL06Read.mk u9.1.gList (wr.i64 (u9.1.gAt + 1)) u9.1.gBad u9.1.gDeep u9.1.gNames) u9.2.1.gRight).bind fun zk =>
            (pspec_l03Two k u9.2.1.gName u05 zk.2).bind fun uai =>
            pspec_l06Read_term_L2 k rspec_l06Read_atom rspec_l06Read_primary rspec_l06Read_round rspec_l06Read_row rspec_l06Read_some rspec_l06Read_term vb m u9.2.1.gPrio uai zk.1
    else
      some (.done (u05, z9))
def pspec_l06Read_term_J1 (k : Nat) (rspec_l06Read_atom : GL06Read → Int → Option (GL06Read × GTerm × Int)) (rspec_l06Read_primary : GL06Read → Int → Option (GL06Read × GTerm × Int)) (rspec_l06Read_round : GL06Read → Option (GL06Read × GTerm)) (rspec_l06Read_row : GL06Read → Option (GL06Read × GTerm)) (rspec_l06Read_some : GL06Read → ByteArray → Option (GL06Read × GTerm)) (rspec_l06Read_term : GL06Read → Int → Option (GL06Read × GTerm)) (ua : GL06Read) (vb : Int) (uaj : Bool) : Option (GL06Read × GTerm) :=
  if uaj = true then
    some (GL06Read.mk ua.gList ua.gAt true (wr.i64 (ua.gDeep + 1)) ua.gNames, GTerm.mk 0 (bs []) 0 [])
  else
    (rspec_l06Read_primary (GL06Read.mk ua.gList ua.gAt ua.gBad (wr.i64 (ua.gDeep + 1)) ua.gNames) vb).bind fun u0z =>
    (pspec_l06Read_term_L2 k rspec_l06Read_atom rspec_l06Read_primary rspec_l06Read_round rspec_l06Read_row rspec_l06Read_some rspec_l06Read_term vb k u0z.2.2 u0z.2.1 u0z.1).bind fun out2 => match out2 with
    | .ret r => some r
    | .done (u6c, zy) =>
      some (GL06Read.mk zy.gList zy.gAt zy.gBad (wr.i64 (zy.gDeep - 1)) zy.gNames, u6c)
mutual
def pspec_l06Read_atom : Nat → GL06Read → Int → Option (GL06Read × GTerm × Int)
  | 0, _, _ => none
  | k + 1, uk, zx =>
    (at' uk.gList uk.gAt).bind fun ur =>
    if ur.gNear = true then
      (pspec_l06Read_some k (GL06Read.mk uk.gList (wr.i64 (uk.gAt + 2)) uk.gBad uk.gDeep uk.gNames) ur.gText).bind fun u0g =>
      some (u0g.1, u0g.2, 0)
    else
      if (sEq ur.gText (bs [45])) = true then
        (pspec_l06Read_near k uk).bind fun u1y =>
        pspec_l06Read_atom_J1 k (pspec_l06Read_atom k) (pspec_l06Read_primary k) (pspec_l06Read_round k) (pspec_l06Read_row k) (pspec_l06Read_some k) (pspec_l06Read_term k) ur zx u1y.2 u1y.1
      else
        pspec_l06Read_atom_J1 k (pspec_l06Read_atom k) (pspec_l06Read_primary k) (pspec_l06Read_round k) (pspec_l06Read_row k) (pspec_l06Read_some k) (pspec_l06Read_term k) ur zx false uk
def pspec_l06Read_primary : Nat → GL06Read → Int → Option (GL06Read × GTerm × Int)
  | 0, _, _ => none
  | k + 1, u06, u3o =>
    (pspec_l06Read_is k u06 1 (bs [])).bind fun u1n =>
    if u1n.2 = true then
      (pspec_l06Read_atom k u1n.1 u3o).bind fun u10 =>
      some (u10.1, u10.2.1, u10.2.2)
    else
      (pspec_l06Read_mark k u1n.1 (bs [40])).bind fun u1o =>
      if u1o.2 = true then
        (pspec_l06Read_round k u1o.1).bind fun u1z =>
        some (u1z.1, u1z.2, 0)
      else
        (pspec_l06Read_mark k u1o.1 (bs [91])).bind fun u1p =>
        if u1p.2 = true then
          (pspec_l06Read_row k u1p.1).bind fun u20 =>
          some (u20.1, u20.2, 0)
        else
          (pspec_l06Read_is k u1p.1 3 (bs [])).bind fun vc =>
          if vc.2 = true then
            (at' vc.1.gList (wr.i64 ((wr.i64 (vc.1.gAt + 1)) - 1))).bind fun u6d =>
            (pspec_l03Num k u6d.gNum).bind fun uak =>
            some (GL06Read.mk vc.1.gList (wr.i64 (vc.1.gAt + 1)) vc.1.gBad vc.1.gDeep vc.1.gNames, uak, 0)
          else
            (pspec_l06Read_is k vc.1 2 (bs [])).bind fun us =>
            if us.2 = true then
              (at' us.1.gList (wr.i64 ((wr.i64 (us.1.gAt + 1)) - 1))).bind fun u5f =>
              (pspec_l06Read_variable k (GL06Read.mk us.1.gList (wr.i64 (us.1.gAt + 1)) us.1.gBad us.1.gDeep us.1.gNames) u5f.gText).bind fun u0h =>
              some (u0h.1, u0h.2, 0)
            else
              some (GL06Read.mk us.1.gList us.1.gAt true us.1.gDeep us.1.gNames, GTerm.mk 0 (bs []) 0 [], 0)
def pspec_l06Read_round : Nat → GL06Read → Option (GL06Read × GTerm)
  | 0, _ => none
  | k + 1, u07 =>
    (pspec_l06Read_is k u07 1 (bs [])).bind fun ue =>
    if ue.2 = true then
      if (decide ((wr.i64 (ue.1.gAt + 1)) < (ue.1.gList.length : Int))) = true then
        (at' ue.1.gList (wr.i64 (ue.1.gAt + 1))).bind fun u5g =>
        if (u5g.gKind == 4) = true then
          (at' ue.1.gList (wr.i64 (ue.1.gAt + 1))).bind fun u4p =>
          pspec_l06Read_round_J1 k (pspec_l06Read_atom k) (pspec_l06Read_primary k) (pspec_l06Read_round k) (pspec_l06Read_row k) (pspec_l06Read_some k) (pspec_l06Read_term k) (sEq u4p.gText (bs [41])) ue.1
        else
          pspec_l06Read_round_J1 k (pspec_l06Read_atom k) (pspec_l06Read_primary k) (pspec_l06Read_round k) (pspec_l06Read_row k) (pspec_l06Read_some k) (pspec_l06Read_term k) false ue.1
      else
        pspec_l06Read_round_J1 k (pspec_l06Read_atom k) (pspec_l06Read_primary k) (pspec_l06Read_round k) (pspec_l06Read_row k) (pspec_l06Read_some k) (pspec_l06Read_term k) false ue.1
    else
      pspec_l06Read_round_J1 k (pspec_l06Read_atom k) (pspec_l06Read_primary k) (pspec_l06Read_round k) (pspec_l06Read_row k) (pspec_l06Read_some k) (pspec_l06Read_term k) false ue.1
def pspec_l06Read_row : Nat → GL06Read → Option (GL06Read × GTerm)
  | 0, _ => none
  | k + 1, u08 =>
    (pspec_l06Read_mark k u08 (bs [93])).bind fun v4 =>
    if v4.2 = true then
      (pspec_l03Atom k (bs [91, 93])).bind fun ual =>
      some (v4.1, ual)
    else
      (pspec_l03Atom k (bs [91, 93])).bind fun u0l =>
      (pspec_l06Read_row_L1 k (pspec_l06Read_atom k) (pspec_l06Read_primary k) (pspec_l06Read_round k) (pspec_l06Read_row k) (pspec_l06Read_some k) (pspec_l06Read_term k) u0l k [] v4.1).bind fun out1 => match out1 with
      | .ret r => some r
      | .done (u0s, u7o, um) =>
        (pspec_l06Read_row_L2 k (pspec_l06Read_atom k) (pspec_l06Read_primary k) (pspec_l06Read_round k) (pspec_l06Read_row k) (pspec_l06Read_some k) (pspec_l06Read_term k) u0s k (wr.i64 ((u0s.length : Int) - 1)) u7o).bind fun out2 => match out2 with
        | .ret r => some r
        | .done u7p =>
          some (um, u7p)
def pspec_l06Read_some : Nat → GL06Read → ByteArray → Option (GL06Read × GTerm)
  | 0, _, _ => none
  | k + 1, za, u3p =>
    (pspec_l06Read_some_L1 k (pspec_l06Read_atom k) (pspec_l06Read_primary k) (pspec_l06Read_round k) (pspec_l06Read_row k) (pspec_l06Read_some k) (pspec_l06Read_term k) k (GTerm.mk 4 u3p 0 []) za).bind fun out1 => match out1 with
    | .ret r => some r
    | .done (u7q, u2h) =>
      some (u2h, u7q)
def pspec_l06Read_term : Nat → GL06Read → Int → Option (GL06Read × GTerm)
  | 0, _, _ => none
  | k + 1, ua, vb =>
    if ua.gBad = true then
      pspec_l06Read_term_J1 k (pspec_l06Read_atom k) (pspec_l06Read_primary k) (pspec_l06Read_round k) (pspec_l06Read_row k) (pspec_l06Read_some k) (pspec_l06Read_term k) ua vb true
    else
      pspec_l06Read_term_J1 k (pspec_l06Read_atom k) (pspec_l06Read_primary k) (pspec_l06Read_round k) (pspec_l06Read_row k) (pspec_l06Read_some k) (pspec_l06Read_term k) ua vb (decide ((wr.i64 (ua.gDeep + 1)) > 130))
end
set_option maxHeartbeats 4000000 in
theorem all_pspec_l06Read_atom : ∀ k : Nat, (∀ {uk : GL06Read} {zx : Int} {r : GL06Read × GTerm × Int}, pspec_l06Read_atom k uk zx = some r → FnO Try.prog 148 [.p (GL06Read.k2 uk) (GL06Read.h4_9f uk), .v (aI zx) []] (.v (.tup [.agg (GTerm.q r.2.1), aI r.2.2]) []) [(0, .p (GL06Read.k2 r.1) (GL06Read.h4_9f r.1))]) ∧
    (∀ {u06 : GL06Read} {u3o : Int} {r : GL06Read × GTerm × Int}, pspec_l06Read_primary k u06 u3o = some r → FnO Try.prog 141 [.p (GL06Read.k2 u06) (GL06Read.h4_9f u06), .v (aI u3o) []] (.v (.tup [.agg (GTerm.q r.2.1), aI r.2.2]) []) [(0, .p (GL06Read.k2 r.1) (GL06Read.h4_9f r.1))]) ∧
    (∀ {u07 : GL06Read} {r : GL06Read × GTerm}, pspec_l06Read_round k u07 = some r → FnO Try.prog 150 [.p (GL06Read.k2 u07) (GL06Read.h4_9f u07)] (.v (.agg (GTerm.q r.2)) []) [(0, .p (GL06Read.k2 r.1) (GL06Read.h4_9f r.1))]) ∧
    (∀ {u08 : GL06Read} {r : GL06Read × GTerm}, pspec_l06Read_row k u08 = some r → FnO Try.prog 151 [.p (GL06Read.k2 u08) (GL06Read.h4_9f u08)] (.v (.agg (GTerm.q r.2)) []) [(0, .p (GL06Read.k2 r.1) (GL06Read.h4_9f r.1))]) ∧
    (∀ {za : GL06Read} {u3p : ByteArray} {r : GL06Read × GTerm}, pspec_l06Read_some k za u3p = some r → FnO Try.prog 156 [.p (GL06Read.k2 za) (GL06Read.h4_9f za), .v (.str u3p) []] (.v (.agg (GTerm.q r.2)) [(3, .app 41)]) [(0, .p (GL06Read.k2 r.1) (GL06Read.h4_9f r.1))]) ∧
    (∀ {ua : GL06Read} {vb : Int} {r : GL06Read × GTerm}, pspec_l06Read_term k ua vb = some r → FnO Try.prog 122 [.p (GL06Read.k2 ua) (GL06Read.h4_9f ua), .v (aI vb) []] (.v (.agg (GTerm.q r.2)) []) [(0, .p (GL06Read.k2 r.1) (GL06Read.h4_9f r.1))]) := by
  intro k
  induction k with
  | zero =>
    refine ⟨?_, ?_, ?_, ?_, ?_, ?_⟩
    · intro uk zx r h
      exact (onone (by rw [pspec_l06Read_atom] at h; exact h)).elim
    · intro u06 u3o r h
      exact (onone (by rw [pspec_l06Read_primary] at h; exact h)).elim
    · intro u07 r h
      exact (onone (by rw [pspec_l06Read_round] at h; exact h)).elim
    · intro u08 r h
      exact (onone (by rw [pspec_l06Read_row] at h; exact h)).elim
    · intro za u3p r h
      exact (onone (by rw [pspec_l06Read_some] at h; exact h)).elim
    · intro ua vb r h
      exact (onone (by rw [pspec_l06Read_term] at h; exact h)).elim
  | succ k ih =>
    obtain ⟨ih_pspec_l06Read_atom, ih_pspec_l06Read_primary, ih_pspec_l06Read_round, ih_pspec_l06Read_row, ih_pspec_l06Read_some, ih_pspec_l06Read_term⟩ := ih
    refine ⟨?_, ?_, ?_, ?_, ?_, ?_⟩
    · intro uk zx r h
      rw [pspec_l06Read_atom] at h
      refine FnO.o2 Try.func148 (rfl : Try.f148.body = some _) ?_
      intro w0 X0 Fin pv0 pb gt
      apply Wc.seq
      refine Wc.r0 ⟨[tP 0 1000000, tI 1 zx, tP 4 4], [(4, .cells GTerm.z [(3, .app 41)]), (1000000, .cells (GL06Read.k2 uk) (GL06Read.h4_9f uk))], []⟩ ?_
      apply Wc.seq
      obtain ⟨ur, h377, h⟩ := obind h
      refine Wc.draw hmix [{}, {}, {}, {}, {}, {}, {}, {}, { v := some (.vptr (GSign.q ur)) }] [] [0, 1, 4, 6] [4, 6, 1000000] [] ⟨[tP 0 1000000, tI 1 zx, tP 4 4, tP 6 6], [(4, .cells GTerm.z [(3, .app 41)]), bC 6 (GSign.q ur), (1000000, .cells (GL06Read.k2 uk) (GL06Read.h4_9f uk))], []⟩ _ (by kernel_rfl) (fun X => by kernel_rfl) (.cons (at_obl (c := GSign.c) (GSign.c_eq ur) GSign.c_len h377) (.cons (len_ok 5 (GSign.q ur)) .nil)) ?_
      apply Wc.seq
      apply Wc.seq
      refine Wc.r0 ⟨[tP 0 1000000, tI 1 zx, tP 4 4, tP 6 6, tB 23 ur.gNear], [(4, .cells GTerm.z [(3, .app 41)]), bC 6 (GSign.q ur), (1000000, .cells (GL06Read.k2 uk) (GL06Read.h4_9f uk))], []⟩ ?_
      rcases oif h with ⟨h378, h⟩ | ⟨h378, h⟩
      · refine Wc.cT h378 ?_
        apply Wc.seq
        refine Wc.r0 ⟨[tP 0 1000000, tP 4 4, tP 6 6], [(4, .cells GTerm.z [(3, .app 41)]), bC 6 (GSign.q ur), (1000000, .cells [.sl (List.map GSign.c uk.gList), aI (wr.i64 (uk.gAt + 2)), .bool uk.gBad, aI uk.gDeep, .slx] (GL06Read.h4_9f uk))], []⟩ ?_
        apply Wc.seq
        obtain ⟨u0g, h379, h⟩ := obind h
        refine Wc.r2 [{}, {}, {}, { r := some (.v (.agg (GTerm.q u0g.2)) [(3, .app 41)]), outs := [(0, .p (GL06Read.k2 u0g.1) (GL06Read.h4_9f u0g.1))] }, { tk := [35] }] ⟨[tP 4 4, tI 5 0], [(4, .cells (GTerm.q u0g.2) [(3, .app 41)]), (1000000, .cells (GL06Read.k2 u0g.1) (GL06Read.h4_9f u0g.1))], []⟩ (.cons (ih_pspec_l06Read_some h379) .nil) ?_
        refine Wc.fx [.un (.b 4 3)] ⟨[tP 4 4, tI 5 0], [bC 4 (GTerm.q u0g.2), (1000000, .cells (GL06Read.k2 u0g.1) (GL06Read.h4_9f u0g.1))], []⟩ ?_
        obtain rfl := Option.some.inj h; exact Wc.ret dn
      · refine Wc.cF h378 ?_
        refine Wc.fx [] ⟨[tP 0 1000000, tI 1 zx, tP 4 4, tP 6 6], [(4, .cells GTerm.z [(3, .app 41)]), bC 6 (GSign.q ur), (1000000, .cells (GL06Read.k2 uk) (GL06Read.h4_9f uk))], []⟩ ?_
        refine Wc.skip ?_
        apply Wc.seq
        refine Wc.seqJ (fun st => ∃ (uac : Bool) (u2 : GL06Read), st = ⟨[tP 0 1000000, tI 1 zx, tP 4 4, tP 6 6, tB 42 uac], [(4, .cells GTerm.z [(3, .app 41)]), bC 6 (GSign.q ur), (1000000, .cells (GL06Read.k2 u2) (GL06Read.h4_9f u2))], []⟩ ∧ pspec_l06Read_atom_J1 k (pspec_l06Read_atom k) (pspec_l06Read_primary k) (pspec_l06Read_round k) (pspec_l06Read_row k) (pspec_l06Read_some k) (pspec_l06Read_term k) ur zx uac u2 = some r) ?_ ?_
        · rcases oif h with ⟨h391, h⟩ | ⟨h391, h⟩
          · obtain ⟨u1y, h392, h⟩ := obind h
            refine Wc.r2 [{}, {}, {}, { re := some (.bool true) }, {}, { r := some (.v (.bool u1y.2) []), outs := [(0, .p (GL06Read.k2 u1y.1) (GL06Read.h4_9f u1y.1))] }] ⟨[tP 0 1000000, tI 1 zx, tP 4 4, tP 6 6, tB 42 u1y.2], [(4, .cells GTerm.z [(3, .app 41)]), bC 6 (GSign.q ur), (1000000, .cells (GL06Read.k2 u1y.1) (GL06Read.h4_9f u1y.1))], []⟩ (.cons (congrArg AV.bool h391) (.cons (cspec_l06Read_near h392) .nil)) ?_
            exact ⟨_, _, rfl, h⟩
          · refine Wc.r2 [{}, {}, {}, { re := some (.bool false) }] ⟨[tP 0 1000000, tI 1 zx, tP 4 4, tP 6 6, tB 42 false], [(4, .cells GTerm.z [(3, .app 41)]), bC 6 (GSign.q ur), (1000000, .cells (GL06Read.k2 uk) (GL06Read.h4_9f uk))], []⟩ (.cons (congrArg AV.bool h391) .nil) ?_
            exact ⟨_, _, rfl, h⟩
        · rintro st ⟨uac, u2, rfl, h⟩
          rcases oif h with ⟨h380, h⟩ | ⟨h380, h⟩
          · refine Wc.cT h380 ?_
            apply Wc.seq
            refine Wc.r0 ⟨[tP 0 1000000, tP 4 4], [(4, .cells GTerm.z [(3, .app 41)]), (1000000, .cells [.sl (List.map GSign.c u2.gList), aI (wr.i64 (u2.gAt + 2)), .bool u2.gBad, aI u2.gDeep, .slx] (GL06Read.h4_9f u2))], []⟩ ?_
            apply Wc.seq
            obtain ⟨u6b, h381, h⟩ := obind h
            obtain ⟨uad, h382, h⟩ := obind h
            refine Wc.draw hmix [{}, {}, {}, {}, {}, {}, {}, {}, {}, { v := some (.vptr (GSign.q u6b)) }, {}, {}, {}, { r := some (.v (.agg (GTerm.q uad)) [(3, .app 41)]) }, { tk := [64] }] [] [4, 5] [4, 1000000] [] ⟨[tP 4 4, tI 5 0], [(4, .cells (GTerm.q uad) [(3, .app 41)]), (1000000, .cells [.sl (List.map GSign.c u2.gList), aI (wr.i64 (u2.gAt + 2)), .bool u2.gBad, aI u2.gDeep, .slx] (GL06Read.h4_9f u2))], []⟩ _ (by kernel_rfl) (fun X => by kernel_rfl) (.cons (at_obl (c := GSign.c) (GSign.c_eq u6b) GSign.c_len h381) (.cons (len_ok 1 [aI u6b.gNum, aI u6b.gAt, .bool u6b.gNear]) (.cons (cspec_l03Num h382) .nil))) ?_
            refine Wc.fx [.un (.b 4 3)] ⟨[tP 4 4, tI 5 0], [bC 4 (GTerm.q uad), (1000000, .cells [.sl (List.map GSign.c u2.gList), aI (wr.i64 (u2.gAt + 2)), .bool u2.gBad, aI u2.gDeep, .slx] (GL06Read.h4_9f u2))], []⟩ ?_
            obtain rfl := Option.some.inj h; exact Wc.ret dn
          · refine Wc.cF h380 ?_
            refine Wc.fx [] ⟨[tP 0 1000000, tI 1 zx, tP 4 4, tP 6 6], [(4, .cells GTerm.z [(3, .app 41)]), bC 6 (GSign.q ur), (1000000, .cells (GL06Read.k2 u2) (GL06Read.h4_9f u2))], []⟩ ?_
            refine Wc.skip ?_
            apply Wc.seq
            obtain ⟨z6, h383, h⟩ := obind h
            refine Wc.r2 [{}, {}, { r := some (.v (.tup [.agg (GOp.q z6.1), .bool z6.2]) []) }] ⟨[tP 0 1000000, tI 1 zx, tP 4 4, tP 6 6, tP 7 7, tB 8 z6.2], [(4, .cells GTerm.z [(3, .app 41)]), bC 6 (GSign.q ur), bC 7 (GOp.q z6.1), (1000000, .cells (GL06Read.k2 u2) (GL06Read.h4_9f u2))], []⟩ (.cons (cspec_PrefixOf h383) .nil) ?_
            apply Wc.seq
            refine Wc.seqJ (fun st => ∃ (uab : Bool), st = ⟨[tP 0 1000000, tP 4 4, tP 6 6, tP 7 7, tB 8 z6.2, tB 77 uab], [(4, .cells GTerm.z [(3, .app 41)]), bC 6 (GSign.q ur), bC 7 (GOp.q z6.1), (1000000, .cells (GL06Read.k2 u2) (GL06Read.h4_9f u2))], []⟩ ∧ pspec_l06Read_atom_J2 k (pspec_l06Read_atom k) (pspec_l06Read_primary k) (pspec_l06Read_round k) (pspec_l06Read_row k) (pspec_l06Read_some k) (pspec_l06Read_term k) u2 z6 ur uab = some r) ?_ ?_
            · rcases oif h with ⟨h390, h⟩ | ⟨h390, h⟩
              · refine Wc.r2 [{}, { re := some (.bool true) }] ⟨[tP 0 1000000, tP 4 4, tP 6 6, tP 7 7, tB 8 z6.2, tB 77 (decide (z6.1.gPrio ≤ zx))], [(4, .cells GTerm.z [(3, .app 41)]), bC 6 (GSign.q ur), bC 7 (GOp.q z6.1), (1000000, .cells (GL06Read.k2 u2) (GL06Read.h4_9f u2))], []⟩ (.cons (congrArg AV.bool h390) .nil) ?_
                exact ⟨_, rfl, h⟩
              · refine Wc.r2 [{}, { re := some (.bool false) }] ⟨[tP 0 1000000, tP 4 4, tP 6 6, tP 7 7, tB 8 z6.2, tB 77 false], [(4, .cells GTerm.z [(3, .app 41)]), bC 6 (GSign.q ur), bC 7 (GOp.q z6.1), (1000000, .cells (GL06Read.k2 u2) (GL06Read.h4_9f u2))], []⟩ (.cons (congrArg AV.bool h390) .nil) ?_
                exact ⟨_, rfl, h⟩
            · rintro st ⟨uab, rfl, h⟩
              rcases oif h with ⟨h384, h⟩ | ⟨h384, h⟩
              · refine Wc.cT h384 ?_
                apply Wc.seq
                refine Wc.r0 ⟨[tP 0 1000000, tP 4 4, tP 6 6, tP 7 7], [(4, .cells GTerm.z [(3, .app 41)]), bC 6 (GSign.q ur), bC 7 (GOp.q z6.1), (1000000, .cells [.sl (List.map GSign.c u2.gList), aI (wr.i64 (u2.gAt + 1)), .bool u2.gBad, aI u2.gDeep, .slx] (GL06Read.h4_9f u2))], []⟩ ?_
                apply Wc.seq
                obtain ⟨vs, h385, h⟩ := obind h
                refine Wc.r2 [{}, {}, {}, { r := some (.v (.agg (GTerm.q vs.2)) []), outs := [(0, .p (GL06Read.k2 vs.1) (GL06Read.h4_9f vs.1))] }] ⟨[tP 4 4, tP 6 6, tP 7 7, tP 9 9], [(4, .cells GTerm.z [(3, .app 41)]), bC 6 (GSign.q ur), bC 7 (GOp.q z6.1), bC 9 (GTerm.q vs.2), (1000000, .cells (GL06Read.k2 vs.1) (GL06Read.h4_9f vs.1))], []⟩ (.cons (ih_pspec_l06Read_term h385) .nil) ?_
                apply Wc.seq
                refine Wc.draw hmix [{}, {}, {}, { c := some (List.map GTerm.c [vs.2]) }, { tk := [93] }, {}, {}, { tk := [94] }] [] [4, 5] [4, 1000000] [] ⟨[tP 4 4, tI 5 z6.1.gPrio], [(4, .cells [aI 4, .str ur.gText, aI 0, .sl (List.map GTerm.c [vs.2])] [(3, .app 41)]), (1000000, .cells (GL06Read.k2 vs.1) (GL06Read.h4_9f vs.1))], []⟩ _ (by kernel_rfl) (fun X => by kernel_rfl) (.cons (cl_cons (c := GTerm.c) (x := vs.2) (GTerm.c_eq vs.2) (cl_nil GTerm.c)) .nil) ?_
                refine Wc.fx [.un (.b 4 3)] ⟨[tP 4 4, tI 5 z6.1.gPrio], [bC 4 [aI 4, .str ur.gText, aI 0, .sl (List.map GTerm.c [vs.2])], (1000000, .cells (GL06Read.k2 vs.1) (GL06Read.h4_9f vs.1))], []⟩ ?_
                obtain rfl := Option.some.inj h; exact Wc.ret dn
              · refine Wc.cF h384 ?_
                refine Wc.fx [] ⟨[tP 0 1000000, tP 4 4, tP 6 6, tB 8 z6.2], [(4, .cells GTerm.z [(3, .app 41)]), bC 6 (GSign.q ur), (1000000, .cells (GL06Read.k2 u2) (GL06Read.h4_9f u2))], []⟩ ?_
                refine Wc.skip ?_
                apply Wc.seq
                obtain ⟨u7n, h386, h⟩ := obind h
                refine Wc.r2 [{}, {}, { r := some (.v (.tup [.agg (GOp.q u7n.1), .bool u7n.2]) []) }] ⟨[tP 0 1000000, tP 4 4, tP 6 6, tB 8 z6.2, tB 11 u7n.2], [(4, .cells GTerm.z [(3, .app 41)]), bC 6 (GSign.q ur), (1000000, .cells (GL06Read.k2 u2) (GL06Read.h4_9f u2))], []⟩ (.cons (cspec_InfixOf h386) .nil) ?_
                apply Wc.seq
                refine Wc.seqJ (fun st => ∃ (ua9 : Bool), st = ⟨[tP 0 1000000, tP 4 4, tP 6 6, tB 106 ua9], [(4, .cells GTerm.z [(3, .app 41)]), bC 6 (GSign.q ur), (1000000, .cells (GL06Read.k2 u2) (GL06Read.h4_9f u2))], []⟩ ∧ pspec_l06Read_atom_J3 k (pspec_l06Read_atom k) (pspec_l06Read_primary k) (pspec_l06Read_round k) (pspec_l06Read_row k) (pspec_l06Read_some k) (pspec_l06Read_term k) u2 ur ua9 = some r) ?_ ?_
                · rcases oif h with ⟨h389, h⟩ | ⟨h389, h⟩
                  · refine Wc.r2 [{}, { re := some (.bool true) }] ⟨[tP 0 1000000, tP 4 4, tP 6 6, tB 106 true], [(4, .cells GTerm.z [(3, .app 41)]), bC 6 (GSign.q ur), (1000000, .cells (GL06Read.k2 u2) (GL06Read.h4_9f u2))], []⟩ (.cons (congrArg AV.bool h389) .nil) ?_
                    exact ⟨_, rfl, h⟩
                  · refine Wc.r2 [{}, { re := some (.bool false) }] ⟨[tP 0 1000000, tP 4 4, tP 6 6, tB 106 u7n.2], [(4, .cells GTerm.z [(3, .app 41)]), bC 6 (GSign.q ur), (1000000, .cells (GL06Read.k2 u2) (GL06Read.h4_9f u2))], []⟩ (.cons (congrArg AV.bool h389) .nil) ?_
                    exact ⟨_, rfl, h⟩
                · rintro st ⟨ua9, rfl, h⟩
                  rcases oif h with ⟨h387, h⟩ | ⟨h387, h⟩
                  · refine Wc.cT h387 ?_
                    apply Wc.seq
                    refine Wc.r0 ⟨[tP 4 4], [(4, .cells GTerm.z [(3, .app 41)]), (1000000, .cells [.sl (List.map GSign.c u2.gList), aI u2.gAt, .bool true, aI u2.gDeep, .slx] (GL06Read.h4_9f u2))], []⟩ ?_
                    apply Wc.seq
                    refine Wc.r1 [{}, { tk := [110] }] ⟨[tP 4 4, tI 5 0], [(4, .cells GTerm.z [(3, .app 41)]), (1000000, .cells [.sl (List.map GSign.c u2.gList), aI u2.gAt, .bool true, aI u2.gDeep, .slx] (GL06Read.h4_9f u2))], []⟩ ?_
                    refine Wc.fx [.un (.b 4 3)] ⟨[tP 4 4, tI 5 0], [bC 4 GTerm.z, (1000000, .cells [.sl (List.map GSign.c u2.gList), aI u2.gAt, .bool true, aI u2.gDeep, .slx] (GL06Read.h4_9f u2))], []⟩ ?_
                    obtain rfl := Option.some.inj h; exact Wc.ret dn
                  · refine Wc.cF h387 ?_
                    refine Wc.fx [] ⟨[tP 0 1000000, tP 4 4, tP 6 6], [(4, .cells GTerm.z [(3, .app 41)]), bC 6 (GSign.q ur), (1000000, .cells (GL06Read.k2 u2) (GL06Read.h4_9f u2))], []⟩ ?_
                    refine Wc.skip ?_
                    apply Wc.seq
                    refine Wc.r0 ⟨[tP 4 4, tP 6 6], [(4, .cells GTerm.z [(3, .app 41)]), bC 6 (GSign.q ur), (1000000, .cells [.sl (List.map GSign.c u2.gList), aI (wr.i64 (u2.gAt + 1)), .bool u2.gBad, aI u2.gDeep, .slx] (GL06Read.h4_9f u2))], []⟩ ?_
                    apply Wc.seq
                    obtain ⟨uaa, h388, h⟩ := obind h
                    refine Wc.r2 [{}, {}, { r := some (.v (.agg (GTerm.q uaa)) [(3, .app 41)]) }, { tk := [121] }] ⟨[tP 4 4, tI 5 0], [(4, .cells (GTerm.q uaa) [(3, .app 41)]), (1000000, .cells [.sl (List.map GSign.c u2.gList), aI (wr.i64 (u2.gAt + 1)), .bool u2.gBad, aI u2.gDeep, .slx] (GL06Read.h4_9f u2))], []⟩ (.cons (cspec_l03Atom h388) .nil) ?_
                    refine Wc.fx [.un (.b 4 3)] ⟨[tP 4 4, tI 5 0], [bC 4 (GTerm.q uaa), (1000000, .cells [.sl (List.map GSign.c u2.gList), aI (wr.i64 (u2.gAt + 1)), .bool u2.gBad, aI u2.gDeep, .slx] (GL06Read.h4_9f u2))], []⟩ ?_
                    obtain rfl := Option.some.inj h; exact Wc.ret dn
    · intro u06 u3o r h
      rw [pspec_l06Read_primary] at h
      refine FnO.o2 Try.func141 (rfl : Try.f141.body = some _) ?_
      intro w0 X0 Fin pv0 pb gt
      apply Wc.seq
      refine Wc.r0 ⟨[tP 0 1000000, tI 1 u3o, tP 4 4], [(4, .cells GTerm.z [(3, .app 41)]), (1000000, .cells (GL06Read.k2 u06) (GL06Read.h4_9f u06))], []⟩ ?_
      apply Wc.seq
      refine Wc.block ?_
      apply Wc.seq
      obtain ⟨u1n, h393, h⟩ := obind h
      refine Wc.r2 [{}, { r := some (.v (.bool u1n.2) []), outs := [(0, .p (GL06Read.k2 u1n.1) (GL06Read.h4_9f u1n.1))] }] ⟨[tP 0 1000000, tI 1 u3o, tP 4 4, tB 6 u1n.2], [(4, .cells GTerm.z [(3, .app 41)]), (1000000, .cells (GL06Read.k2 u1n.1) (GL06Read.h4_9f u1n.1))], []⟩ (.cons (cspec_l06Read_is h393) .nil) ?_
      rcases oif h with ⟨h394, h⟩ | ⟨h394, h⟩
      · refine Wc.cT h394 ?_
        apply Wc.seq
        obtain ⟨u10, h395, h⟩ := obind h
        refine Wc.r2 [{}, {}, { r := some (.v (.tup [.agg (GTerm.q u10.2.1), aI u10.2.2]) []), outs := [(0, .p (GL06Read.k2 u10.1) (GL06Read.h4_9f u10.1))] }] ⟨[tP 4 4, tI 5 u10.2.2], [bC 4 (GTerm.q u10.2.1), (1000000, .cells (GL06Read.k2 u10.1) (GL06Read.h4_9f u10.1))], []⟩ (.cons (ih_pspec_l06Read_atom h395) .nil) ?_
        obtain rfl := Option.some.inj h; exact Wc.ret dn
      · refine Wc.cF h394 ?_
        apply Wc.seq
        obtain ⟨u1o, h396, h⟩ := obind h
        refine Wc.r2 [{}, { r := some (.v (.bool u1o.2) []), outs := [(0, .p (GL06Read.k2 u1o.1) (GL06Read.h4_9f u1o.1))] }] ⟨[tP 0 1000000, tP 4 4, tB 14 u1o.2], [(4, .cells GTerm.z [(3, .app 41)]), (1000000, .cells (GL06Read.k2 u1o.1) (GL06Read.h4_9f u1o.1))], []⟩ (.cons (cspec_l06Read_mark h396) .nil) ?_
        rcases oif h with ⟨h397, h⟩ | ⟨h397, h⟩
        · refine Wc.cT h397 ?_
          apply Wc.seq
          obtain ⟨u1z, h398, h⟩ := obind h
          refine Wc.r2 [{}, { r := some (.v (.agg (GTerm.q u1z.2)) []), outs := [(0, .p (GL06Read.k2 u1z.1) (GL06Read.h4_9f u1z.1))] }] ⟨[tP 4 4, tI 5 0], [bC 4 (GTerm.q u1z.2), (1000000, .cells (GL06Read.k2 u1z.1) (GL06Read.h4_9f u1z.1))], []⟩ (.cons (ih_pspec_l06Read_round h398) .nil) ?_
          obtain rfl := Option.some.inj h; exact Wc.ret dn
        · refine Wc.cF h397 ?_
          apply Wc.seq
          obtain ⟨u1p, h399, h⟩ := obind h
          refine Wc.r2 [{}, { r := some (.v (.bool u1p.2) []), outs := [(0, .p (GL06Read.k2 u1p.1) (GL06Read.h4_9f u1p.1))] }] ⟨[tP 0 1000000, tP 4 4, tB 19 u1p.2], [(4, .cells GTerm.z [(3, .app 41)]), (1000000, .cells (GL06Read.k2 u1p.1) (GL06Read.h4_9f u1p.1))], []⟩ (.cons (cspec_l06Read_mark h399) .nil) ?_
          rcases oif h with ⟨h400, h⟩ | ⟨h400, h⟩
          · refine Wc.cT h400 ?_
            apply Wc.seq
            obtain ⟨u20, h401, h⟩ := obind h
            refine Wc.r2 [{}, { r := some (.v (.agg (GTerm.q u20.2)) []), outs := [(0, .p (GL06Read.k2 u20.1) (GL06Read.h4_9f u20.1))] }] ⟨[tP 4 4, tI 5 0], [bC 4 (GTerm.q u20.2), (1000000, .cells (GL06Read.k2 u20.1) (GL06Read.h4_9f u20.1))], []⟩ (.cons (ih_pspec_l06Read_row h401) .nil) ?_
            obtain rfl := Option.some.inj h; exact Wc.ret dn
          · refine Wc.cF h400 ?_
            apply Wc.seq
            obtain ⟨vc, h402, h⟩ := obind h
            refine Wc.r2 [{}, { r := some (.v (.bool vc.2) []), outs := [(0, .p (GL06Read.k2 vc.1) (GL06Read.h4_9f vc.1))] }] ⟨[tP 0 1000000, tP 4 4, tB 24 vc.2], [(4, .cells GTerm.z [(3, .app 41)]), (1000000, .cells (GL06Read.k2 vc.1) (GL06Read.h4_9f vc.1))], []⟩ (.cons (cspec_l06Read_is h402) .nil) ?_
            rcases oif h with ⟨h403, h⟩ | ⟨h403, h⟩
            · refine Wc.cT h403 ?_
              apply Wc.seq
              refine Wc.r0 ⟨[tP 0 1000000, tP 4 4], [(4, .cells GTerm.z [(3, .app 41)]), (1000000, .cells [.sl (List.map GSign.c vc.1.gList), aI (wr.i64 (vc.1.gAt + 1)), .bool vc.1.gBad, aI vc.1.gDeep, .slx] (GL06Read.h4_9f vc.1))], []⟩ ?_
              apply Wc.seq
              obtain ⟨u6d, h404, h⟩ := obind h
              obtain ⟨uak, h405, h⟩ := obind h
              refine Wc.draw hmix [{}, {}, {}, {}, {}, {}, {}, {}, {}, { v := some (.vptr (GSign.q u6d)) }, {}, {}, { r := some (.v (.agg (GTerm.q uak)) [(3, .app 41)]) }, { tk := [47] }] [] [4, 5] [4, 1000000] [] ⟨[tP 4 4, tI 5 0], [(4, .cells (GTerm.q uak) [(3, .app 41)]), (1000000, .cells [.sl (List.map GSign.c vc.1.gList), aI (wr.i64 (vc.1.gAt + 1)), .bool vc.1.gBad, aI vc.1.gDeep, .slx] (GL06Read.h4_9f vc.1))], []⟩ _ (by kernel_rfl) (fun X => by kernel_rfl) (.cons (at_obl (c := GSign.c) (GSign.c_eq u6d) GSign.c_len h404) (.cons (len_ok 1 [aI u6d.gNum, aI u6d.gAt, .bool u6d.gNear]) (.cons (cspec_l03Num h405) .nil))) ?_
              refine Wc.fx [.un (.b 4 3)] ⟨[tP 4 4, tI 5 0], [bC 4 (GTerm.q uak), (1000000, .cells [.sl (List.map GSign.c vc.1.gList), aI (wr.i64 (vc.1.gAt + 1)), .bool vc.1.gBad, aI vc.1.gDeep, .slx] (GL06Read.h4_9f vc.1))], []⟩ ?_
              obtain rfl := Option.some.inj h; exact Wc.ret dn
            · refine Wc.cF h403 ?_
              apply Wc.seq
              obtain ⟨us, h406, h⟩ := obind h
              refine Wc.r2 [{}, { r := some (.v (.bool us.2) []), outs := [(0, .p (GL06Read.k2 us.1) (GL06Read.h4_9f us.1))] }] ⟨[tP 0 1000000, tP 4 4, tB 48 us.2], [(4, .cells GTerm.z [(3, .app 41)]), (1000000, .cells (GL06Read.k2 us.1) (GL06Read.h4_9f us.1))], []⟩ (.cons (cspec_l06Read_is h406) .nil) ?_
              rcases oif h with ⟨h407, h⟩ | ⟨h407, h⟩
              · refine Wc.cT h407 ?_
                apply Wc.seq
                refine Wc.r0 ⟨[tP 0 1000000, tP 4 4], [(4, .cells GTerm.z [(3, .app 41)]), (1000000, .cells [.sl (List.map GSign.c us.1.gList), aI (wr.i64 (us.1.gAt + 1)), .bool us.1.gBad, aI us.1.gDeep, .slx] (GL06Read.h4_9f us.1))], []⟩ ?_
                apply Wc.seq
                obtain ⟨u5f, h408, h⟩ := obind h
                obtain ⟨u0h, h409, h⟩ := obind h
                refine Wc.draw hmix [{}, {}, {}, {}, {}, {}, {}, {}, {}, {}, { v := some (.vptr (GSign.q u5f)) }, {}, {}, { r := some (.v (.agg (GTerm.q u0h.2)) [(3, .app 41)]), outs := [(0, .p (GL06Read.k2 u0h.1) (GL06Read.h4_9f u0h.1))] }, { tk := [72] }] [] [4, 5] [4, 1000000] [] ⟨[tP 4 4, tI 5 0], [(4, .cells (GTerm.q u0h.2) [(3, .app 41)]), (1000000, .cells (GL06Read.k2 u0h.1) (GL06Read.h4_9f u0h.1))], []⟩ _ (by kernel_rfl) (fun X => by kernel_rfl) (.cons (at_obl (c := GSign.c) (GSign.c_eq u5f) GSign.c_len h408) (.cons (len_ok 1 [.str u5f.gText, aI u5f.gNum, aI u5f.gAt, .bool u5f.gNear]) (.cons (cspec_l06Read_variable h409) .nil))) ?_
                refine Wc.fx [.un (.b 4 3)] ⟨[tP 4 4, tI 5 0], [bC 4 (GTerm.q u0h.2), (1000000, .cells (GL06Read.k2 u0h.1) (GL06Read.h4_9f u0h.1))], []⟩ ?_
                obtain rfl := Option.some.inj h; exact Wc.ret dn
              · refine Wc.cF h407 ?_
                refine Wc.fx [] ⟨[tP 0 1000000, tP 4 4], [(4, .cells GTerm.z [(3, .app 41)]), (1000000, .cells (GL06Read.k2 us.1) (GL06Read.h4_9f us.1))], []⟩ ?_
                refine Wc.skip ?_
                apply Wc.seq
                refine Wc.r0 ⟨[tP 4 4], [(4, .cells GTerm.z [(3, .app 41)]), (1000000, .cells [.sl (List.map GSign.c us.1.gList), aI us.1.gAt, .bool true, aI us.1.gDeep, .slx] (GL06Read.h4_9f us.1))], []⟩ ?_
                apply Wc.seq
                refine Wc.r1 [{}, { tk := [76] }] ⟨[tP 4 4, tI 5 0], [(4, .cells GTerm.z [(3, .app 41)]), (1000000, .cells [.sl (List.map GSign.c us.1.gList), aI us.1.gAt, .bool true, aI us.1.gDeep, .slx] (GL06Read.h4_9f us.1))], []⟩ ?_
                refine Wc.fx [.un (.b 4 3)] ⟨[tP 4 4, tI 5 0], [bC 4 GTerm.z, (1000000, .cells [.sl (List.map GSign.c us.1.gList), aI us.1.gAt, .bool true, aI us.1.gDeep, .slx] (GL06Read.h4_9f us.1))], []⟩ ?_
                obtain rfl := Option.some.inj h; exact Wc.ret dn
    · intro u07 r h
      rw [pspec_l06Read_round] at h
      refine FnO.o2 Try.func150 (rfl : Try.f150.body = some _) ?_
      intro w0 X0 Fin pv0 pb gt
      apply Wc.seq
      refine Wc.r0 ⟨[tP 0 1000000, tP 2 2], [(2, .cells GTerm.z [(3, .app 41)]), (1000000, .cells (GL06Read.k2 u07) (GL06Read.h4_9f u07))], []⟩ ?_
      apply Wc.seq
      refine Wc.seqJ (fun st => ∃ (uae : Bool) (ve : GL06Read), st = ⟨[tP 0 1000000, tP 2 2, tB 48 uae], [(2, .cells GTerm.z [(3, .app 41)]), (1000000, .cells (GL06Read.k2 ve) (GL06Read.h4_9f ve))], []⟩ ∧ pspec_l06Read_round_J1 k (pspec_l06Read_atom k) (pspec_l06Read_primary k) (pspec_l06Read_round k) (pspec_l06Read_row k) (pspec_l06Read_some k) (pspec_l06Read_term k) uae ve = some r) ?_ ?_
      · obtain ⟨ue, h415, h⟩ := obind h
        rcases oif h with ⟨h416, h⟩ | ⟨h416, h⟩
        · rcases oif h with ⟨h417, h⟩ | ⟨h417, h⟩
          · obtain ⟨u5g, h418, h⟩ := obind h
            rcases oif h with ⟨h419, h⟩ | ⟨h419, h⟩
            · obtain ⟨u4p, h420, h⟩ := obind h
              refine Wc.draw hmix [{}, { r := some (.v (.bool ue.2) []), outs := [(0, .p (GL06Read.k2 ue.1) (GL06Read.h4_9f ue.1))] }, { re := some (.bool true) }, {}, {}, {}, {}, {}, {}, {}, {}, {}, { v := some (aI (ue.1.gList.length : Int)) }, {}, {}, { re := some (.bool true) }, {}, {}, {}, {}, {}, {}, {}, {}, {}, { v := some (.vptr (GSign.q u5g)) }, {}, {}, {}, {}, { re := some (.bool true) }, {}, {}, {}, {}, {}, {}, {}, {}, {}, { v := some (.vptr (GSign.q u4p)) }] [] [0, 2, 48] [2, 1000000] [] ⟨[tP 0 1000000, tP 2 2, tB 48 (sEq u4p.gText (bs [41]))], [(2, .cells GTerm.z [(3, .app 41)]), (1000000, .cells (GL06Read.k2 ue.1) (GL06Read.h4_9f ue.1))], []⟩ _ (by kernel_rfl) (fun X => by kernel_rfl) (.cons (cspec_l06Read_is h415) (.cons (congrArg AV.bool h416) (.cons (len_obl GSign.c ue.1.gList) (.cons (congrArg AV.bool h417) (.cons (at_obl (c := GSign.c) (GSign.c_eq u5g) GSign.c_len h418) (.cons (len_ok 1 (GSign.q u5g)) (.cons (congrArg AV.bool h419) (.cons (at_obl (c := GSign.c) (GSign.c_eq u4p) GSign.c_len h420) (.cons (len_ok 1 [.str u4p.gText, aI u4p.gNum, aI u4p.gAt, .bool u4p.gNear]) .nil))))))))) ?_
              exact ⟨_, _, rfl, h⟩
            · refine Wc.draw hmix [{}, { r := some (.v (.bool ue.2) []), outs := [(0, .p (GL06Read.k2 ue.1) (GL06Read.h4_9f ue.1))] }, { re := some (.bool true) }, {}, {}, {}, {}, {}, {}, {}, {}, {}, { v := some (aI (ue.1.gList.length : Int)) }, {}, {}, { re := some (.bool true) }, {}, {}, {}, {}, {}, {}, {}, {}, {}, { v := some (.vptr (GSign.q u5g)) }, {}, {}, {}, {}, { re := some (.bool false) }] [] [0, 2, 48] [2, 1000000] [] ⟨[tP 0 1000000, tP 2 2, tB 48 false], [(2, .cells GTerm.z [(3, .app 41)]), (1000000, .cells (GL06Read.k2 ue.1) (GL06Read.h4_9f ue.1))], []⟩ _ (by kernel_rfl) (fun X => by kernel_rfl) (.cons (cspec_l06Read_is h415) (.cons (congrArg AV.bool h416) (.cons (len_obl GSign.c ue.1.gList) (.cons (congrArg AV.bool h417) (.cons (at_obl (c := GSign.c) (GSign.c_eq u5g) GSign.c_len h418) (.cons (len_ok 1 (GSign.q u5g)) (.cons (congrArg AV.bool h419) .nil))))))) ?_
              exact ⟨_, _, rfl, h⟩
          · refine Wc.draw hmix [{}, { r := some (.v (.bool ue.2) []), outs := [(0, .p (GL06Read.k2 ue.1) (GL06Read.h4_9f ue.1))] }, { re := some (.bool true) }, {}, {}, {}, {}, {}, {}, {}, {}, {}, { v := some (aI (ue.1.gList.length : Int)) }, {}, {}, { re := some (.bool false) }] [] [0, 2, 48] [2, 1000000] [] ⟨[tP 0 1000000, tP 2 2, tB 48 false], [(2, .cells GTerm.z [(3, .app 41)]), (1000000, .cells (GL06Read.k2 ue.1) (GL06Read.h4_9f ue.1))], []⟩ _ (by kernel_rfl) (fun X => by kernel_rfl) (.cons (cspec_l06Read_is h415) (.cons (congrArg AV.bool h416) (.cons (len_obl GSign.c ue.1.gList) (.cons (congrArg AV.bool h417) .nil)))) ?_
            exact ⟨_, _, rfl, h⟩
        · refine Wc.draw hmix [{}, { r := some (.v (.bool ue.2) []), outs := [(0, .p (GL06Read.k2 ue.1) (GL06Read.h4_9f ue.1))] }, { re := some (.bool false) }] [] [0, 2, 48] [2, 1000000] [] ⟨[tP 0 1000000, tP 2 2, tB 48 false], [(2, .cells GTerm.z [(3, .app 41)]), (1000000, .cells (GL06Read.k2 ue.1) (GL06Read.h4_9f ue.1))], []⟩ _ (by kernel_rfl) (fun X => by kernel_rfl) (.cons (cspec_l06Read_is h415) (.cons (congrArg AV.bool h416) .nil)) ?_
          exact ⟨_, _, rfl, h⟩
      · rintro st ⟨uae, ve, rfl, h⟩
        rcases oif h with ⟨h410, h⟩ | ⟨h410, h⟩
        · refine Wc.cT h410 ?_
          apply Wc.seq
          refine Wc.r0 ⟨[tP 0 1000000, tP 2 2], [(2, .cells GTerm.z [(3, .app 41)]), (1000000, .cells [.sl (List.map GSign.c ve.gList), aI (wr.i64 (ve.gAt + 2)), .bool ve.gBad, aI ve.gDeep, .slx] (GL06Read.h4_9f ve))], []⟩ ?_
          apply Wc.seq
          obtain ⟨u5e, h411, h⟩ := obind h
          obtain ⟨uaf, h412, h⟩ := obind h
          refine Wc.draw hmix [{}, {}, {}, {}, {}, {}, {}, {}, {}, { v := some (.vptr (GSign.q u5e)) }, {}, {}, { r := some (.v (.agg (GTerm.q uaf)) [(3, .app 41)]) }, { tk := [69] }] [] [2] [2, 1000000] [] ⟨[tP 2 2], [(2, .cells (GTerm.q uaf) [(3, .app 41)]), (1000000, .cells [.sl (List.map GSign.c ve.gList), aI (wr.i64 (ve.gAt + 2)), .bool ve.gBad, aI ve.gDeep, .slx] (GL06Read.h4_9f ve))], []⟩ _ (by kernel_rfl) (fun X => by kernel_rfl) (.cons (at_obl (c := GSign.c) (GSign.c_eq u5e) GSign.c_len h411) (.cons (len_ok 1 [.str u5e.gText, aI u5e.gNum, aI u5e.gAt, .bool u5e.gNear]) (.cons (cspec_l03Atom h412) .nil))) ?_
          refine Wc.fx [.un (.b 2 3)] ⟨[tP 2 2], [bC 2 (GTerm.q uaf), (1000000, .cells [.sl (List.map GSign.c ve.gList), aI (wr.i64 (ve.gAt + 2)), .bool ve.gBad, aI ve.gDeep, .slx] (GL06Read.h4_9f ve))], []⟩ ?_
          obtain rfl := Option.some.inj h; exact Wc.ret dn
        · refine Wc.cF h410 ?_
          refine Wc.fx [] ⟨[tP 0 1000000, tP 2 2], [(2, .cells GTerm.z [(3, .app 41)]), (1000000, .cells (GL06Read.k2 ve) (GL06Read.h4_9f ve))], []⟩ ?_
          refine Wc.skip ?_
          apply Wc.seq
          obtain ⟨u17, h413, h⟩ := obind h
          refine Wc.r2 [{}, { r := some (.v (.agg (GTerm.q u17.2)) []), outs := [(0, .p (GL06Read.k2 u17.1) (GL06Read.h4_9f u17.1))] }] ⟨[tP 0 1000000, tP 2 2, tP 3 3], [(2, .cells GTerm.z [(3, .app 41)]), bC 3 (GTerm.q u17.2), (1000000, .cells (GL06Read.k2 u17.1) (GL06Read.h4_9f u17.1))], []⟩ (.cons (ih_pspec_l06Read_term h413) .nil) ?_
          apply Wc.seq
          obtain ⟨u18, h414, h⟩ := obind h
          refine Wc.r2 [{}, { r := some (.v (.tup []) []), outs := [(0, .p (GL06Read.k2 u18) (GL06Read.h4_9f u18))] }] ⟨[tP 2 2, tP 3 3], [(2, .cells GTerm.z [(3, .app 41)]), bC 3 (GTerm.q u17.2), (1000000, .cells (GL06Read.k2 u18) (GL06Read.h4_9f u18))], []⟩ (.cons (cspec_l06Read_wants h414) .nil) ?_
          apply Wc.seq
          refine Wc.r0 ⟨[tP 2 2], [bC 2 (GTerm.q u17.2), (1000000, .cells (GL06Read.k2 u18) (GL06Read.h4_9f u18))], []⟩ ?_
          obtain rfl := Option.some.inj h; exact Wc.ret dn
    · intro u08 r h
      rw [pspec_l06Read_row] at h
      refine FnO.o2 Try.func151 (rfl : Try.f151.body = some _) ?_
      intro w0 X0 Fin pv0 pb gt
      apply Wc.seq
      refine Wc.r0 ⟨[tP 0 1000000, tP 2 2], [(2, .cells GTerm.z [(3, .app 41)]), (1000000, .cells (GL06Read.k2 u08) (GL06Read.h4_9f u08))], []⟩ ?_
      apply Wc.seq
      apply Wc.seq
      obtain ⟨v4, h421, h⟩ := obind h
      refine Wc.r2 [{}, { r := some (.v (.bool v4.2) []), outs := [(0, .p (GL06Read.k2 v4.1) (GL06Read.h4_9f v4.1))] }] ⟨[tP 0 1000000, tP 2 2, tB 7 v4.2], [(2, .cells GTerm.z [(3, .app 41)]), (1000000, .cells (GL06Read.k2 v4.1) (GL06Read.h4_9f v4.1))], []⟩ (.cons (cspec_l06Read_mark h421) .nil) ?_
      rcases oif h with ⟨h422, h⟩ | ⟨h422, h⟩
      · refine Wc.cT h422 ?_
        apply Wc.seq
        obtain ⟨ual, h423, h⟩ := obind h
        refine Wc.r2 [{ r := some (.v (.agg (GTerm.q ual)) [(3, .app 41)]) }, { tk := [8] }] ⟨[tP 2 2], [(2, .cells (GTerm.q ual) [(3, .app 41)]), (1000000, .cells (GL06Read.k2 v4.1) (GL06Read.h4_9f v4.1))], []⟩ (.cons (cspec_l03Atom h423) .nil) ?_
        refine Wc.fx [.un (.b 2 3)] ⟨[tP 2 2], [bC 2 (GTerm.q ual), (1000000, .cells (GL06Read.k2 v4.1) (GL06Read.h4_9f v4.1))], []⟩ ?_
        obtain rfl := Option.some.inj h; exact Wc.ret dn
      · refine Wc.cF h422 ?_
        refine Wc.fx [] ⟨[tP 0 1000000, tP 2 2], [(2, .cells GTerm.z [(3, .app 41)]), (1000000, .cells (GL06Read.k2 v4.1) (GL06Read.h4_9f v4.1))], []⟩ ?_
        refine Wc.skip ?_
        apply Wc.seq
        refine Wc.r2 [{ c := some (List.map GTerm.c []) }, { tk := [9] }] ⟨[tP 0 1000000, tP 2 2, (3, (.v (.sl (List.map GTerm.c [])), [(0, .app 41)]))], [(2, .cells GTerm.z [(3, .app 41)]), (1000000, .cells (GL06Read.k2 v4.1) (GL06Read.h4_9f v4.1))], []⟩ (.cons (cl_nil GTerm.c) .nil) ?_
        apply Wc.seq
        obtain ⟨u0l, h424, h⟩ := obind h
        refine Wc.r2 [{ r := some (.v (.agg (GTerm.q u0l)) [(3, .app 41)]) }, {}, { tk := [10] }] ⟨[tP 0 1000000, tP 2 2, (3, (.v (.sl (List.map GTerm.c [])), [(0, .app 41)])), tP 4 4], [(2, .cells GTerm.z [(3, .app 41)]), (4, .cells (GTerm.q u0l) [(3, .app 41)]), (1000000, .cells (GL06Read.k2 v4.1) (GL06Read.h4_9f v4.1))], []⟩ (.cons (cspec_l03Atom h424) .nil) ?_
        obtain ⟨out1, h425, h⟩ := obind h
        refine Wc.seqJ (fun st => ∃ (u0s : List GTerm) (u7o : GTerm) (um : GL06Read), out1 = .done (u0s, u7o, um) ∧ st = ⟨[tP 2 2, (3, (.v (.sl (List.map GTerm.c u0s)), [(0, .app 41)])), tP 4 4], [(2, .cells GTerm.z [(3, .app 41)]), bC 4 (GTerm.q u7o), (1000000, .cells (GL06Read.k2 um) (GL06Read.h4_9f um))], []⟩) ?_ ?_
        · refine Wc.block ?_
          refine Wc.loop (fun m st => ∃ (zt : List GTerm) (z7 : GL06Read), st = ⟨[tP 0 1000000, tP 2 2, (3, (.v (.sl (List.map GTerm.c zt)), [(0, .app 41)])), tP 4 4], [(2, .cells GTerm.z [(3, .app 41)]), (4, .cells (GTerm.q u0l) [(3, .app 41)]), (1000000, .cells (GL06Read.k2 z7) (GL06Read.h4_9f z7))], []⟩ ∧ pspec_l06Read_row_L1 k (pspec_l06Read_atom k) (pspec_l06Read_primary k) (pspec_l06Read_round k) (pspec_l06Read_row k) (pspec_l06Read_some k) (pspec_l06Read_term k) u0l m zt z7 = some out1) ?_ k ⟨_, _, rfl, h425⟩
          rintro m st ⟨zt, z7, rfl, h425⟩
          cases m with
          | zero => exact (onone h425).elim
          | succ m =>
            apply Wc.seq
            apply Wc.seq
            refine Wc.r0 ⟨[tP 0 1000000, tP 2 2, (3, (.v (.sl (List.map GTerm.c zt)), [(0, .app 41)])), tP 4 4, tB 15 (!z7.gBad)], [(2, .cells GTerm.z [(3, .app 41)]), (4, .cells (GTerm.q u0l) [(3, .app 41)]), (1000000, .cells (GL06Read.k2 z7) (GL06Read.h4_9f z7))], []⟩ ?_
            rcases oif h425 with ⟨h426, h425⟩ | ⟨h426, h425⟩
            · refine Wc.cT h426 ?_
              refine Wc.fx [] ⟨[tP 0 1000000, tP 2 2, (3, (.v (.sl (List.map GTerm.c zt)), [(0, .app 41)])), tP 4 4], [(2, .cells GTerm.z [(3, .app 41)]), (4, .cells (GTerm.q u0l) [(3, .app 41)]), (1000000, .cells (GL06Read.k2 z7) (GL06Read.h4_9f z7))], []⟩ ?_
              refine Wc.skip ?_
              refine Wc.block ?_
              apply Wc.seq
              obtain ⟨vj, h427, h425⟩ := obind h425
              obtain ⟨h428, h425⟩ := oguard h425
              refine Wc.r2 [{ tk := [3] }, {}, { r := some (.v (.agg (GTerm.q vj.2)) []), outs := [(0, .p (GL06Read.k2 vj.1) (GL06Read.h4_9f vj.1))] }, { c := some (List.map GTerm.c [vj.2]) }, { c := some (List.map GTerm.c (zt ++ [vj.2])), tk := [16] }, { tk := [20] }] ⟨[tP 0 1000000, tP 2 2, (3, (.v (.sl (List.map GTerm.c (zt ++ [vj.2]))), [(0, .app 41)])), tP 4 4], [(2, .cells GTerm.z [(3, .app 41)]), (4, .cells (GTerm.q u0l) [(3, .app 41)]), (1000000, .cells (GL06Read.k2 vj.1) (GL06Read.h4_9f vj.1))], []⟩ (.cons (ih_pspec_l06Read_term h427) (.cons (cl_cons (c := GTerm.c) (x := vj.2) (GTerm.c_eq vj.2) (cl_nil GTerm.c)) (.cons (app_re2 GTerm.c zt [vj.2]) (.cons (app_leaf (c := GTerm.c) (ys := [vj.2]) GTerm.c_leaf) (.cons (app_obl2 (c := GTerm.c) (xs := zt) (ys := [vj.2]) GTerm.c_len h428) .nil))))) ?_
              apply Wc.seq
              apply Wc.seq
              obtain ⟨zf, h429, h425⟩ := obind h425
              refine Wc.r2 [{}, { r := some (.v (.bool zf.2) []), outs := [(0, .p (GL06Read.k2 zf.1) (GL06Read.h4_9f zf.1))] }] ⟨[tP 0 1000000, tP 2 2, (3, (.v (.sl (List.map GTerm.c (zt ++ [vj.2]))), [(0, .app 41)])), tP 4 4, tB 22 zf.2], [(2, .cells GTerm.z [(3, .app 41)]), (4, .cells (GTerm.q u0l) [(3, .app 41)]), (1000000, .cells (GL06Read.k2 zf.1) (GL06Read.h4_9f zf.1))], []⟩ (.cons (cspec_l06Read_mark h429) .nil) ?_
              rcases oif h425 with ⟨h430, h425⟩ | ⟨h430, h425⟩
              · refine Wc.cT h430 ?_
                refine Wc.fx [.un (.b 4 3)] ⟨[tP 2 2, (3, (.v (.sl (List.map GTerm.c (zt ++ [vj.2]))), [(0, .app 41)])), tP 4 4], [(2, .cells GTerm.z [(3, .app 41)]), bC 4 (GTerm.q u0l), (1000000, .cells (GL06Read.k2 zf.1) (GL06Read.h4_9f zf.1))], []⟩ ?_
                refine Wc.exit ?_
                obtain rfl := Option.some.inj h425
                exact ⟨_, _, _, rfl, rfl⟩
              · refine Wc.cF h430 ?_
                refine Wc.fx [] ⟨[tP 0 1000000, tP 2 2, (3, (.v (.sl (List.map GTerm.c (zt ++ [vj.2]))), [(0, .app 41)])), tP 4 4], [(2, .cells GTerm.z [(3, .app 41)]), (4, .cells (GTerm.q u0l) [(3, .app 41)]), (1000000, .cells (GL06Read.k2 zf.1) (GL06Read.h4_9f zf.1))], []⟩ ?_
                refine Wc.skip ?_
                apply Wc.seq
                apply Wc.seq
                obtain ⟨u0f, h431, h425⟩ := obind h425
                refine Wc.r2 [{}, { r := some (.v (.bool u0f.2) []), outs := [(0, .p (GL06Read.k2 u0f.1) (GL06Read.h4_9f u0f.1))] }] ⟨[tP 0 1000000, tP 2 2, (3, (.v (.sl (List.map GTerm.c (zt ++ [vj.2]))), [(0, .app 41)])), tP 4 4, tB 24 u0f.2], [(2, .cells GTerm.z [(3, .app 41)]), (4, .cells (GTerm.q u0l) [(3, .app 41)]), (1000000, .cells (GL06Read.k2 u0f.1) (GL06Read.h4_9f u0f.1))], []⟩ (.cons (cspec_l06Read_mark h431) .nil) ?_
                rcases oif h425 with ⟨h432, h425⟩ | ⟨h432, h425⟩
                · refine Wc.cT h432 ?_
                  apply Wc.seq
                  obtain ⟨u1m, h433, h425⟩ := obind h425
                  refine Wc.r2 [{}, { r := some (.v (.agg (GTerm.q u1m.2)) []), outs := [(0, .p (GL06Read.k2 u1m.1) (GL06Read.h4_9f u1m.1))] }] ⟨[tP 0 1000000, tP 2 2, (3, (.v (.sl (List.map GTerm.c (zt ++ [vj.2]))), [(0, .app 41)])), tP 4 4], [(2, .cells GTerm.z [(3, .app 41)]), bC 4 (GTerm.q u1m.2), (1000000, .cells (GL06Read.k2 u1m.1) (GL06Read.h4_9f u1m.1))], []⟩ (.cons (ih_pspec_l06Read_term h433) .nil) ?_
                  apply Wc.seq
                  obtain ⟨u39, h434, h425⟩ := obind h425
                  refine Wc.r2 [{}, { r := some (.v (.tup []) []), outs := [(0, .p (GL06Read.k2 u39) (GL06Read.h4_9f u39))] }] ⟨[tP 2 2, (3, (.v (.sl (List.map GTerm.c (zt ++ [vj.2]))), [(0, .app 41)])), tP 4 4], [(2, .cells GTerm.z [(3, .app 41)]), bC 4 (GTerm.q u1m.2), (1000000, .cells (GL06Read.k2 u39) (GL06Read.h4_9f u39))], []⟩ (.cons (cspec_l06Read_wants h434) .nil) ?_
                  refine Wc.exit ?_
                  obtain rfl := Option.some.inj h425
                  exact ⟨_, _, _, rfl, rfl⟩
                · refine Wc.cF h432 ?_
                  refine Wc.fx [] ⟨[tP 0 1000000, tP 2 2, (3, (.v (.sl (List.map GTerm.c (zt ++ [vj.2]))), [(0, .app 41)])), tP 4 4], [(2, .cells GTerm.z [(3, .app 41)]), (4, .cells (GTerm.q u0l) [(3, .app 41)]), (1000000, .cells (GL06Read.k2 u0f.1) (GL06Read.h4_9f u0f.1))], []⟩ ?_
                  refine Wc.skip ?_
                  obtain ⟨u3a, h435, h425⟩ := obind h425
                  refine Wc.r2 [{}, { r := some (.v (.tup []) []), outs := [(0, .p (GL06Read.k2 u3a) (GL06Read.h4_9f u3a))] }] ⟨[tP 0 1000000, tP 2 2, (3, (.v (.sl (List.map GTerm.c (zt ++ [vj.2]))), [(0, .app 41)])), tP 4 4], [(2, .cells GTerm.z [(3, .app 41)]), (4, .cells (GTerm.q u0l) [(3, .app 41)]), (1000000, .cells (GL06Read.k2 u3a) (GL06Read.h4_9f u3a))], []⟩ (.cons (cspec_l06Read_wants h435) .nil) ?_
                  exact ⟨_, Nat.lt_succ_self _, _, _, rfl, h425⟩
            · refine Wc.cF h426 ?_
              refine Wc.fx [.un (.b 4 3)] ⟨[tP 2 2, (3, (.v (.sl (List.map GTerm.c zt)), [(0, .app 41)])), tP 4 4], [(2, .cells GTerm.z [(3, .app 41)]), bC 4 (GTerm.q u0l), (1000000, .cells (GL06Read.k2 z7) (GL06Read.h4_9f z7))], []⟩ ?_
              refine Wc.exit ?_
              obtain rfl := Option.some.inj h425
              exact ⟨_, _, _, rfl, rfl⟩
        · rintro st ⟨u0s, u7o, um, rfl, rfl⟩
          apply Wc.seq
          apply Wc.seq
          refine Wc.r2 [{}, { v := some (aI (u0s.length : Int)) }] ⟨[tP 2 2, (3, (.v (.sl (List.map GTerm.c u0s)), [(0, .app 41)])), tP 4 4, tI 5 (wr.i64 ((u0s.length : Int) - 1))], [(2, .cells GTerm.z [(3, .app 41)]), bC 4 (GTerm.q u7o), (1000000, .cells (GL06Read.k2 um) (GL06Read.h4_9f um))], []⟩ (.cons (len_obl GTerm.c u0s) .nil) ?_
          obtain ⟨out2, h436, h⟩ := obind h
          refine Wc.lastJ (fun st => ∃ (u7p : GTerm), out2 = .done u7p ∧ st = ⟨[tP 2 2, tP 4 4], [(2, .cells GTerm.z [(3, .app 41)]), bC 4 (GTerm.q u7p), (1000000, .cells (GL06Read.k2 um) (GL06Read.h4_9f um))], []⟩) ?_ ?_
          · refine Wc.block ?_
            refine Wc.loop (fun m st => ∃ (u3b : Int) (u4n : GTerm), st = ⟨[tP 2 2, (3, (.v (.sl (List.map GTerm.c u0s)), [(0, .app 41)])), tP 4 4, tI 5 u3b], [(2, .cells GTerm.z [(3, .app 41)]), bC 4 (GTerm.q u4n), (1000000, .cells (GL06Read.k2 um) (GL06Read.h4_9f um))], []⟩ ∧ pspec_l06Read_row_L2 k (pspec_l06Read_atom k) (pspec_l06Read_primary k) (pspec_l06Read_round k) (pspec_l06Read_row k) (pspec_l06Read_some k) (pspec_l06Read_term k) u0s m u3b u4n = some out2) ?_ k ⟨_, _, rfl, h436⟩
            rintro m st ⟨u3b, u4n, rfl, h436⟩
            cases m with
            | zero => exact (onone h436).elim
            | succ m =>
              apply Wc.seq
              apply Wc.seq
              refine Wc.r0 ⟨[tP 2 2, (3, (.v (.sl (List.map GTerm.c u0s)), [(0, .app 41)])), tP 4 4, tI 5 u3b, tB 35 (decide (u3b ≥ 0))], [(2, .cells GTerm.z [(3, .app 41)]), bC 4 (GTerm.q u4n), (1000000, .cells (GL06Read.k2 um) (GL06Read.h4_9f um))], []⟩ ?_
              rcases oif h436 with ⟨h437, h436⟩ | ⟨h437, h436⟩
              · refine Wc.cT h437 ?_
                refine Wc.fx [] ⟨[tP 2 2, (3, (.v (.sl (List.map GTerm.c u0s)), [(0, .app 41)])), tP 4 4, tI 5 u3b], [(2, .cells GTerm.z [(3, .app 41)]), bC 4 (GTerm.q u4n), (1000000, .cells (GL06Read.k2 um) (GL06Read.h4_9f um))], []⟩ ?_
                refine Wc.skip ?_
                apply Wc.seq
                refine Wc.block ?_
                obtain ⟨uag, h438, h436⟩ := obind h436
                obtain ⟨uah, h439, h436⟩ := obind h436
                refine Wc.draw hmix [{}, {}, { v := some (.vptr (GTerm.q uag)) }, {}, {}, { r := some (.v (.agg (GTerm.q uah)) [(3, .app 41)]) }, { tk := [43] }] [] [2, 3, 4, 5] [2, 4, 1000000] [] ⟨[tP 2 2, (3, (.v (.sl (List.map GTerm.c u0s)), [(0, .app 41)])), tP 4 4, tI 5 u3b], [(2, .cells GTerm.z [(3, .app 41)]), (4, .cells (GTerm.q uah) [(3, .app 41)]), (1000000, .cells (GL06Read.k2 um) (GL06Read.h4_9f um))], []⟩ _ (by kernel_rfl) (fun X => by kernel_rfl) (.cons (at_obl (c := GTerm.c) (GTerm.c_eq uag) GTerm.c_len h438) (.cons (len_ok 4 (GTerm.q uag)) (.cons (cspec_l03Two h439) .nil))) ?_
                refine Wc.r3 [] [.un (.b 4 3)] ⟨[tP 2 2, (3, (.v (.sl (List.map GTerm.c u0s)), [(0, .app 41)])), tP 4 4, tI 5 (wr.i64 (u3b - 1))], [(2, .cells GTerm.z [(3, .app 41)]), bC 4 (GTerm.q uah), (1000000, .cells (GL06Read.k2 um) (GL06Read.h4_9f um))], []⟩ .nil ?_
                exact ⟨_, Nat.lt_succ_self _, _, _, rfl, h436⟩
              · refine Wc.cF h437 ?_
                refine Wc.fx [] ⟨[tP 2 2, tP 4 4], [(2, .cells GTerm.z [(3, .app 41)]), bC 4 (GTerm.q u4n), (1000000, .cells (GL06Read.k2 um) (GL06Read.h4_9f um))], []⟩ ?_
                refine Wc.exit ?_
                obtain rfl := Option.some.inj h436
                exact ⟨_, rfl, rfl⟩
          · rintro st ⟨u7p, rfl, rfl⟩
            apply Wc.seq
            refine Wc.r0 ⟨[tP 2 2], [bC 2 (GTerm.q u7p), (1000000, .cells (GL06Read.k2 um) (GL06Read.h4_9f um))], []⟩ ?_
            obtain rfl := Option.some.inj h; exact Wc.ret dn
    · intro za u3p r h
      rw [pspec_l06Read_some] at h
      refine FnO.o2 Try.func156 (rfl : Try.f156.body = some _) ?_
      intro w0 X0 Fin pv0 pb gt
      apply Wc.seq
      refine Wc.r0 ⟨[tP 0 1000000, tS 1 u3p, tP 4 4], [(4, .cells GTerm.z [(3, .app 41)]), (1000000, .cells (GL06Read.k2 za) (GL06Read.h4_9f za))], []⟩ ?_
      apply Wc.seq
      refine Wc.r1 [{}, {}, {}, { tk := [8] }] ⟨[tP 0 1000000, tP 4 4, tP 5 5], [(4, .cells GTerm.z [(3, .app 41)]), (5, .cells [aI 4, .str u3p, aI 0, .sl (List.map GTerm.c [])] [(3, .app 41)]), (1000000, .cells (GL06Read.k2 za) (GL06Read.h4_9f za))], []⟩ ?_
      obtain ⟨out1, h440, h⟩ := obind h
      refine Wc.seqJ (fun st => ∃ (u7q : GTerm) (u2h : GL06Read), out1 = .done (u7q, u2h) ∧ st = ⟨[tP 4 4, tP 5 5], [(4, .cells GTerm.z [(3, .app 41)]), (5, .cells (GTerm.q u7q) [(3, .app 41)]), (1000000, .cells (GL06Read.k2 u2h) (GL06Read.h4_9f u2h))], []⟩) ?_ ?_
      · refine Wc.block ?_
        refine Wc.loop (fun m st => ∃ (up : GTerm) (z8 : GL06Read), st = ⟨[tP 0 1000000, tP 4 4, tP 5 5], [(4, .cells GTerm.z [(3, .app 41)]), (5, .cells (GTerm.q up) [(3, .app 41)]), (1000000, .cells (GL06Read.k2 z8) (GL06Read.h4_9f z8))], []⟩ ∧ pspec_l06Read_some_L1 k (pspec_l06Read_atom k) (pspec_l06Read_primary k) (pspec_l06Read_round k) (pspec_l06Read_row k) (pspec_l06Read_some k) (pspec_l06Read_term k) m up z8 = some out1) ?_ k ⟨_, _, rfl, h440⟩
        rintro m st ⟨up, z8, rfl, h440⟩
        cases m with
        | zero => exact (onone h440).elim
        | succ m =>
          apply Wc.seq
          apply Wc.seq
          refine Wc.r0 ⟨[tP 0 1000000, tP 4 4, tP 5 5, tB 13 (!z8.gBad)], [(4, .cells GTerm.z [(3, .app 41)]), (5, .cells (GTerm.q up) [(3, .app 41)]), (1000000, .cells (GL06Read.k2 z8) (GL06Read.h4_9f z8))], []⟩ ?_
          rcases oif h440 with ⟨h441, h440⟩ | ⟨h441, h440⟩
          · refine Wc.cT h441 ?_
            refine Wc.fx [] ⟨[tP 0 1000000, tP 4 4, tP 5 5], [(4, .cells GTerm.z [(3, .app 41)]), (5, .cells (GTerm.q up) [(3, .app 41)]), (1000000, .cells (GL06Read.k2 z8) (GL06Read.h4_9f z8))], []⟩ ?_
            refine Wc.skip ?_
            refine Wc.block ?_
            apply Wc.seq
            obtain ⟨ul, h442, h440⟩ := obind h440
            refine Wc.r2 [{}, { r := some (.v (.agg (GTerm.q ul.2)) []), outs := [(0, .p (GL06Read.k2 ul.1) (GL06Read.h4_9f ul.1))] }] ⟨[tP 0 1000000, tP 4 4, tP 5 5, tP 6 6], [(4, .cells GTerm.z [(3, .app 41)]), (5, .cells (GTerm.q up) [(3, .app 41)]), bC 6 (GTerm.q ul.2), (1000000, .cells (GL06Read.k2 ul.1) (GL06Read.h4_9f ul.1))], []⟩ (.cons (ih_pspec_l06Read_term h442) .nil) ?_
            apply Wc.seq
            apply Wc.seq
            refine Wc.r2 [{}, {}, { v := some (aI (up.gKids.length : Int)) }] ⟨[tP 0 1000000, tP 4 4, tP 5 5, tP 6 6, tB 19 (decide ((up.gKids.length : Int) ≥ 5))], [(4, .cells GTerm.z [(3, .app 41)]), (5, .cells (GTerm.q up) [(3, .app 41)]), bC 6 (GTerm.q ul.2), (1000000, .cells (GL06Read.k2 ul.1) (GL06Read.h4_9f ul.1))], []⟩ (.cons (len_obl GTerm.c up.gKids) .nil) ?_
            rcases oif h440 with ⟨h443, h440⟩ | ⟨h443, h440⟩
            · refine Wc.cT h443 ?_
              apply Wc.seq
              refine Wc.r0 ⟨[tP 4 4, tP 5 5], [(4, .cells GTerm.z [(3, .app 41)]), (5, .cells (GTerm.q up) [(3, .app 41)]), (1000000, .cells [.sl (List.map GSign.c ul.1.gList), aI ul.1.gAt, .bool true, aI ul.1.gDeep, .slx] (GL06Read.h4_9f ul.1))], []⟩ ?_
              refine Wc.exit ?_
              obtain rfl := Option.some.inj h440
              exact ⟨_, _, rfl, rfl⟩
            · refine Wc.cF h443 ?_
              refine Wc.fx [] ⟨[tP 0 1000000, tP 4 4, tP 5 5, tP 6 6], [(4, .cells GTerm.z [(3, .app 41)]), (5, .cells (GTerm.q up) [(3, .app 41)]), bC 6 (GTerm.q ul.2), (1000000, .cells (GL06Read.k2 ul.1) (GL06Read.h4_9f ul.1))], []⟩ ?_
              refine Wc.skip ?_
              apply Wc.seq
              obtain ⟨h444, h440⟩ := oguard h440
              refine Wc.r2 [{}, { md := 1 }, {}, { c := some (List.map GTerm.c [ul.2]) }, { c := some (List.map GTerm.c (up.gKids ++ [ul.2])), tk := [24] }, {}, { tk := [27] }] ⟨[tP 0 1000000, tP 4 4, tP 5 5], [(4, .cells GTerm.z [(3, .app 41)]), (5, .cells [aI up.gKind, .str up.gName, aI up.gNum, .sl (List.map GTerm.c (up.gKids ++ [ul.2]))] [(3, .app 41)]), (1000000, .cells (GL06Read.k2 ul.1) (GL06Read.h4_9f ul.1))], []⟩ (.cons (cl_cons (c := GTerm.c) (x := ul.2) (GTerm.c_eq ul.2) (cl_nil GTerm.c)) (.cons (app_re2 GTerm.c up.gKids [ul.2]) (.cons (app_leaf (c := GTerm.c) (ys := [ul.2]) GTerm.c_leaf) (.cons (app_obl2 (c := GTerm.c) (xs := up.gKids) (ys := [ul.2]) GTerm.c_len h444) .nil)))) ?_
              apply Wc.seq
              apply Wc.seq
              obtain ⟨zg, h445, h440⟩ := obind h440
              refine Wc.r2 [{}, { r := some (.v (.bool zg.2) []), outs := [(0, .p (GL06Read.k2 zg.1) (GL06Read.h4_9f zg.1))] }] ⟨[tP 0 1000000, tP 4 4, tP 5 5, tB 30 zg.2], [(4, .cells GTerm.z [(3, .app 41)]), (5, .cells [aI up.gKind, .str up.gName, aI up.gNum, .sl (List.map GTerm.c (up.gKids ++ [ul.2]))] [(3, .app 41)]), (1000000, .cells (GL06Read.k2 zg.1) (GL06Read.h4_9f zg.1))], []⟩ (.cons (cspec_l06Read_mark h445) .nil) ?_
              rcases oif h440 with ⟨h446, h440⟩ | ⟨h446, h440⟩
              · refine Wc.cT h446 ?_
                refine Wc.fx [] ⟨[tP 4 4, tP 5 5], [(4, .cells GTerm.z [(3, .app 41)]), (5, .cells [aI up.gKind, .str up.gName, aI up.gNum, .sl (List.map GTerm.c (up.gKids ++ [ul.2]))] [(3, .app 41)]), (1000000, .cells (GL06Read.k2 zg.1) (GL06Read.h4_9f zg.1))], []⟩ ?_
                refine Wc.exit ?_
                obtain rfl := Option.some.inj h440
                exact ⟨_, _, rfl, rfl⟩
              · refine Wc.cF h446 ?_
                refine Wc.fx [] ⟨[tP 0 1000000, tP 4 4, tP 5 5], [(4, .cells GTerm.z [(3, .app 41)]), (5, .cells [aI up.gKind, .str up.gName, aI up.gNum, .sl (List.map GTerm.c (up.gKids ++ [ul.2]))] [(3, .app 41)]), (1000000, .cells (GL06Read.k2 zg.1) (GL06Read.h4_9f zg.1))], []⟩ ?_
                refine Wc.skip ?_
                obtain ⟨u3c, h447, h440⟩ := obind h440
                refine Wc.r2 [{}, { r := some (.v (.tup []) []), outs := [(0, .p (GL06Read.k2 u3c) (GL06Read.h4_9f u3c))] }] ⟨[tP 0 1000000, tP 4 4, tP 5 5], [(4, .cells GTerm.z [(3, .app 41)]), (5, .cells [aI up.gKind, .str up.gName, aI up.gNum, .sl (List.map GTerm.c (up.gKids ++ [ul.2]))] [(3, .app 41)]), (1000000, .cells (GL06Read.k2 u3c) (GL06Read.h4_9f u3c))], []⟩ (.cons (cspec_l06Read_wants h447) .nil) ?_
                exact ⟨_, Nat.lt_succ_self _, _, _, rfl, h440⟩
          · refine Wc.cF h441 ?_
            refine Wc.fx [] ⟨[tP 4 4, tP 5 5], [(4, .cells GTerm.z [(3, .app 41)]), (5, .cells (GTerm.q up) [(3, .app 41)]), (1000000, .cells (GL06Read.k2 z8) (GL06Read.h4_9f z8))], []⟩ ?_
            refine Wc.exit ?_
            obtain rfl := Option.some.inj h440
            exact ⟨_, _, rfl, rfl⟩
      · rintro st ⟨u7q, u2h, rfl, rfl⟩
        apply Wc.seq
        refine Wc.r1 [{ md := 1 }, { tk := [33] }] ⟨[tP 4 4], [(4, .cells (GTerm.q u7q) [(3, .app 41)]), (1000000, .cells (GL06Read.k2 u2h) (GL06Read.h4_9f u2h))], []⟩ ?_
        obtain rfl := Option.some.inj h; exact Wc.ret dn
    · intro ua vb r h
      rw [pspec_l06Read_term] at h
      refine FnO.o2 Try.func122 (rfl : Try.f122.body = some _) ?_
      intro w0 X0 Fin pv0 pb gt
      apply Wc.seq
      refine Wc.r0 ⟨[tP 0 1000000, tI 1 vb, tP 4 4], [(4, .cells GTerm.z [(3, .app 41)]), (1000000, .cells (GL06Read.k2 ua) (GL06Read.h4_9f ua))], []⟩ ?_
      apply Wc.seq
      refine Wc.r0 ⟨[tP 0 1000000, tI 1 vb, tP 4 4], [(4, .cells GTerm.z [(3, .app 41)]), (1000000, .cells [.sl (List.map GSign.c ua.gList), aI ua.gAt, .bool ua.gBad, aI (wr.i64 (ua.gDeep + 1)), .slx] (GL06Read.h4_9f ua))], []⟩ ?_
      apply Wc.seq
      refine Wc.seqJ (fun st => ∃ (uaj : Bool), st = ⟨[tP 0 1000000, tI 1 vb, tP 4 4, tB 28 uaj], [(4, .cells GTerm.z [(3, .app 41)]), (1000000, .cells [.sl (List.map GSign.c ua.gList), aI ua.gAt, .bool ua.gBad, aI (wr.i64 (ua.gDeep + 1)), .slx] (GL06Read.h4_9f ua))], []⟩ ∧ pspec_l06Read_term_J1 k (pspec_l06Read_atom k) (pspec_l06Read_primary k) (pspec_l06Read_round k) (pspec_l06Read_row k) (pspec_l06Read_some k) (pspec_l06Read_term k) ua vb uaj = some r) ?_ ?_
      · rcases oif h with ⟨h458, h⟩ | ⟨h458, h⟩
        · refine Wc.r2 [{}, {}, {}, {}, { re := some (.bool true) }] ⟨[tP 0 1000000, tI 1 vb, tP 4 4, tB 28 true], [(4, .cells GTerm.z [(3, .app 41)]), (1000000, .cells [.sl (List.map GSign.c ua.gList), aI ua.gAt, .bool ua.gBad, aI (wr.i64 (ua.gDeep + 1)), .slx] (GL06Read.h4_9f ua))], []⟩ (.cons (congrArg AV.bool h458) .nil) ?_
          exact ⟨_, rfl, h⟩
        · refine Wc.r2 [{}, {}, {}, {}, { re := some (.bool false) }] ⟨[tP 0 1000000, tI 1 vb, tP 4 4, tB 28 (decide ((wr.i64 (ua.gDeep + 1)) > 130))], [(4, .cells GTerm.z [(3, .app 41)]), (1000000, .cells [.sl (List.map GSign.c ua.gList), aI ua.gAt, .bool ua.gBad, aI (wr.i64 (ua.gDeep + 1)), .slx] (GL06Read.h4_9f ua))], []⟩ (.cons (congrArg AV.bool h458) .nil) ?_
          exact ⟨_, rfl, h⟩
      · rintro st ⟨uaj, rfl, h⟩
        rcases oif h with ⟨h448, h⟩ | ⟨h448, h⟩
        · refine Wc.cT h448 ?_
          apply Wc.seq
          refine Wc.r0 ⟨[tP 4 4], [(4, .cells GTerm.z [(3, .app 41)]), (1000000, .cells [.sl (List.map GSign.c ua.gList), aI ua.gAt, .bool true, aI (wr.i64 (ua.gDeep + 1)), .slx] (GL06Read.h4_9f ua))], []⟩ ?_
          apply Wc.seq
          refine Wc.r1 [{}, { tk := [32] }] ⟨[tP 4 4], [(4, .cells GTerm.z [(3, .app 41)]), (1000000, .cells [.sl (List.map GSign.c ua.gList), aI ua.gAt, .bool true, aI (wr.i64 (ua.gDeep + 1)), .slx] (GL06Read.h4_9f ua))], []⟩ ?_
          refine Wc.fx [.un (.b 4 3)] ⟨[tP 4 4], [bC 4 GTerm.z, (1000000, .cells [.sl (List.map GSign.c ua.gList), aI ua.gAt, .bool true, aI (wr.i64 (ua.gDeep + 1)), .slx] (GL06Read.h4_9f ua))], []⟩ ?_
          obtain rfl := Option.some.inj h; exact Wc.ret dn
        · refine Wc.cF h448 ?_
          refine Wc.fx [] ⟨[tP 0 1000000, tI 1 vb, tP 4 4], [(4, .cells GTerm.z [(3, .app 41)]), (1000000, .cells [.sl (List.map GSign.c ua.gList), aI ua.gAt, .bool ua.gBad, aI (wr.i64 (ua.gDeep + 1)), .slx] (GL06Read.h4_9f ua))], []⟩ ?_
          refine Wc.skip ?_
          apply Wc.seq
          obtain ⟨u0z, h449, h⟩ := obind h
          refine Wc.r2 [{}, {}, { r := some (.v (.tup [.agg (GTerm.q u0z.2.1), aI u0z.2.2]) []), outs := [(0, .p (GL06Read.k2 u0z.1) (GL06Read.h4_9f u0z.1))] }] ⟨[tP 0 1000000, tI 1 vb, tP 4 4, tP 5 5, tI 6 u0z.2.2], [(4, .cells GTerm.z [(3, .app 41)]), bC 5 (GTerm.q u0z.2.1), (1000000, .cells (GL06Read.k2 u0z.1) (GL06Read.h4_9f u0z.1))], []⟩ (.cons (ih_pspec_l06Read_primary h449) .nil) ?_
          obtain ⟨out2, h450, h⟩ := obind h
          refine Wc.seqJ (fun st => ∃ (u6c : GTerm) (zy : GL06Read), out2 = .done (u6c, zy) ∧ st = ⟨[tP 0 1000000, tP 4 4, tP 5 5], [(4, .cells GTerm.z [(3, .app 41)]), bC 5 (GTerm.q u6c), (1000000, .cells (GL06Read.k2 zy) (GL06Read.h4_9f zy))], []⟩) ?_ ?_
          · refine Wc.block ?_
            refine Wc.loop (fun m st => ∃ (u4o : Int) (u05 : GTerm) (z9 : GL06Read), st = ⟨[tP 0 1000000, tI 1 vb, tP 4 4, tP 5 5, tI 6 u4o], [(4, .cells GTerm.z [(3, .app 41)]), bC 5 (GTerm.q u05), (1000000, .cells (GL06Read.k2 z9) (GL06Read.h4_9f z9))], []⟩ ∧ pspec_l06Read_term_L2 k (pspec_l06Read_atom k) (pspec_l06Read_primary k) (pspec_l06Read_round k) (pspec_l06Read_row k) (pspec_l06Read_some k) (pspec_l06Read_term k) vb m u4o u05 z9 = some out2) ?_ k ⟨_, _, _, rfl, h450⟩
            rintro m st ⟨u4o, u05, z9, rfl, h450⟩
            cases m with
            | zero => exact (onone h450).elim
            | succ m =>
              apply Wc.seq
              apply Wc.seq
              refine Wc.r0 ⟨[tP 0 1000000, tI 1 vb, tP 4 4, tP 5 5, tI 6 u4o, tB 43 (!z9.gBad)], [(4, .cells GTerm.z [(3, .app 41)]), bC 5 (GTerm.q u05), (1000000, .cells (GL06Read.k2 z9) (GL06Read.h4_9f z9))], []⟩ ?_
              rcases oif h450 with ⟨h451, h450⟩ | ⟨h451, h450⟩
              · refine Wc.cT h451 ?_
                refine Wc.fx [] ⟨[tP 0 1000000, tI 1 vb, tP 4 4, tP 5 5, tI 6 u4o], [(4, .cells GTerm.z [(3, .app 41)]), bC 5 (GTerm.q u05), (1000000, .cells (GL06Read.k2 z9) (GL06Read.h4_9f z9))], []⟩ ?_
                refine Wc.skip ?_
                refine Wc.block ?_
                apply Wc.seq
                obtain ⟨u9, h452, h450⟩ := obind h450
                refine Wc.r2 [{}, { r := some (.v (.tup [.agg (GOp.q u9.2.1), .bool u9.2.2]) []), outs := [(0, .p (GL06Read.k2 u9.1) (GL06Read.h4_9f u9.1))] }] ⟨[tP 0 1000000, tI 1 vb, tP 4 4, tP 5 5, tI 6 u4o, tP 7 7, tB 8 u9.2.2], [(4, .cells GTerm.z [(3, .app 41)]), bC 5 (GTerm.q u05), bC 7 (GOp.q u9.2.1), (1000000, .cells (GL06Read.k2 u9.1) (GL06Read.h4_9f u9.1))], []⟩ (.cons (cspec_l06Read_infix h452) .nil) ?_
                apply Wc.seq
                apply Wc.seq
                rcases oif h450 with ⟨h453, h450⟩ | ⟨h453, h450⟩
                · refine Wc.r2 [{}, {}, { re := some (.bool true) }] ⟨[tP 0 1000000, tI 1 vb, tP 4 4, tP 5 5, tP 7 7, tB 62 true], [(4, .cells GTerm.z [(3, .app 41)]), bC 5 (GTerm.q u05), bC 7 (GOp.q u9.2.1), (1000000, .cells (GL06Read.k2 u9.1) (GL06Read.h4_9f u9.1))], []⟩ (.cons (congrArg AV.bool h453) .nil) ?_
                  refine Wc.cT rfl ?_
                  refine Wc.fx [] ⟨[tP 0 1000000, tP 4 4, tP 5 5], [(4, .cells GTerm.z [(3, .app 41)]), bC 5 (GTerm.q u05), (1000000, .cells (GL06Read.k2 u9.1) (GL06Read.h4_9f u9.1))], []⟩ ?_
                  refine Wc.exit ?_
                  obtain rfl := Option.some.inj h450
                  exact ⟨_, _, rfl, rfl⟩
                · rcases oif h450 with ⟨h454, h450⟩ | ⟨h454, h450⟩
                  · refine Wc.r2 [{}, {}, { re := some (.bool false) }, {}, {}, {}, {}, {}, { re := some (.bool true) }] ⟨[tP 0 1000000, tI 1 vb, tP 4 4, tP 5 5, tP 7 7, tB 62 true], [(4, .cells GTerm.z [(3, .app 41)]), bC 5 (GTerm.q u05), bC 7 (GOp.q u9.2.1), (1000000, .cells (GL06Read.k2 u9.1) (GL06Read.h4_9f u9.1))], []⟩ (.cons (congrArg AV.bool h453) (.cons (congrArg AV.bool h454) .nil)) ?_
                    refine Wc.cT rfl ?_
                    refine Wc.fx [] ⟨[tP 0 1000000, tP 4 4, tP 5 5], [(4, .cells GTerm.z [(3, .app 41)]), bC 5 (GTerm.q u05), (1000000, .cells (GL06Read.k2 u9.1) (GL06Read.h4_9f u9.1))], []⟩ ?_
                    refine Wc.exit ?_
                    obtain rfl := Option.some.inj h450
                    exact ⟨_, _, rfl, rfl⟩
                  · refine Wc.r2 [{}, {}, { re := some (.bool false) }, {}, {}, {}, {}, {}, { re := some (.bool false) }] ⟨[tP 0 1000000, tI 1 vb, tP 4 4, tP 5 5, tP 7 7, tB 62 (decide (u9.2.1.gLeft < u4o))], [(4, .cells GTerm.z [(3, .app 41)]), bC 5 (GTerm.q u05), bC 7 (GOp.q u9.2.1), (1000000, .cells (GL06Read.k2 u9.1) (GL06Read.h4_9f u9.1))], []⟩ (.cons (congrArg AV.bool h453) (.cons (congrArg AV.bool h454) .nil)) ?_
                    rcases oif h450 with ⟨h455, h450⟩ | ⟨h455, h450⟩
                    · refine Wc.cT h455 ?_
                      refine Wc.fx [] ⟨[tP 0 1000000, tP 4 4, tP 5 5], [(4, .cells GTerm.z [(3, .app 41)]), bC 5 (GTerm.q u05), (1000000, .cells (GL06Read.k2 u9.1) (GL06Read.h4_9f u9.1))], []⟩ ?_
                      refine Wc.exit ?_
                      obtain rfl := Option.some.inj h450
                      exact ⟨_, _, rfl, rfl⟩
                    · refine Wc.cF h455 ?_
                      refine Wc.fx [] ⟨[tP 0 1000000, tI 1 vb, tP 4 4, tP 5 5, tP 7 7], [(4, .cells GTerm.z [(3, .app 41)]), bC 5 (GTerm.q u05), bC 7 (GOp.q u9.2.1), (1000000, .cells (GL06Read.k2 u9.1) (GL06Read.h4_9f u9.1))], []⟩ ?_
                      refine Wc.skip ?_
                      apply Wc.seq
                      refine Wc.r0 ⟨[tP 0 1000000, tI 1 vb, tP 4 4, tP 5 5, tP 7 7], [(4, .cells GTerm.z [(3, .app 41)]), bC 5 (GTerm.q u05), bC 7 (GOp.q u9.2.1), (1000000, .cells [.sl (List.map GSign.c u9.1.gList), aI (wr.i64 (u9.1.gAt + 1)), .bool u9.1.gBad, aI u9.1.gDeep, .slx] (GL06Read.h4_9f u9.1))], []⟩ ?_
                      apply Wc.seq
                      obtain ⟨zk, h456, h450⟩ := obind h450
                      refine Wc.r2 [{}, {}, {}, { r := some (.v (.agg (GTerm.q zk.2)) []), outs := [(0, .p (GL06Read.k2 zk.1) (GL06Read.h4_9f zk.1))] }] ⟨[tP 0 1000000, tI 1 vb, tP 4 4, tP 5 5, tP 7 7, tP 9 9], [(4, .cells GTerm.z [(3, .app 41)]), bC 5 (GTerm.q u05), bC 7 (GOp.q u9.2.1), bC 9 (GTerm.q zk.2), (1000000, .cells (GL06Read.k2 zk.1) (GL06Read.h4_9f zk.1))], []⟩ (.cons (ih_pspec_l06Read_term h456) .nil) ?_
                      apply Wc.seq
                      obtain ⟨uai, h457, h450⟩ := obind h450
                      refine Wc.r2 [{}, {}, {}, {}, { r := some (.v (.agg (GTerm.q uai)) [(3, .app 41)]) }, { tk := [79] }] ⟨[tP 0 1000000, tI 1 vb, tP 4 4, tP 5 5, tP 7 7], [(4, .cells GTerm.z [(3, .app 41)]), (5, .cells (GTerm.q uai) [(3, .app 41)]), bC 7 (GOp.q u9.2.1), (1000000, .cells (GL06Read.k2 zk.1) (GL06Read.h4_9f zk.1))], []⟩ (.cons (cspec_l03Two h457) .nil) ?_
                      refine Wc.r3 [] [.un (.b 5 3)] ⟨[tP 0 1000000, tI 1 vb, tP 4 4, tP 5 5, tI 6 u9.2.1.gPrio], [(4, .cells GTerm.z [(3, .app 41)]), bC 5 (GTerm.q uai), (1000000, .cells (GL06Read.k2 zk.1) (GL06Read.h4_9f zk.1))], []⟩ .nil ?_
                      exact ⟨_, Nat.lt_succ_self _, _, _, _, rfl, h450⟩
              · refine Wc.cF h451 ?_
                refine Wc.fx [] ⟨[tP 0 1000000, tP 4 4, tP 5 5], [(4, .cells GTerm.z [(3, .app 41)]), bC 5 (GTerm.q u05), (1000000, .cells (GL06Read.k2 z9) (GL06Read.h4_9f z9))], []⟩ ?_
                refine Wc.exit ?_
                obtain rfl := Option.some.inj h450
                exact ⟨_, _, rfl, rfl⟩
          · rintro st ⟨u6c, zy, rfl, rfl⟩
            apply Wc.seq
            refine Wc.r0 ⟨[tP 4 4, tP 5 5], [(4, .cells GTerm.z [(3, .app 41)]), bC 5 (GTerm.q u6c), (1000000, .cells [.sl (List.map GSign.c zy.gList), aI zy.gAt, .bool zy.gBad, aI (wr.i64 (zy.gDeep - 1)), .slx] (GL06Read.h4_9f zy))], []⟩ ?_
            apply Wc.seq
            refine Wc.r0 ⟨[tP 4 4], [bC 4 (GTerm.q u6c), (1000000, .cells [.sl (List.map GSign.c zy.gList), aI zy.gAt, .bool zy.gBad, aI (wr.i64 (zy.gDeep - 1)), .slx] (GL06Read.h4_9f zy))], []⟩ ?_
            obtain rfl := Option.some.inj h; exact Wc.ret dn
theorem cspec_l06Read_atom {k : Nat} {uk : GL06Read} {zx : Int} {r : GL06Read × GTerm × Int} (h : pspec_l06Read_atom k uk zx = some r) : FnO Try.prog 148 [.p (GL06Read.k2 uk) (GL06Read.h4_9f uk), .v (aI zx) []] (.v (.tup [.agg (GTerm.q r.2.1), aI r.2.2]) []) [(0, .p (GL06Read.k2 r.1) (GL06Read.h4_9f r.1))] := (all_pspec_l06Read_atom k).1 h
theorem cspec_l06Read_primary {k : Nat} {u06 : GL06Read} {u3o : Int} {r : GL06Read × GTerm × Int} (h : pspec_l06Read_primary k u06 u3o = some r) : FnO Try.prog 141 [.p (GL06Read.k2 u06) (GL06Read.h4_9f u06), .v (aI u3o) []] (.v (.tup [.agg (GTerm.q r.2.1), aI r.2.2]) []) [(0, .p (GL06Read.k2 r.1) (GL06Read.h4_9f r.1))] := (all_pspec_l06Read_atom k).2.1 h
theorem cspec_l06Read_round {k : Nat} {u07 : GL06Read} {r : GL06Read × GTerm} (h : pspec_l06Read_round k u07 = some r) : FnO Try.prog 150 [.p (GL06Read.k2 u07) (GL06Read.h4_9f u07)] (.v (.agg (GTerm.q r.2)) []) [(0, .p (GL06Read.k2 r.1) (GL06Read.h4_9f r.1))] := (all_pspec_l06Read_atom k).2.2.1 h
theorem cspec_l06Read_row {k : Nat} {u08 : GL06Read} {r : GL06Read × GTerm} (h : pspec_l06Read_row k u08 = some r) : FnO Try.prog 151 [.p (GL06Read.k2 u08) (GL06Read.h4_9f u08)] (.v (.agg (GTerm.q r.2)) []) [(0, .p (GL06Read.k2 r.1) (GL06Read.h4_9f r.1))] := (all_pspec_l06Read_atom k).2.2.2.1 h
theorem cspec_l06Read_some {k : Nat} {za : GL06Read} {u3p : ByteArray} {r : GL06Read × GTerm} (h : pspec_l06Read_some k za u3p = some r) : FnO Try.prog 156 [.p (GL06Read.k2 za) (GL06Read.h4_9f za), .v (.str u3p) []] (.v (.agg (GTerm.q r.2)) [(3, .app 41)]) [(0, .p (GL06Read.k2 r.1) (GL06Read.h4_9f r.1))] := (all_pspec_l06Read_atom k).2.2.2.2.1 h
theorem cspec_l06Read_term {k : Nat} {ua : GL06Read} {vb : Int} {r : GL06Read × GTerm} (h : pspec_l06Read_term k ua vb = some r) : FnO Try.prog 122 [.p (GL06Read.k2 ua) (GL06Read.h4_9f ua), .v (aI vb) []] (.v (.agg (GTerm.q r.2)) []) [(0, .p (GL06Read.k2 r.1) (GL06Read.h4_9f r.1))] := (all_pspec_l06Read_atom k).2.2.2.2.2 h

def pspec_ReadSigns_J1 (k : Nat) (u0m : Int) (zl : GL06Read × GTerm) (uam : Bool) (u09 : GL06Read) : Option (GTerm × (List ByteArray) × Int × Bool) :=
  if uam = true then
    some (GTerm.mk 0 (bs []) 0 [], [], u0m, false)
  else
    if ([] : List ByteArray).length + u09.gNames.length ≤ 1073741824 then
      some (zl.2, u09.gNames, wr.i64 (u09.gAt + 1), true)
    else none
def pspec_ReadSigns (k : Nat) (u2w : List GSign) (u3q : Int) : Option (GTerm × (List ByteArray) × Int × Bool) :=
  (pspec_l06Behind k u2w u3q).bind fun u0m =>
  (pspec_l01In k u3q 0 (wr.i64 ((u2w.length : Int) - 1))).bind fun ud8 =>
  if (!ud8) = true then
    some (GTerm.mk 0 (bs []) 0 [], [], u0m, false)
  else
    (pspec_l06Read_term k (GL06Read.mk u2w u3q false 0 []) 1200).bind fun zl =>
    (pspec_l06Read_is k zl.1 5 (bs [])).bind fun zh =>
    if (!zh.2) = true then
      pspec_ReadSigns_J1 k u0m zl true zh.1
    else
      (pspec_TermOk k zl.2).bind fun ud9 =>
      pspec_ReadSigns_J1 k u0m zl (!ud9) zh.1
theorem cspec_ReadSigns {k : Nat} {u2w : List GSign} {u3q : Int} {r : GTerm × (List ByteArray) × Int × Bool} (h : pspec_ReadSigns k u2w u3q = some r) : FnO Try.prog 93 [.v (.sl (List.map GSign.c u2w)) [], .v (aI u3q) []] (.v (.tup [.agg (GTerm.q r.1), .sl (List.map cS r.2.1), aI r.2.2.1, .bool r.2.2.2]) [(4, .app 9)]) [] := by
  refine FnO.o2 Try.func93 (rfl : Try.f93.body = some _) ?_
  intro w0 X0 Fin pv0 pb gt
  unfold pspec_ReadSigns at h
  apply Wc.seq
  refine Wc.r0 ⟨[tV 0 (.sl (List.map GSign.c u2w)), tI 1 u3q, tP 4 4], [(4, .cells GTerm.z [(3, .app 41)])], []⟩ ?_
  apply Wc.seq
  obtain ⟨u0m, h468, h⟩ := obind h
  refine Wc.r2 [{}, {}, { r := some (.v (aI u0m) []) }] ⟨[tV 0 (.sl (List.map GSign.c u2w)), tI 1 u3q, tP 4 4, tI 8 u0m], [(4, .cells GTerm.z [(3, .app 41)])], []⟩ (.cons (cspec_l06Behind h468) .nil) ?_
  apply Wc.seq
  apply Wc.seq
  obtain ⟨ud8, h469, h⟩ := obind h
  refine Wc.r2 [{}, {}, { v := some (aI (u2w.length : Int)) }, {}, { r := some (.v (.bool ud8) []) }] ⟨[tV 0 (.sl (List.map GSign.c u2w)), tI 1 u3q, tP 4 4, tI 8 u0m, tB 19 (!ud8)], [(4, .cells GTerm.z [(3, .app 41)])], []⟩ (.cons (len_obl GSign.c u2w) (.cons (cspec_l01In h469) .nil)) ?_
  rcases oif h with ⟨h470, h⟩ | ⟨h470, h⟩
  · refine Wc.cT h470 ?_
    apply Wc.seq
    refine Wc.r2 [{}, { c := some (List.map cS []) }, {}, { tk := [20] }, { tk := [21] }] ⟨[tP 4 4, (5, (.v (.sl (List.map cS [])), [(0, .app 9)])), tI 6 u0m, tB 7 false], [(4, .cells GTerm.z [(3, .app 41)])], []⟩ (.cons (cl_nil cS) .nil) ?_
    refine Wc.fx [.un (.b 4 3)] ⟨[tP 4 4, (5, (.v (.sl (List.map cS [])), [(0, .app 9)])), tI 6 u0m, tB 7 false], [bC 4 GTerm.z], []⟩ ?_
    obtain rfl := Option.some.inj h; exact Wc.ret dn
  · refine Wc.cF h470 ?_
    refine Wc.fx [] ⟨[tV 0 (.sl (List.map GSign.c u2w)), tI 1 u3q, tP 4 4, tI 8 u0m], [(4, .cells GTerm.z [(3, .app 41)])], []⟩ ?_
    refine Wc.skip ?_
    apply Wc.seq
    refine Wc.r1 [{}, {}, {}, { tk := [25] }] ⟨[tP 4 4, tI 8 u0m, tP 9 26], [(4, .cells GTerm.z [(3, .app 41)]), (26, .cells [.sl (List.map GSign.c u2w), aI u3q, .bool false, aI 0, .sl (List.map cS [])] [(4, .app 9)])], []⟩ ?_
    apply Wc.seq
    obtain ⟨zl, h471, h⟩ := obind h
    refine Wc.r2 [{}, { r := some (.v (.agg (GTerm.q zl.2)) []), outs := [(0, .p (GL06Read.k2 zl.1) (GL06Read.h4_9f zl.1))], fx := [.ow (.b 26 4) false] }] ⟨[tP 4 4, tI 8 u0m, tP 9 26, tP 10 10], [(4, .cells GTerm.z [(3, .app 41)]), bC 10 (GTerm.q zl.2), (26, .cells (GL06Read.k2 zl.1) (GL06Read.h4_9f zl.1))], []⟩ (.cons (cspec_l06Read_term h471) .nil) ?_
    apply Wc.seq
    refine Wc.seqJ (fun st => ∃ (uam : Bool) (u09 : GL06Read), st = ⟨[tP 4 4, tI 8 u0m, tP 9 26, tP 10 10, tB 36 uam], [(4, .cells GTerm.z [(3, .app 41)]), bC 10 (GTerm.q zl.2), (26, .cells (GL06Read.k2 u09) (GL06Read.h4_9f u09))], []⟩ ∧ pspec_ReadSigns_J1 k u0m zl uam u09 = some r) ?_ ?_
    · obtain ⟨zh, h474, h⟩ := obind h
      rcases oif h with ⟨h475, h⟩ | ⟨h475, h⟩
      · refine Wc.r2 [{}, { r := some (.v (.bool zh.2) []), outs := [(0, .p (GL06Read.k2 zh.1) (GL06Read.h4_9f zh.1))] }, {}, { re := some (.bool true) }] ⟨[tP 4 4, tI 8 u0m, tP 9 26, tP 10 10, tB 36 true], [(4, .cells GTerm.z [(3, .app 41)]), bC 10 (GTerm.q zl.2), (26, .cells (GL06Read.k2 zh.1) (GL06Read.h4_9f zh.1))], []⟩ (.cons (cspec_l06Read_is h474) (.cons (congrArg AV.bool h475) .nil)) ?_
        exact ⟨_, _, rfl, h⟩
      · obtain ⟨ud9, h476, h⟩ := obind h
        refine Wc.r2 [{}, { r := some (.v (.bool zh.2) []), outs := [(0, .p (GL06Read.k2 zh.1) (GL06Read.h4_9f zh.1))] }, {}, { re := some (.bool false) }, {}, { r := some (.v (.bool ud9) []) }] ⟨[tP 4 4, tI 8 u0m, tP 9 26, tP 10 10, tB 36 (!ud9)], [(4, .cells GTerm.z [(3, .app 41)]), bC 10 (GTerm.q zl.2), (26, .cells (GL06Read.k2 zh.1) (GL06Read.h4_9f zh.1))], []⟩ (.cons (cspec_l06Read_is h474) (.cons (congrArg AV.bool h475) (.cons (cspec_TermOk h476) .nil))) ?_
        exact ⟨_, _, rfl, h⟩
    · rintro st ⟨uam, u09, rfl, h⟩
      rcases oif h with ⟨h472, h⟩ | ⟨h472, h⟩
      · refine Wc.cT h472 ?_
        apply Wc.seq
        refine Wc.r2 [{}, { c := some (List.map cS []) }, {}, { tk := [37] }, { tk := [38] }] ⟨[tP 4 4, (5, (.v (.sl (List.map cS [])), [(0, .app 9)])), tI 6 u0m, tB 7 false], [(4, .cells GTerm.z [(3, .app 41)])], []⟩ (.cons (cl_nil cS) .nil) ?_
        refine Wc.fx [.un (.b 4 3)] ⟨[tP 4 4, (5, (.v (.sl (List.map cS [])), [(0, .app 9)])), tI 6 u0m, tB 7 false], [bC 4 GTerm.z], []⟩ ?_
        obtain rfl := Option.some.inj h; exact Wc.ret dn
      · refine Wc.cF h472 ?_
        refine Wc.fx [] ⟨[tP 4 4, tP 9 26, tP 10 10], [(4, .cells GTerm.z [(3, .app 41)]), bC 10 (GTerm.q zl.2), (26, .cells (GL06Read.k2 u09) (GL06Read.h4_9f u09))], []⟩ ?_
        refine Wc.skip ?_
        apply Wc.seq
        obtain ⟨h473, h⟩ := oguard h
        refine Wc.draw hmix [{}, { c := some (List.map cS []) }, {}, {}, {}, {}, { c := some (List.map cS u09.gNames), tk := [41] }, {}, {}, {}, {}, {}, {}, { tk := [46] }] [] [4, 5, 6, 7] [4] [] ⟨[tP 4 4, (5, (.v (.sl (List.map cS u09.gNames)), [(0, .app 9)])), tI 6 (wr.i64 (u09.gAt + 1)), tB 7 true], [bC 4 (GTerm.q zl.2)], []⟩ _ (by kernel_rfl) (fun X => by kernel_rfl) (.cons (cl_nil cS) (.cons (app_re0 cS u09.gNames) (.cons (app_leaf (c := cS) (ys := u09.gNames) cS_leaf) (.cons (app_obl2 (c := cS) (xs := []) (ys := u09.gNames) cS_len h473) .nil)))) ?_
        obtain rfl := Option.some.inj h; exact Wc.ret dn

def pspec_ReadTerm_J1 (k : Nat) (z2 : GTerm × (List ByteArray) × Int × Bool) (uan : Bool) : Option (GTerm × (List ByteArray) × Bool) :=
  if uan = true then
    some (GTerm.mk 0 (bs []) 0 [], [], false)
  else
    some (z2.1, z2.2.1, true)
def pspec_ReadTerm (k : Nat) (uao : ByteArray) : Option (GTerm × (List ByteArray) × Bool) :=
  (pspec_SignsOf k uao).bind fun u41 =>
  (pspec_ReadSigns k u41.1 0).bind fun z2 =>
  if (!z2.2.2.2) = true then
    pspec_ReadTerm_J1 k z2 true
  else
    pspec_ReadTerm_J1 k z2 (z2.2.2.1 != (u41.1.length : Int))
theorem cspec_ReadTerm {k : Nat} {uao : ByteArray} {r : GTerm × (List ByteArray) × Bool} (h : pspec_ReadTerm k uao = some r) : FnO Try.prog 54 [.v (.str uao) []] (.v (.tup [.agg (GTerm.q r.1), .sl (List.map cS r.2.1), .bool r.2.2]) [(4, .app 9)]) [] := by
  refine FnO.o2 Try.func54 (rfl : Try.f54.body = some _) ?_
  intro w0 X0 Fin pv0 pb gt
  unfold pspec_ReadTerm at h
  apply Wc.seq
  refine Wc.r0 ⟨[tS 0 uao, tP 2 2], [(2, .cells GTerm.z [(3, .app 41)])], []⟩ ?_
  apply Wc.seq
  obtain ⟨u41, h481, h⟩ := obind h
  refine Wc.r2 [{}, { r := some (.v (.tup [.sl (List.map GSign.c u41.1), .bool u41.2]) [(0, .app 142)]) }, { tk := [13] }, { tk := [11] }, {}, { tk := [14] }] ⟨[tP 2 2, (5, (.v (.sl (List.map GSign.c u41.1)), [(0, .app 142)]))], [(2, .cells GTerm.z [(3, .app 41)])], []⟩ (.cons (cspec_SignsOf h481) .nil) ?_
  apply Wc.seq
  obtain ⟨z2, h482, h⟩ := obind h
  refine Wc.r2 [{}, { r := some (.v (.tup [.agg (GTerm.q z2.1), .sl (List.map cS z2.2.1), aI z2.2.2.1, .bool z2.2.2.2]) [(4, .app 9)]) }, { tk := [18] }, {}, { tk := [16] }, {}, {}, {}, {}, { tk := [20] }] ⟨[tP 2 2, (5, (.v (.sl (List.map GSign.c u41.1)), [(0, .app 142)])), tP 7 7, (8, (.v (.sl (List.map cS z2.2.1)), [(0, .app 9)])), tI 9 z2.2.2.1, tB 10 z2.2.2.2], [(2, .cells GTerm.z [(3, .app 41)]), bC 7 (GTerm.q z2.1)], []⟩ (.cons (cspec_ReadSigns h482) .nil) ?_
  apply Wc.seq
  refine Wc.seqJ (fun st => ∃ (uan : Bool), st = ⟨[tP 2 2, tP 7 7, (8, (.v (.sl (List.map cS z2.2.1)), [(0, .app 9)])), tB 30 uan], [(2, .cells GTerm.z [(3, .app 41)]), bC 7 (GTerm.q z2.1)], []⟩ ∧ pspec_ReadTerm_J1 k z2 uan = some r) ?_ ?_
  · rcases oif h with ⟨h484, h⟩ | ⟨h484, h⟩
    · refine Wc.r2 [{}, {}, { re := some (.bool true) }] ⟨[tP 2 2, tP 7 7, (8, (.v (.sl (List.map cS z2.2.1)), [(0, .app 9)])), tB 30 true], [(2, .cells GTerm.z [(3, .app 41)]), bC 7 (GTerm.q z2.1)], []⟩ (.cons (congrArg AV.bool h484) .nil) ?_
      exact ⟨_, rfl, h⟩
    · refine Wc.r2 [{}, {}, { re := some (.bool false) }, {}, { tk := [5] }, { v := some (aI (u41.1.length : Int)) }] ⟨[tP 2 2, tP 7 7, (8, (.v (.sl (List.map cS z2.2.1)), [(0, .app 9)])), tB 30 (z2.2.2.1 != (u41.1.length : Int))], [(2, .cells GTerm.z [(3, .app 41)]), bC 7 (GTerm.q z2.1)], []⟩ (.cons (congrArg AV.bool h484) (.cons (len_obl GSign.c u41.1) .nil)) ?_
      exact ⟨_, rfl, h⟩
  · rintro st ⟨uan, rfl, h⟩
    rcases oif h with ⟨h483, h⟩ | ⟨h483, h⟩
    · refine Wc.cT h483 ?_
      apply Wc.seq
      refine Wc.r2 [{}, { c := some (List.map cS []) }, { tk := [31] }, { tk := [32] }] ⟨[tP 2 2, (3, (.v (.sl (List.map cS [])), [(0, .app 9)])), tB 4 false], [(2, .cells GTerm.z [(3, .app 41)])], []⟩ (.cons (cl_nil cS) .nil) ?_
      refine Wc.fx [.un (.b 2 3)] ⟨[tP 2 2, (3, (.v (.sl (List.map cS [])), [(0, .app 9)])), tB 4 false], [bC 2 GTerm.z], []⟩ ?_
      obtain rfl := Option.some.inj h; exact Wc.ret dn
    · refine Wc.cF h483 ?_
      refine Wc.fx [] ⟨[tP 2 2, tP 7 7, (8, (.v (.sl (List.map cS z2.2.1)), [(0, .app 9)]))], [(2, .cells GTerm.z [(3, .app 41)]), bC 7 (GTerm.q z2.1)], []⟩ ?_
      refine Wc.skip ?_
      apply Wc.seq
      refine Wc.r1 [{}, { tk := [8] }, {}, { tk := [34] }] ⟨[tP 2 2, (3, (.v (.sl (List.map cS z2.2.1)), [(0, .app 9)])), tB 4 true], [bC 2 (GTerm.q z2.1)], []⟩ ?_
      obtain rfl := Option.some.inj h; exact Wc.ret dn

def pspec_l01Pick (k : Nat) (uap : GL01Cur) (u5h : List ByteArray) : Option (GL01Cur × ByteArray) :=
  (pspec_l01Below k uap (u5h.length : Int)).bind fun u7r =>
  (at' u5h u7r.2).bind fun uaq =>
  some (u7r.1, uaq)
theorem cspec_l01Pick {k : Nat} {uap : GL01Cur} {u5h : List ByteArray} {r : GL01Cur × ByteArray} (h : pspec_l01Pick k uap u5h = some r) : FnO Try.prog 55 [.p (GL01Cur.q uap) [], .v (.sl (List.map cS u5h)) []] (.v (.str r.2) []) [(0, .p (GL01Cur.q r.1) [])] := by
  refine FnO.o2 Try.func55 (rfl : Try.f55.body = some _) ?_
  intro w0 X0 Fin pv0 pb gt
  unfold pspec_l01Pick at h
  apply Wc.seq
  refine Wc.r0 ⟨[tP 0 1000000, tV 1 (.sl (List.map cS u5h))], [bC 1000000 (GL01Cur.q uap)], []⟩ ?_
  apply Wc.seq
  obtain ⟨u7r, h485, h⟩ := obind h
  obtain ⟨uaq, h486, h⟩ := obind h
  refine Wc.r2 [{}, {}, {}, { v := some (aI (u5h.length : Int)) }, { r := some (.v (aI u7r.2) []), outs := [(0, .p (GL01Cur.q u7r.1) [])] }, { v := some (.vptr [.str uaq]) }] ⟨[tS 4 uaq], [bC 1000000 (GL01Cur.q u7r.1)], []⟩ (.cons (len_obl cS u5h) (.cons (cspec_l01Below h485) (.cons (at_obl (c := cS) rfl cS_len h486) (.cons (len_ok 1 [.str uaq]) .nil)))) ?_
  obtain rfl := Option.some.inj h; exact Wc.ret dn

def pspec_l01PickInt (k : Nat) (uar : GL01Cur) (u5i : List Int) : Option (GL01Cur × Int) :=
  (pspec_l01Below k uar (u5i.length : Int)).bind fun u7s =>
  (at' u5i u7s.2).bind fun uas =>
  some (u7s.1, uas)
theorem cspec_l01PickInt {k : Nat} {uar : GL01Cur} {u5i : List Int} {r : GL01Cur × Int} (h : pspec_l01PickInt k uar u5i = some r) : FnO Try.prog 77 [.p (GL01Cur.q uar) [], .v (.sl (List.map cI.i64 u5i)) []] (.v (aI r.2) []) [(0, .p (GL01Cur.q r.1) [])] := by
  refine FnO.o2 Try.func77 (rfl : Try.f77.body = some _) ?_
  intro w0 X0 Fin pv0 pb gt
  unfold pspec_l01PickInt at h
  apply Wc.seq
  refine Wc.r0 ⟨[tP 0 1000000, tV 1 (.sl (List.map cI.i64 u5i))], [bC 1000000 (GL01Cur.q uar)], []⟩ ?_
  apply Wc.seq
  obtain ⟨u7s, h487, h⟩ := obind h
  obtain ⟨uas, h488, h⟩ := obind h
  refine Wc.r2 [{}, {}, {}, { v := some (aI (u5i.length : Int)) }, { r := some (.v (aI u7s.2) []), outs := [(0, .p (GL01Cur.q u7s.1) [])] }, { v := some (.vptr [aI uas]) }] ⟨[tI 4 uas], [bC 1000000 (GL01Cur.q u7s.1)], []⟩ (.cons (len_obl cI.i64 u5i) (.cons (cspec_l01Below h487) (.cons (at_obl (c := cI.i64) rfl cI.i64_len h488) (.cons (len_ok 1 [aI uas]) .nil)))) ?_
  obtain rfl := Option.some.inj h; exact Wc.ret dn

def pspec_l03Made_L2 (k : Nat) (rspec_l03Made : GL01Cur → Int → Option (GL01Cur × GTerm)) (uv : Int) : Nat → Int → GTerm → GL01Cur → Option (Out (GL01Cur × GTerm) (GTerm × GL01Cur))
  | 0, _, _, _ => none
  | m + 1, u21, vo, uat =>
    (pspec_l01Below k uat 3).bind fun u2i =>
    if (decide (u21 < (wr.i64 (1 + u2i.2)))) = true then
      if (decide ((vo.gKids.length : Int) < 5)) = true then
        (rspec_l03Made u2i.1 (wr.i64 (uv - 1))).bind fun u19 =>
        if vo.gKids.length + [u19.2].length ≤ 1073741824 then
          pspec_l03Made_L2 k rspec_l03Made uv m (wr.i64 (u21 + 1)) (GTerm.mk vo.gKind vo.gName vo.gNum (vo.gKids ++ [u19.2])) u19.1
        else none
      else
        pspec_l03Made_L2 k rspec_l03Made uv m (wr.i64 (u21 + 1)) vo u2i.1
    else
      some (.done (vo, u2i.1))
def pspec_l03Made_J1 (k : Nat) (rspec_l03Made : GL01Cur → Int → Option (GL01Cur × GTerm)) (vt : GL01Cur × Int) (uv : Int) (u11 : Int) : Option (GL01Cur × GTerm) :=
  if (decide (u11 < 2)) = true then
    (pspec_l01Below k vt.1 4).bind fun u7t =>
    (pspec_l03Var k u7t.2).bind fun uda =>
    some (u7t.1, uda)
  else
    if (decide (u11 < 4)) = true then
      if 0 ≤ (0 : Int) ∧ (0 : Int) ≤ 1 ∧ 1 ≤ ((bs [120, 32, 121]).size : Int) then
        (pspec_l01Pick k vt.1 [(bs [97]), (bs [98]), (bs [91, 93]), (bs [43]), (bs [66, 105, 103]), (bs [120, 32, 121]).extract ((0 : Int) : Int).toNat (1 : Int).toNat, (bs [58, 45]), (bs [61, 46, 46])]).bind fun u7u =>
        (pspec_l03Atom k u7u.2).bind fun udb =>
        some (u7u.1, udb)
      else none
    else
      if (decide (u11 < 6)) = true then
        (pspec_l01PickInt k vt.1 [0, 1, -7, 999999999]).bind fun u7v =>
        (pspec_l03Num k u7v.2).bind fun udc =>
        some (u7v.1, udc)
      else
        if (u11 == 6) = true then
          (rspec_l03Made vt.1 (wr.i64 (uv - 1))).bind fun uau =>
          (rspec_l03Made uau.1 (wr.i64 (uv - 1))).bind fun u7w =>
          (pspec_l03Two k (bs [46]) uau.2 u7w.2).bind fun udd =>
          some (u7w.1, udd)
        else
          if (u11 == 7) = true then
            (pspec_l01Pick k vt.1 [(bs [43]), (bs [61]), (bs [44]), (bs [102]), (bs [59])]).bind fun uav =>
            (rspec_l03Made uav.1 (wr.i64 (uv - 1))).bind fun uaw =>
            (rspec_l03Made uaw.1 (wr.i64 (uv - 1))).bind fun u7x =>
            (pspec_l03Two k uav.2 uaw.2 u7x.2).bind fun ude =>
            some (u7x.1, ude)
          else
            (pspec_l01Pick k vt.1 [(bs [102]), (bs [103]), (bs [45]), (bs [91, 93])]).bind fun u4q =>
            (pspec_l03Made_L2 k rspec_l03Made uv k 0 (GTerm.mk 4 u4q.2 0 []) u4q.1).bind fun out2 => match out2 with
            | .ret r => some r
            | .done (u7y, u7z) =>
              some (u7z, u7y)
mutual
def pspec_l03Made : Nat → GL01Cur → Int → Option (GL01Cur × GTerm)
  | 0, _, _ => none
  | k + 1, u42, uv =>
    (pspec_l01Below k u42 10).bind fun vt =>
    if (decide (uv ≤ 0)) = true then
      if (6 : Int) ≠ 0 then
        pspec_l03Made_J1 k (pspec_l03Made k) vt uv (Int.tmod vt.2 6)
      else none
    else
      pspec_l03Made_J1 k (pspec_l03Made k) vt uv vt.2
end
set_option maxHeartbeats 4000000 in
theorem all_pspec_l03Made : ∀ k : Nat, (∀ {u42 : GL01Cur} {uv : Int} {r : GL01Cur × GTerm}, pspec_l03Made k u42 uv = some r → FnO Try.prog 94 [.p (GL01Cur.q u42) [], .v (aI uv) []] (.v (.agg (GTerm.q r.2)) [(3, .app 41)]) [(0, .p (GL01Cur.q r.1) [])]) := by
  intro k
  induction k with
  | zero =>
    · intro u42 uv r h
      exact (onone (by rw [pspec_l03Made] at h; exact h)).elim
  | succ k ih =>
    have ih_pspec_l03Made := @ih
    · intro u42 uv r h
      rw [pspec_l03Made] at h
      refine FnO.o2 Try.func94 (rfl : Try.f94.body = some _) ?_
      intro w0 X0 Fin pv0 pb gt
      apply Wc.seq
      refine Wc.r0 ⟨[tP 0 1000000, tI 1 uv, tP 4 4], [(4, .cells GTerm.z [(3, .app 41)]), bC 1000000 (GL01Cur.q u42)], []⟩ ?_
      apply Wc.seq
      obtain ⟨vt, h518, h⟩ := obind h
      refine Wc.r2 [{}, { r := some (.v (aI vt.2) []), outs := [(0, .p (GL01Cur.q vt.1) [])] }] ⟨[tP 0 1000000, tI 1 uv, tP 4 4, tI 5 vt.2], [(4, .cells GTerm.z [(3, .app 41)]), bC 1000000 (GL01Cur.q vt.1)], []⟩ (.cons (cspec_l01Below h518) .nil) ?_
      refine Wc.seqJ (fun st => ∃ (u11 : Int), st = ⟨[tP 0 1000000, tI 1 uv, tP 4 4, tI 5 u11], [(4, .cells GTerm.z [(3, .app 41)]), bC 1000000 (GL01Cur.q vt.1)], []⟩ ∧ pspec_l03Made_J1 k (pspec_l03Made k) vt uv u11 = some r) ?_ ?_
      · apply Wc.seq
        refine Wc.r0 ⟨[tP 0 1000000, tI 1 uv, tP 4 4, tI 5 vt.2, tB 11 (decide (uv ≤ 0))], [(4, .cells GTerm.z [(3, .app 41)]), bC 1000000 (GL01Cur.q vt.1)], []⟩ ?_
        rcases oif h with ⟨h545, h⟩ | ⟨h545, h⟩
        · refine Wc.cT h545 ?_
          obtain ⟨h546, h⟩ := oguard h
          refine Wc.r2 [] ⟨[tP 0 1000000, tI 1 uv, tP 4 4, tI 5 (Int.tmod vt.2 6)], [(4, .cells GTerm.z [(3, .app 41)]), bC 1000000 (GL01Cur.q vt.1)], []⟩ (.cons h546 .nil) ?_
          exact ⟨_, rfl, h⟩
        · refine Wc.cF h545 ?_
          refine Wc.fx [] ⟨[tP 0 1000000, tI 1 uv, tP 4 4, tI 5 vt.2], [(4, .cells GTerm.z [(3, .app 41)]), bC 1000000 (GL01Cur.q vt.1)], []⟩ ?_
          refine Wc.skip ?_
          exact ⟨_, rfl, h⟩
      · rintro st ⟨u11, rfl, h⟩
        apply Wc.seq
        refine Wc.block ?_
        apply Wc.seq
        refine Wc.r0 ⟨[tP 0 1000000, tI 1 uv, tP 4 4, tI 5 u11, tB 14 (decide (u11 < 2))], [(4, .cells GTerm.z [(3, .app 41)]), bC 1000000 (GL01Cur.q vt.1)], []⟩ ?_
        rcases oif h with ⟨h519, h⟩ | ⟨h519, h⟩
        · refine Wc.cT h519 ?_
          apply Wc.seq
          obtain ⟨u7t, h520, h⟩ := obind h
          obtain ⟨uda, h521, h⟩ := obind h
          refine Wc.r2 [{}, { r := some (.v (aI u7t.2) []), outs := [(0, .p (GL01Cur.q u7t.1) [])] }, { r := some (.v (.agg (GTerm.q uda)) [(3, .app 41)]) }, { tk := [19] }] ⟨[tP 4 4], [(4, .cells (GTerm.q uda) [(3, .app 41)]), bC 1000000 (GL01Cur.q u7t.1)], []⟩ (.cons (cspec_l01Below h520) (.cons (cspec_l03Var h521) .nil)) ?_
          obtain rfl := Option.some.inj h; exact Wc.ret dn
        · refine Wc.cF h519 ?_
          apply Wc.seq
          refine Wc.r0 ⟨[tP 0 1000000, tI 1 uv, tP 4 4, tI 5 u11, tB 20 (decide (u11 < 4))], [(4, .cells GTerm.z [(3, .app 41)]), bC 1000000 (GL01Cur.q vt.1)], []⟩ ?_
          rcases oif h with ⟨h522, h⟩ | ⟨h522, h⟩
          · refine Wc.cT h522 ?_
            apply Wc.seq
            obtain ⟨h523, h⟩ := oguard h
            obtain ⟨u7u, h524, h⟩ := obind h
            obtain ⟨udb, h525, h⟩ := obind h
            refine Wc.r2 [{}, {}, { c := some (List.map cS [(bs [97]), (bs [98]), (bs [91, 93]), (bs [43]), (bs [66, 105, 103]), (bs [120, 32, 121]).extract ((0 : Int) : Int).toNat (1 : Int).toNat, (bs [58, 45]), (bs [61, 46, 46])]) }, { r := some (.v (.str u7u.2) []), outs := [(0, .p (GL01Cur.q u7u.1) [])] }, { r := some (.v (.agg (GTerm.q udb)) [(3, .app 41)]) }, { tk := [27] }] ⟨[tP 4 4], [(4, .cells (GTerm.q udb) [(3, .app 41)]), bC 1000000 (GL01Cur.q u7u.1)], []⟩ (.cons h523 (.cons (cl_cons (c := cS) (x := (bs [97])) rfl (cl_cons (c := cS) (x := (bs [98])) rfl (cl_cons (c := cS) (x := (bs [91, 93])) rfl (cl_cons (c := cS) (x := (bs [43])) rfl (cl_cons (c := cS) (x := (bs [66, 105, 103])) rfl (cl_cons (c := cS) (x := (bs [120, 32, 121]).extract ((0 : Int) : Int).toNat (1 : Int).toNat) rfl (cl_cons (c := cS) (x := (bs [58, 45])) rfl (cl_cons (c := cS) (x := (bs [61, 46, 46])) rfl (cl_nil cS))))))))) (.cons (cspec_l01Pick h524) (.cons (cspec_l03Atom h525) .nil)))) ?_
            obtain rfl := Option.some.inj h; exact Wc.ret dn
          · refine Wc.cF h522 ?_
            apply Wc.seq
            refine Wc.r0 ⟨[tP 0 1000000, tI 1 uv, tP 4 4, tI 5 u11, tB 28 (decide (u11 < 6))], [(4, .cells GTerm.z [(3, .app 41)]), bC 1000000 (GL01Cur.q vt.1)], []⟩ ?_
            rcases oif h with ⟨h526, h⟩ | ⟨h526, h⟩
            · refine Wc.cT h526 ?_
              apply Wc.seq
              obtain ⟨u7v, h527, h⟩ := obind h
              obtain ⟨udc, h528, h⟩ := obind h
              refine Wc.r2 [{}, { c := some (List.map cI.i64 [0, 1, -7, 999999999]) }, { r := some (.v (aI u7v.2) []), outs := [(0, .p (GL01Cur.q u7v.1) [])] }, { r := some (.v (.agg (GTerm.q udc)) [(3, .app 41)]) }, { tk := [34] }] ⟨[tP 4 4], [(4, .cells (GTerm.q udc) [(3, .app 41)]), bC 1000000 (GL01Cur.q u7v.1)], []⟩ (.cons (cl_cons (c := cI.i64) (x := 0) rfl (cl_cons (c := cI.i64) (x := 1) rfl (cl_cons (c := cI.i64) (x := -7) rfl (cl_cons (c := cI.i64) (x := 999999999) rfl (cl_nil cI.i64))))) (.cons (cspec_l01PickInt h527) (.cons (cspec_l03Num h528) .nil))) ?_
              obtain rfl := Option.some.inj h; exact Wc.ret dn
            · refine Wc.cF h526 ?_
              apply Wc.seq
              refine Wc.r0 ⟨[tP 0 1000000, tI 1 uv, tP 4 4, tI 5 u11, tB 35 (u11 == 6)], [(4, .cells GTerm.z [(3, .app 41)]), bC 1000000 (GL01Cur.q vt.1)], []⟩ ?_
              rcases oif h with ⟨h529, h⟩ | ⟨h529, h⟩
              · refine Wc.cT h529 ?_
                apply Wc.seq
                obtain ⟨uau, h530, h⟩ := obind h
                obtain ⟨u7w, h531, h⟩ := obind h
                obtain ⟨udd, h532, h⟩ := obind h
                refine Wc.r2 [{}, {}, {}, { r := some (.v (.agg (GTerm.q uau.2)) [(3, .app 41)]), outs := [(0, .p (GL01Cur.q uau.1) [])] }, {}, {}, {}, { r := some (.v (.agg (GTerm.q u7w.2)) [(3, .app 41)]), outs := [(0, .p (GL01Cur.q u7w.1) [])] }, { r := some (.v (.agg (GTerm.q udd)) [(3, .app 41)]) }, { tk := [46] }] ⟨[tP 4 4], [(4, .cells (GTerm.q udd) [(3, .app 41)]), bC 1000000 (GL01Cur.q u7w.1)], []⟩ (.cons (ih_pspec_l03Made h530) (.cons (ih_pspec_l03Made h531) (.cons (cspec_l03Two h532) .nil))) ?_
                obtain rfl := Option.some.inj h; exact Wc.ret dn
              · refine Wc.cF h529 ?_
                apply Wc.seq
                refine Wc.r0 ⟨[tP 0 1000000, tI 1 uv, tP 4 4, tB 47 (u11 == 7)], [(4, .cells GTerm.z [(3, .app 41)]), bC 1000000 (GL01Cur.q vt.1)], []⟩ ?_
                rcases oif h with ⟨h533, h⟩ | ⟨h533, h⟩
                · refine Wc.cT h533 ?_
                  apply Wc.seq
                  obtain ⟨uav, h534, h⟩ := obind h
                  obtain ⟨uaw, h535, h⟩ := obind h
                  obtain ⟨u7x, h536, h⟩ := obind h
                  obtain ⟨ude, h537, h⟩ := obind h
                  refine Wc.r2 [{}, { c := some (List.map cS [(bs [43]), (bs [61]), (bs [44]), (bs [102]), (bs [59])]) }, { r := some (.v (.str uav.2) []), outs := [(0, .p (GL01Cur.q uav.1) [])] }, {}, {}, {}, { r := some (.v (.agg (GTerm.q uaw.2)) [(3, .app 41)]), outs := [(0, .p (GL01Cur.q uaw.1) [])] }, {}, {}, {}, { r := some (.v (.agg (GTerm.q u7x.2)) [(3, .app 41)]), outs := [(0, .p (GL01Cur.q u7x.1) [])] }, { r := some (.v (.agg (GTerm.q ude)) [(3, .app 41)]) }, { tk := [61] }] ⟨[tP 4 4], [(4, .cells (GTerm.q ude) [(3, .app 41)]), bC 1000000 (GL01Cur.q u7x.1)], []⟩ (.cons (cl_cons (c := cS) (x := (bs [43])) rfl (cl_cons (c := cS) (x := (bs [61])) rfl (cl_cons (c := cS) (x := (bs [44])) rfl (cl_cons (c := cS) (x := (bs [102])) rfl (cl_cons (c := cS) (x := (bs [59])) rfl (cl_nil cS)))))) (.cons (cspec_l01Pick h534) (.cons (ih_pspec_l03Made h535) (.cons (ih_pspec_l03Made h536) (.cons (cspec_l03Two h537) .nil))))) ?_
                  obtain rfl := Option.some.inj h; exact Wc.ret dn
                · refine Wc.cF h533 ?_
                  refine Wc.fx [] ⟨[tP 0 1000000, tI 1 uv, tP 4 4], [(4, .cells GTerm.z [(3, .app 41)]), bC 1000000 (GL01Cur.q vt.1)], []⟩ ?_
                  refine Wc.skip ?_
                  apply Wc.seq
                  obtain ⟨u4q, h538, h⟩ := obind h
                  refine Wc.r2 [{}, { c := some (List.map cS [(bs [102]), (bs [103]), (bs [45]), (bs [91, 93])]) }, { r := some (.v (.str u4q.2) []), outs := [(0, .p (GL01Cur.q u4q.1) [])] }, {}, {}, { tk := [65] }] ⟨[tP 0 1000000, tI 1 uv, tP 4 4, tP 6 6], [(4, .cells GTerm.z [(3, .app 41)]), (6, .cells [aI 4, .str u4q.2, aI 0, .sl (List.map GTerm.c [])] [(3, .app 41)]), bC 1000000 (GL01Cur.q u4q.1)], []⟩ (.cons (cl_cons (c := cS) (x := (bs [102])) rfl (cl_cons (c := cS) (x := (bs [103])) rfl (cl_cons (c := cS) (x := (bs [45])) rfl (cl_cons (c := cS) (x := (bs [91, 93])) rfl (cl_nil cS))))) (.cons (cspec_l01Pick h538) .nil)) ?_
                  apply Wc.seq
                  apply Wc.seq
                  refine Wc.r0 ⟨[tP 0 1000000, tI 1 uv, tP 4 4, tP 6 6, tI 7 0], [(4, .cells GTerm.z [(3, .app 41)]), (6, .cells [aI 4, .str u4q.2, aI 0, .sl (List.map GTerm.c [])] [(3, .app 41)]), bC 1000000 (GL01Cur.q u4q.1)], []⟩ ?_
                  obtain ⟨out2, h539, h⟩ := obind h
                  refine Wc.lastJ (fun st => ∃ (u7y : GTerm) (u7z : GL01Cur), out2 = .done (u7y, u7z) ∧ st = ⟨[tP 4 4, tP 6 6], [(4, .cells GTerm.z [(3, .app 41)]), (6, .cells (GTerm.q u7y) [(3, .app 41)]), bC 1000000 (GL01Cur.q u7z)], []⟩) ?_ ?_
                  · refine Wc.block ?_
                    refine Wc.loop (fun m st => ∃ (u21 : Int) (vo : GTerm) (uat : GL01Cur), st = ⟨[tP 0 1000000, tI 1 uv, tP 4 4, tP 6 6, tI 7 u21], [(4, .cells GTerm.z [(3, .app 41)]), (6, .cells (GTerm.q vo) [(3, .app 41)]), bC 1000000 (GL01Cur.q uat)], []⟩ ∧ pspec_l03Made_L2 k (pspec_l03Made k) uv m u21 vo uat = some out2) ?_ k ⟨_, _, _, rfl, h539⟩
                    rintro m st ⟨u21, vo, uat, rfl, h539⟩
                    cases m with
                    | zero => exact (onone h539).elim
                    | succ m =>
                      apply Wc.seq
                      apply Wc.seq
                      obtain ⟨u2i, h540, h539⟩ := obind h539
                      refine Wc.r2 [{}, {}, { r := some (.v (aI u2i.2) []), outs := [(0, .p (GL01Cur.q u2i.1) [])] }] ⟨[tP 0 1000000, tI 1 uv, tP 4 4, tP 6 6, tI 7 u21, tB 70 (decide (u21 < (wr.i64 (1 + u2i.2))))], [(4, .cells GTerm.z [(3, .app 41)]), (6, .cells (GTerm.q vo) [(3, .app 41)]), bC 1000000 (GL01Cur.q u2i.1)], []⟩ (.cons (cspec_l01Below h540) .nil) ?_
                      rcases oif h539 with ⟨h541, h539⟩ | ⟨h541, h539⟩
                      · refine Wc.cT h541 ?_
                        refine Wc.fx [] ⟨[tP 0 1000000, tI 1 uv, tP 4 4, tP 6 6, tI 7 u21], [(4, .cells GTerm.z [(3, .app 41)]), (6, .cells (GTerm.q vo) [(3, .app 41)]), bC 1000000 (GL01Cur.q u2i.1)], []⟩ ?_
                        refine Wc.skip ?_
                        apply Wc.seq
                        refine Wc.block ?_
                        apply Wc.seq
                        refine Wc.r2 [{}, {}, { v := some (aI (vo.gKids.length : Int)) }] ⟨[tP 0 1000000, tI 1 uv, tP 4 4, tP 6 6, tI 7 u21, tB 76 (decide ((vo.gKids.length : Int) < 5))], [(4, .cells GTerm.z [(3, .app 41)]), (6, .cells (GTerm.q vo) [(3, .app 41)]), bC 1000000 (GL01Cur.q u2i.1)], []⟩ (.cons (len_obl GTerm.c vo.gKids) .nil) ?_
                        rcases oif h539 with ⟨h542, h539⟩ | ⟨h542, h539⟩
                        · refine Wc.cT h542 ?_
                          obtain ⟨u19, h543, h539⟩ := obind h539
                          obtain ⟨h544, h539⟩ := oguard h539
                          refine Wc.draw hmix [{}, { md := 1 }, {}, {}, {}, { r := some (.v (.agg (GTerm.q u19.2)) [(3, .app 41)]), outs := [(0, .p (GL01Cur.q u19.1) [])] }, { c := some (List.map GTerm.c [u19.2]) }, { c := some (List.map GTerm.c (vo.gKids ++ [u19.2])), tk := [78] }, {}, { tk := [84] }] [] [0, 1, 4, 6, 7] [4, 6, 1000000] [] ⟨[tP 0 1000000, tI 1 uv, tP 4 4, tP 6 6, tI 7 u21], [(4, .cells GTerm.z [(3, .app 41)]), (6, .cells [aI vo.gKind, .str vo.gName, aI vo.gNum, .sl (List.map GTerm.c (vo.gKids ++ [u19.2]))] [(3, .app 41)]), bC 1000000 (GL01Cur.q u19.1)], []⟩ _ (by kernel_rfl) (fun X => by kernel_rfl) (.cons (ih_pspec_l03Made h543) (.cons (cl_cons (c := GTerm.c) (x := u19.2) (GTerm.c_eq u19.2) (cl_nil GTerm.c)) (.cons (app_re2 GTerm.c vo.gKids [u19.2]) (.cons (app_leaf (c := GTerm.c) (ys := [u19.2]) GTerm.c_leaf) (.cons (app_obl2 (c := GTerm.c) (xs := vo.gKids) (ys := [u19.2]) GTerm.c_len h544) .nil))))) ?_
                          refine Wc.r0 ⟨[tP 0 1000000, tI 1 uv, tP 4 4, tP 6 6, tI 7 (wr.i64 (u21 + 1))], [(4, .cells GTerm.z [(3, .app 41)]), (6, .cells [aI vo.gKind, .str vo.gName, aI vo.gNum, .sl (List.map GTerm.c (vo.gKids ++ [u19.2]))] [(3, .app 41)]), bC 1000000 (GL01Cur.q u19.1)], []⟩ ?_
                          exact ⟨_, Nat.lt_succ_self _, _, _, _, rfl, h539⟩
                        · refine Wc.cF h542 ?_
                          refine Wc.fx [] ⟨[tP 0 1000000, tI 1 uv, tP 4 4, tP 6 6, tI 7 u21], [(4, .cells GTerm.z [(3, .app 41)]), (6, .cells (GTerm.q vo) [(3, .app 41)]), bC 1000000 (GL01Cur.q u2i.1)], []⟩ ?_
                          refine Wc.skip ?_
                          refine Wc.r0 ⟨[tP 0 1000000, tI 1 uv, tP 4 4, tP 6 6, tI 7 (wr.i64 (u21 + 1))], [(4, .cells GTerm.z [(3, .app 41)]), (6, .cells (GTerm.q vo) [(3, .app 41)]), bC 1000000 (GL01Cur.q u2i.1)], []⟩ ?_
                          exact ⟨_, Nat.lt_succ_self _, _, _, _, rfl, h539⟩
                      · refine Wc.cF h541 ?_
                        refine Wc.fx [] ⟨[tP 4 4, tP 6 6], [(4, .cells GTerm.z [(3, .app 41)]), (6, .cells (GTerm.q vo) [(3, .app 41)]), bC 1000000 (GL01Cur.q u2i.1)], []⟩ ?_
                        refine Wc.exit ?_
                        obtain rfl := Option.some.inj h539
                        exact ⟨_, _, rfl, rfl⟩
                  · rintro st ⟨u7y, u7z, rfl, rfl⟩
                    apply Wc.seq
                    refine Wc.r1 [{ md := 1 }, { tk := [86] }] ⟨[tP 4 4], [(4, .cells (GTerm.q u7y) [(3, .app 41)]), bC 1000000 (GL01Cur.q u7z)], []⟩ ?_
                    obtain rfl := Option.some.inj h; exact Wc.ret dn
theorem cspec_l03Made {k : Nat} {u42 : GL01Cur} {uv : Int} {r : GL01Cur × GTerm} (h : pspec_l03Made k u42 uv = some r) : FnO Try.prog 94 [.p (GL01Cur.q u42) [], .v (aI uv) []] (.v (.agg (GTerm.q r.2)) [(3, .app 41)]) [(0, .p (GL01Cur.q r.1) [])] := (all_pspec_l03Made k) h

def pspec_l03Any_L1 (k : Nat) (vx : GL01Cur × Int) : Nat → Int → GTerm → Option (Out (GL01Cur × GTerm) GTerm)
  | 0, _, _ => none
  | m + 1, u3r, u2j =>
    if (4 : Int) ≠ 0 then
      if (decide (u3r < (wr.i64 (38 + (Int.tmod vx.2 4))))) = true then
        pspec_l03Any_L1 k vx m (wr.i64 (u3r + 1)) (GTerm.mk 4 (bs [115]) 0 [u2j])
      else
        some (.done u2j)
    else none
def pspec_l03Any (k : Nat) (uax : GL01Cur) : Option (GL01Cur × GTerm) :=
  (pspec_l01Below k uax 12).bind fun u0n =>
  (pspec_l01Below k u0n.1 60).bind fun vx =>
  (pspec_l03Made k vx.1 3).bind fun uc =>
  if (u0n.2 == 0) = true then
    if (6 : Int) ≠ 0 then
      some (uc.1, GTerm.mk (Int.tmod vx.2 6) uc.2.gName uc.2.gNum uc.2.gKids)
    else none
  else
    if (u0n.2 == 1) = true then
      if (4 : Int) ≠ 0 then
        (at' [(bs []), (bs [97, 32, 98]), (bs [39]), (bs [97, 97, 97, 97, 97, 97, 97, 97, 97, 97, 97, 97, 97, 97, 97, 97, 97, 97, 97, 97, 97])] (Int.tmod vx.2 4)).bind fun u80 =>
        some (uc.1, GTerm.mk uc.2.gKind u80 uc.2.gNum uc.2.gKids)
      else none
    else
      if (u0n.2 == 2) = true then
        if (3 : Int) ≠ 0 then
          (at' [-1, 100000, 1000000000] (Int.tmod vx.2 3)).bind fun u81 =>
          some (uc.1, GTerm.mk uc.2.gKind uc.2.gName u81 uc.2.gKids)
        else none
      else
        if (u0n.2 == 3) = true then
          (pspec_l03Any_L1 k vx k 0 uc.2).bind fun out1 => match out1 with
          | .ret r => some r
          | .done u82 =>
            some (uc.1, u82)
        else
          some (uc.1, uc.2)
set_option maxHeartbeats 4000000 in
theorem cspec_l03Any {k : Nat} {uax : GL01Cur} {r : GL01Cur × GTerm} (h : pspec_l03Any k uax = some r) : FnO Try.prog 56 [.p (GL01Cur.q uax) []] (.v (.agg (GTerm.q r.2)) [(3, .app 41)]) [(0, .p (GL01Cur.q r.1) [])] := by
  refine FnO.o2 Try.func56 (rfl : Try.f56.body = some _) ?_
  intro w0 X0 Fin pv0 pb gt
  unfold pspec_l03Any at h
  apply Wc.seq
  refine Wc.r0 ⟨[tP 0 1000000, tP 2 2], [(2, .cells GTerm.z [(3, .app 41)]), bC 1000000 (GL01Cur.q uax)], []⟩ ?_
  apply Wc.seq
  obtain ⟨u0n, h562, h⟩ := obind h
  refine Wc.r2 [{}, { r := some (.v (aI u0n.2) []), outs := [(0, .p (GL01Cur.q u0n.1) [])] }] ⟨[tP 0 1000000, tP 2 2, tI 3 u0n.2], [(2, .cells GTerm.z [(3, .app 41)]), bC 1000000 (GL01Cur.q u0n.1)], []⟩ (.cons (cspec_l01Below h562) .nil) ?_
  apply Wc.seq
  obtain ⟨vx, h563, h⟩ := obind h
  refine Wc.r2 [{}, { r := some (.v (aI vx.2) []), outs := [(0, .p (GL01Cur.q vx.1) [])] }] ⟨[tP 0 1000000, tP 2 2, tI 3 u0n.2, tI 4 vx.2], [(2, .cells GTerm.z [(3, .app 41)]), bC 1000000 (GL01Cur.q vx.1)], []⟩ (.cons (cspec_l01Below h563) .nil) ?_
  apply Wc.seq
  obtain ⟨uc, h564, h⟩ := obind h
  refine Wc.r2 [{}, { r := some (.v (.agg (GTerm.q uc.2)) [(3, .app 41)]), outs := [(0, .p (GL01Cur.q uc.1) [])] }, {}, { tk := [12] }] ⟨[tP 2 2, tI 3 u0n.2, tI 4 vx.2, tP 5 5], [(2, .cells GTerm.z [(3, .app 41)]), (5, .cells (GTerm.q uc.2) [(3, .app 41)]), bC 1000000 (GL01Cur.q uc.1)], []⟩ (.cons (cspec_l03Made h564) .nil) ?_
  apply Wc.seq
  apply Wc.seq
  refine Wc.r0 ⟨[tP 2 2, tI 4 vx.2, tP 5 5, tI 13 u0n.2], [(2, .cells GTerm.z [(3, .app 41)]), (5, .cells (GTerm.q uc.2) [(3, .app 41)]), bC 1000000 (GL01Cur.q uc.1)], []⟩ ?_
  refine Wc.block ?_
  apply Wc.seq
  refine Wc.r0 ⟨[tP 2 2, tI 4 vx.2, tP 5 5, tI 13 u0n.2, tB 14 (u0n.2 == 0)], [(2, .cells GTerm.z [(3, .app 41)]), (5, .cells (GTerm.q uc.2) [(3, .app 41)]), bC 1000000 (GL01Cur.q uc.1)], []⟩ ?_
  rcases oif h with ⟨h565, h⟩ | ⟨h565, h⟩
  · refine Wc.cT h565 ?_
    obtain ⟨h566, h⟩ := oguard h
    refine Wc.r2 [] ⟨[tP 2 2, tP 5 5], [(2, .cells GTerm.z [(3, .app 41)]), (5, .cells [aI (Int.tmod vx.2 6), .str uc.2.gName, aI uc.2.gNum, .sl (List.map GTerm.c uc.2.gKids)] [(3, .app 41)]), bC 1000000 (GL01Cur.q uc.1)], []⟩ (.cons h566 .nil) ?_
    apply Wc.seq
    refine Wc.r1 [{ md := 1 }, { tk := [47] }] ⟨[tP 2 2], [(2, .cells [aI (Int.tmod vx.2 6), .str uc.2.gName, aI uc.2.gNum, .sl (List.map GTerm.c uc.2.gKids)] [(3, .app 41)]), bC 1000000 (GL01Cur.q uc.1)], []⟩ ?_
    obtain rfl := Option.some.inj h; exact Wc.ret dn
  · refine Wc.cF h565 ?_
    apply Wc.seq
    refine Wc.r0 ⟨[tP 2 2, tI 4 vx.2, tP 5 5, tI 13 u0n.2, tB 19 (u0n.2 == 1)], [(2, .cells GTerm.z [(3, .app 41)]), (5, .cells (GTerm.q uc.2) [(3, .app 41)]), bC 1000000 (GL01Cur.q uc.1)], []⟩ ?_
    rcases oif h with ⟨h567, h⟩ | ⟨h567, h⟩
    · refine Wc.cT h567 ?_
      obtain ⟨h568, h⟩ := oguard h
      obtain ⟨u80, h569, h⟩ := obind h
      refine Wc.r2 [{ c := some (List.map cS [(bs []), (bs [97, 32, 98]), (bs [39]), (bs [97, 97, 97, 97, 97, 97, 97, 97, 97, 97, 97, 97, 97, 97, 97, 97, 97, 97, 97, 97, 97])]) }, {}, {}, { v := some (.vptr [.str u80]) }] ⟨[tP 2 2, tP 5 5], [(2, .cells GTerm.z [(3, .app 41)]), (5, .cells [aI uc.2.gKind, .str u80, aI uc.2.gNum, .sl (List.map GTerm.c uc.2.gKids)] [(3, .app 41)]), bC 1000000 (GL01Cur.q uc.1)], []⟩ (.cons (cl_cons (c := cS) (x := (bs [])) rfl (cl_cons (c := cS) (x := (bs [97, 32, 98])) rfl (cl_cons (c := cS) (x := (bs [39])) rfl (cl_cons (c := cS) (x := (bs [97, 97, 97, 97, 97, 97, 97, 97, 97, 97, 97, 97, 97, 97, 97, 97, 97, 97, 97, 97, 97])) rfl (cl_nil cS))))) (.cons h568 (.cons (at_obl (c := cS) rfl cS_len h569) (.cons (len_ok 1 [.str u80]) .nil)))) ?_
      apply Wc.seq
      refine Wc.r1 [{ md := 1 }, { tk := [47] }] ⟨[tP 2 2], [(2, .cells [aI uc.2.gKind, .str u80, aI uc.2.gNum, .sl (List.map GTerm.c uc.2.gKids)] [(3, .app 41)]), bC 1000000 (GL01Cur.q uc.1)], []⟩ ?_
      obtain rfl := Option.some.inj h; exact Wc.ret dn
    · refine Wc.cF h567 ?_
      apply Wc.seq
      refine Wc.r0 ⟨[tP 2 2, tI 4 vx.2, tP 5 5, tI 13 u0n.2, tB 27 (u0n.2 == 2)], [(2, .cells GTerm.z [(3, .app 41)]), (5, .cells (GTerm.q uc.2) [(3, .app 41)]), bC 1000000 (GL01Cur.q uc.1)], []⟩ ?_
      rcases oif h with ⟨h570, h⟩ | ⟨h570, h⟩
      · refine Wc.cT h570 ?_
        obtain ⟨h571, h⟩ := oguard h
        obtain ⟨u81, h572, h⟩ := obind h
        refine Wc.r2 [{ c := some (List.map cI.i64 [-1, 100000, 1000000000]) }, {}, {}, { v := some (.vptr [aI u81]) }] ⟨[tP 2 2, tP 5 5], [(2, .cells GTerm.z [(3, .app 41)]), (5, .cells [aI uc.2.gKind, .str uc.2.gName, aI u81, .sl (List.map GTerm.c uc.2.gKids)] [(3, .app 41)]), bC 1000000 (GL01Cur.q uc.1)], []⟩ (.cons (cl_cons (c := cI.i64) (x := -1) rfl (cl_cons (c := cI.i64) (x := 100000) rfl (cl_cons (c := cI.i64) (x := 1000000000) rfl (cl_nil cI.i64)))) (.cons h571 (.cons (at_obl (c := cI.i64) rfl cI.i64_len h572) (.cons (len_ok 1 [aI u81]) .nil)))) ?_
        apply Wc.seq
        refine Wc.r1 [{ md := 1 }, { tk := [47] }] ⟨[tP 2 2], [(2, .cells [aI uc.2.gKind, .str uc.2.gName, aI u81, .sl (List.map GTerm.c uc.2.gKids)] [(3, .app 41)]), bC 1000000 (GL01Cur.q uc.1)], []⟩ ?_
        obtain rfl := Option.some.inj h; exact Wc.ret dn
      · refine Wc.cF h570 ?_
        apply Wc.seq
        refine Wc.r0 ⟨[tP 2 2, tI 4 vx.2, tP 5 5, tB 35 (u0n.2 == 3)], [(2, .cells GTerm.z [(3, .app 41)]), (5, .cells (GTerm.q uc.2) [(3, .app 41)]), bC 1000000 (GL01Cur.q uc.1)], []⟩ ?_
        rcases oif h with ⟨h573, h⟩ | ⟨h573, h⟩
        · refine Wc.cT h573 ?_
          apply Wc.seq
          refine Wc.r0 ⟨[tP 2 2, tI 4 vx.2, tP 5 5, tI 6 0], [(2, .cells GTerm.z [(3, .app 41)]), (5, .cells (GTerm.q uc.2) [(3, .app 41)]), bC 1000000 (GL01Cur.q uc.1)], []⟩ ?_
          obtain ⟨out1, h574, h⟩ := obind h
          refine Wc.lastJ (fun st => ∃ (u82 : GTerm), out1 = .done u82 ∧ st = ⟨[tP 2 2, tP 5 5], [(2, .cells GTerm.z [(3, .app 41)]), (5, .cells (GTerm.q u82) [(3, .app 41)]), bC 1000000 (GL01Cur.q uc.1)], []⟩) ?_ ?_
          · refine Wc.block ?_
            refine Wc.loop (fun m st => ∃ (u3r : Int) (u2j : GTerm), st = ⟨[tP 2 2, tI 4 vx.2, tP 5 5, tI 6 u3r], [(2, .cells GTerm.z [(3, .app 41)]), (5, .cells (GTerm.q u2j) [(3, .app 41)]), bC 1000000 (GL01Cur.q uc.1)], []⟩ ∧ pspec_l03Any_L1 k vx m u3r u2j = some out1) ?_ k ⟨_, _, rfl, h574⟩
            rintro m st ⟨u3r, u2j, rfl, h574⟩
            cases m with
            | zero => exact (onone h574).elim
            | succ m =>
              apply Wc.seq
              apply Wc.seq
              obtain ⟨h575, h574⟩ := oguard h574
              refine Wc.r2 [] ⟨[tP 2 2, tI 4 vx.2, tP 5 5, tI 6 u3r, tB 41 (decide (u3r < (wr.i64 (38 + (Int.tmod vx.2 4)))))], [(2, .cells GTerm.z [(3, .app 41)]), (5, .cells (GTerm.q u2j) [(3, .app 41)]), bC 1000000 (GL01Cur.q uc.1)], []⟩ (.cons h575 .nil) ?_
              rcases oif h574 with ⟨h576, h574⟩ | ⟨h576, h574⟩
              · refine Wc.cT h576 ?_
                refine Wc.fx [] ⟨[tP 2 2, tI 4 vx.2, tP 5 5, tI 6 u3r], [(2, .cells GTerm.z [(3, .app 41)]), (5, .cells (GTerm.q u2j) [(3, .app 41)]), bC 1000000 (GL01Cur.q uc.1)], []⟩ ?_
                refine Wc.skip ?_
                apply Wc.seq
                refine Wc.block ?_
                refine Wc.r2 [{}, { c := some (List.map GTerm.c [u2j]) }, { tk := [45] }, { tk := [46] }] ⟨[tP 2 2, tI 4 vx.2, tP 5 5, tI 6 u3r], [(2, .cells GTerm.z [(3, .app 41)]), (5, .cells [aI 4, .str (bs [115]), aI 0, .sl (List.map GTerm.c [u2j])] [(3, .app 41)]), bC 1000000 (GL01Cur.q uc.1)], []⟩ (.cons (cl_cons (c := GTerm.c) (x := u2j) (GTerm.c_eq u2j) (cl_nil GTerm.c)) .nil) ?_
                refine Wc.r0 ⟨[tP 2 2, tI 4 vx.2, tP 5 5, tI 6 (wr.i64 (u3r + 1))], [(2, .cells GTerm.z [(3, .app 41)]), (5, .cells [aI 4, .str (bs [115]), aI 0, .sl (List.map GTerm.c [u2j])] [(3, .app 41)]), bC 1000000 (GL01Cur.q uc.1)], []⟩ ?_
                exact ⟨_, Nat.lt_succ_self _, _, _, rfl, h574⟩
              · refine Wc.cF h576 ?_
                refine Wc.fx [] ⟨[tP 2 2, tP 5 5], [(2, .cells GTerm.z [(3, .app 41)]), (5, .cells (GTerm.q u2j) [(3, .app 41)]), bC 1000000 (GL01Cur.q uc.1)], []⟩ ?_
                refine Wc.exit ?_
                obtain rfl := Option.some.inj h574
                exact ⟨_, rfl, rfl⟩
          · rintro st ⟨u82, rfl, rfl⟩
            apply Wc.seq
            refine Wc.r1 [{ md := 1 }, { tk := [47] }] ⟨[tP 2 2], [(2, .cells (GTerm.q u82) [(3, .app 41)]), bC 1000000 (GL01Cur.q uc.1)], []⟩ ?_
            obtain rfl := Option.some.inj h; exact Wc.ret dn
        · refine Wc.cF h573 ?_
          refine Wc.fx [] ⟨[tP 2 2, tP 5 5], [(2, .cells GTerm.z [(3, .app 41)]), (5, .cells (GTerm.q uc.2) [(3, .app 41)]), bC 1000000 (GL01Cur.q uc.1)], []⟩ ?_
          refine Wc.skip ?_
          apply Wc.seq
          refine Wc.r1 [{ md := 1 }, { tk := [47] }] ⟨[tP 2 2], [(2, .cells (GTerm.q uc.2) [(3, .app 41)]), bC 1000000 (GL01Cur.q uc.1)], []⟩ ?_
          obtain rfl := Option.some.inj h; exact Wc.ret dn

def pspec_BindsNew_J1 (k : Nat) (u22 : Int) : Option GBinds :=
  if (decide (u22 > 5000)) = true then
    if 0 ≤ (5000 : Int) ∧ (5000 : Int) ≤ 1073741824 then
      some (GBinds.mk (List.replicate ((5000 : Int)).toNat (GTerm.mk 0 (bs []) 0 [])))
    else none
  else
    if 0 ≤ u22 ∧ u22 ≤ 1073741824 then
      some (GBinds.mk (List.replicate (u22).toNat (GTerm.mk 0 (bs []) 0 [])))
    else none
def pspec_BindsNew (k : Nat) (u4r : Int) : Option GBinds :=
  if (decide (u4r < 0)) = true then
    pspec_BindsNew_J1 k 0
  else
    pspec_BindsNew_J1 k u4r
theorem cspec_BindsNew {k : Nat} {u4r : Int} {r : GBinds} (h : pspec_BindsNew k u4r = some r) : FnO Try.prog 34 [.v (aI u4r) []] (.v (.agg [.sl (List.map GTerm.c r.gList)]) []) [] := by
  refine FnO.o2 Try.func34 (rfl : Try.f34.body = some _) ?_
  intro w0 X0 Fin pv0 pb gt
  unfold pspec_BindsNew at h
  apply Wc.seq
  refine Wc.r0 ⟨[tI 0 u4r, tP 2 2], [(2, .cells GBinds.z [(0, .app 41)])], []⟩ ?_
  refine Wc.seqJ (fun st => ∃ (u22 : Int), st = ⟨[tI 0 u22, tP 2 2], [(2, .cells GBinds.z [(0, .app 41)])], []⟩ ∧ pspec_BindsNew_J1 k u22 = some r) ?_ ?_
  · apply Wc.seq
    refine Wc.r0 ⟨[tI 0 u4r, tP 2 2, tB 4 (decide (u4r < 0))], [(2, .cells GBinds.z [(0, .app 41)])], []⟩ ?_
    rcases oif h with ⟨h580, h⟩ | ⟨h580, h⟩
    · refine Wc.cT h580 ?_
      refine Wc.r0 ⟨[tI 0 0, tP 2 2], [(2, .cells GBinds.z [(0, .app 41)])], []⟩ ?_
      exact ⟨_, rfl, h⟩
    · refine Wc.cF h580 ?_
      refine Wc.fx [] ⟨[tI 0 u4r, tP 2 2], [(2, .cells GBinds.z [(0, .app 41)])], []⟩ ?_
      refine Wc.skip ?_
      exact ⟨_, rfl, h⟩
  · rintro st ⟨u22, rfl, h⟩
    apply Wc.seq
    apply Wc.seq
    refine Wc.r0 ⟨[tI 0 u22, tP 2 2, tB 6 (decide (u22 > 5000))], [(2, .cells GBinds.z [(0, .app 41)])], []⟩ ?_
    rcases oif h with ⟨h577, h⟩ | ⟨h577, h⟩
    · refine Wc.cT h577 ?_
      refine Wc.r0 ⟨[tI 0 5000, tP 2 2], [(2, .cells GBinds.z [(0, .app 41)])], []⟩ ?_
      apply Wc.seq
      obtain ⟨h578, h⟩ := oguard h
      refine Wc.r2 [{}, { c := some (List.map GTerm.c (List.replicate ((5000 : Int)).toNat (GTerm.mk 0 (bs []) 0 []))) }, { tk := [8], fx := [.ag (.t 8 0)] }, { tk := [9] }] ⟨[tP 2 2], [(2, .cells [.slx] [(0, .ex 41 false (List.map GTerm.c (List.replicate ((5000 : Int)).toNat (GTerm.mk 0 (bs []) 0 []))))])], []⟩ (.cons (rep_re (c := GTerm.c) (z := (GTerm.mk 0 (bs []) 0 [])) (GTerm.c_eq (GTerm.mk 0 (bs []) 0 [])) ((5000 : Int)).toNat) (.cons (ms_obl h578) .nil)) ?_
      refine Wc.fx [.sh (.b 2 0)] ⟨[tP 2 2], [bC 2 [.sl (List.map GTerm.c (List.replicate ((5000 : Int)).toNat (GTerm.mk 0 (bs []) 0 [])))]], []⟩ ?_
      obtain rfl := Option.some.inj h; exact Wc.ret dn
    · refine Wc.cF h577 ?_
      refine Wc.fx [] ⟨[tI 0 u22, tP 2 2], [(2, .cells GBinds.z [(0, .app 41)])], []⟩ ?_
      refine Wc.skip ?_
      apply Wc.seq
      obtain ⟨h579, h⟩ := oguard h
      refine Wc.r2 [{}, { c := some (List.map GTerm.c (List.replicate (u22).toNat (GTerm.mk 0 (bs []) 0 []))) }, { tk := [8], fx := [.ag (.t 8 0)] }, { tk := [9] }] ⟨[tP 2 2], [(2, .cells [.slx] [(0, .ex 41 false (List.map GTerm.c (List.replicate (u22).toNat (GTerm.mk 0 (bs []) 0 []))))])], []⟩ (.cons (rep_re (c := GTerm.c) (z := (GTerm.mk 0 (bs []) 0 [])) (GTerm.c_eq (GTerm.mk 0 (bs []) 0 [])) (u22).toNat) (.cons (ms_obl h579) .nil)) ?_
      refine Wc.fx [.sh (.b 2 0)] ⟨[tP 2 2], [bC 2 [.sl (List.map GTerm.c (List.replicate (u22).toNat (GTerm.mk 0 (bs []) 0 [])))]], []⟩ ?_
      obtain rfl := Option.some.inj h; exact Wc.ret dn

def pspec_l03Term (k : Nat) (uay : GL01Cur) : Option (GL01Cur × GTerm) :=
  (pspec_l03Made k uay 3).bind fun u23 =>
  (pspec_TermOk k u23.2).bind fun udf =>
  if udf = true then
    some (u23.1, u23.2)
  else
    (pspec_l03Atom k (bs [97])).bind fun udg =>
    some (u23.1, udg)
theorem cspec_l03Term {k : Nat} {uay : GL01Cur} {r : GL01Cur × GTerm} (h : pspec_l03Term k uay = some r) : FnO Try.prog 66 [.p (GL01Cur.q uay) []] (.v (.agg (GTerm.q r.2)) [(3, .app 41)]) [(0, .p (GL01Cur.q r.1) [])] := by
  refine FnO.o2 Try.func66 (rfl : Try.f66.body = some _) ?_
  intro w0 X0 Fin pv0 pb gt
  unfold pspec_l03Term at h
  apply Wc.seq
  refine Wc.r0 ⟨[tP 0 1000000, tP 2 2], [(2, .cells GTerm.z [(3, .app 41)]), bC 1000000 (GL01Cur.q uay)], []⟩ ?_
  apply Wc.seq
  obtain ⟨u23, h585, h⟩ := obind h
  refine Wc.r2 [{}, { r := some (.v (.agg (GTerm.q u23.2)) [(3, .app 41)]), outs := [(0, .p (GL01Cur.q u23.1) [])] }, {}, { tk := [5] }] ⟨[tP 2 2, tP 3 3], [(2, .cells GTerm.z [(3, .app 41)]), (3, .cells (GTerm.q u23.2) [(3, .app 41)]), bC 1000000 (GL01Cur.q u23.1)], []⟩ (.cons (cspec_l03Made h585) .nil) ?_
  apply Wc.seq
  apply Wc.seq
  obtain ⟨udf, h586, h⟩ := obind h
  refine Wc.r2 [{}, { r := some (.v (.bool udf) []) }] ⟨[tP 2 2, tP 3 3, tB 7 udf], [(2, .cells GTerm.z [(3, .app 41)]), (3, .cells (GTerm.q u23.2) [(3, .app 41)]), bC 1000000 (GL01Cur.q u23.1)], []⟩ (.cons (cspec_TermOk h586) .nil) ?_
  rcases oif h with ⟨h587, h⟩ | ⟨h587, h⟩
  · refine Wc.cT h587 ?_
    apply Wc.seq
    refine Wc.r1 [{ md := 1 }, { tk := [8] }] ⟨[tP 2 2], [(2, .cells (GTerm.q u23.2) [(3, .app 41)]), bC 1000000 (GL01Cur.q u23.1)], []⟩ ?_
    obtain rfl := Option.some.inj h; exact Wc.ret dn
  · refine Wc.cF h587 ?_
    refine Wc.fx [] ⟨[tP 2 2], [(2, .cells GTerm.z [(3, .app 41)]), bC 1000000 (GL01Cur.q u23.1)], []⟩ ?_
    refine Wc.skip ?_
    apply Wc.seq
    obtain ⟨udg, h588, h⟩ := obind h
    refine Wc.r2 [{ r := some (.v (.agg (GTerm.q udg)) [(3, .app 41)]) }, { tk := [9] }] ⟨[tP 2 2], [(2, .cells (GTerm.q udg) [(3, .app 41)]), bC 1000000 (GL01Cur.q u23.1)], []⟩ (.cons (cspec_l03Atom h588) .nil) ?_
    obtain rfl := Option.some.inj h; exact Wc.ret dn

def pspec_l04Walk_L1 (k : Nat) (zm : List GTerm) : Nat → Int → GTerm → Option (Out GTerm GTerm)
  | 0, _, _ => none
  | m + 1, u24, u0a =>
    if (decide (u24 < 5000)) = true then
      if (u0a.gKind != 1) = true then
        some (.done u0a)
      else
        (pspec_l01In k u0a.gNum 0 (wr.i64 ((zm.length : Int) - 1))).bind fun udh =>
        if (!udh) = true then
          some (.done u0a)
        else
          (at' zm u0a.gNum).bind fun u83 =>
          if (u83.gKind == 0) = true then
            some (.done u0a)
          else
            (at' zm u0a.gNum).bind fun u6e =>
            pspec_l04Walk_L1 k zm m (wr.i64 (u24 + 1)) u6e
    else
      some (.done u0a)
def pspec_l04Walk (k : Nat) (zm : List GTerm) (u84 : GTerm) : Option GTerm :=
  (pspec_l04Walk_L1 k zm k 0 u84).bind fun out1 => match out1 with
  | .ret r => some r
  | .done u85 =>
    some u85
theorem cspec_l04Walk {k : Nat} {zm : List GTerm} {u84 : GTerm} {r : GTerm} (h : pspec_l04Walk k zm u84 = some r) : FnO Try.prog 97 [.v (.sl (List.map GTerm.c zm)) [], .v (.agg (GTerm.q u84)) []] (.v (.agg (GTerm.q r)) []) [] := by
  refine FnO.o2 Try.func97 (rfl : Try.f97.body = some _) ?_
  intro w0 X0 Fin pv0 pb gt
  unfold pspec_l04Walk at h
  apply Wc.seq
  refine Wc.r0 ⟨[tV 0 (.sl (List.map GTerm.c zm)), tP 3 3, tP 4 4], [bC 3 (GTerm.q u84), (4, .cells GTerm.z [(3, .app 41)])], []⟩ ?_
  apply Wc.seq
  apply Wc.seq
  refine Wc.r0 ⟨[tV 0 (.sl (List.map GTerm.c zm)), tP 3 3, tP 4 4, tI 5 0], [bC 3 (GTerm.q u84), (4, .cells GTerm.z [(3, .app 41)])], []⟩ ?_
  obtain ⟨out1, h589, h⟩ := obind h
  refine Wc.lastJ (fun st => ∃ (u85 : GTerm), out1 = .done u85 ∧ st = ⟨[tP 3 3, tP 4 4], [bC 3 (GTerm.q u85), (4, .cells GTerm.z [(3, .app 41)])], []⟩) ?_ ?_
  · refine Wc.block ?_
    refine Wc.loop (fun m st => ∃ (u24 : Int) (u0a : GTerm), st = ⟨[tV 0 (.sl (List.map GTerm.c zm)), tP 3 3, tP 4 4, tI 5 u24], [bC 3 (GTerm.q u0a), (4, .cells GTerm.z [(3, .app 41)])], []⟩ ∧ pspec_l04Walk_L1 k zm m u24 u0a = some out1) ?_ k ⟨_, _, rfl, h589⟩
    rintro m st ⟨u24, u0a, rfl, h589⟩
    cases m with
    | zero => exact (onone h589).elim
    | succ m =>
      apply Wc.seq
      apply Wc.seq
      refine Wc.r0 ⟨[tV 0 (.sl (List.map GTerm.c zm)), tP 3 3, tP 4 4, tI 5 u24, tB 7 (decide (u24 < 5000))], [bC 3 (GTerm.q u0a), (4, .cells GTerm.z [(3, .app 41)])], []⟩ ?_
      rcases oif h589 with ⟨h590, h589⟩ | ⟨h590, h589⟩
      · refine Wc.cT h590 ?_
        refine Wc.fx [] ⟨[tV 0 (.sl (List.map GTerm.c zm)), tP 3 3, tP 4 4, tI 5 u24], [bC 3 (GTerm.q u0a), (4, .cells GTerm.z [(3, .app 41)])], []⟩ ?_
        refine Wc.skip ?_
        apply Wc.seq
        refine Wc.block ?_
        apply Wc.seq
        apply Wc.seq
        rcases oif h589 with ⟨h591, h589⟩ | ⟨h591, h589⟩
        · refine Wc.r2 [{}, {}, {}, { re := some (.bool true) }] ⟨[tV 0 (.sl (List.map GTerm.c zm)), tP 3 3, tP 4 4, tI 5 u24, tB 30 true], [bC 3 (GTerm.q u0a), (4, .cells GTerm.z [(3, .app 41)])], []⟩ (.cons (congrArg AV.bool h591) .nil) ?_
          refine Wc.cT rfl ?_
          refine Wc.fx [] ⟨[tP 3 3, tP 4 4], [bC 3 (GTerm.q u0a), (4, .cells GTerm.z [(3, .app 41)])], []⟩ ?_
          refine Wc.exit ?_
          obtain rfl := Option.some.inj h589
          exact ⟨_, rfl, rfl⟩
        · obtain ⟨udh, h592, h589⟩ := obind h589
          rcases oif h589 with ⟨h593, h589⟩ | ⟨h593, h589⟩
          · refine Wc.r2 [{}, {}, {}, { re := some (.bool false) }, {}, {}, {}, { v := some (aI (zm.length : Int)) }, {}, { r := some (.v (.bool udh) []) }, {}, {}, { re := some (.bool true) }] ⟨[tV 0 (.sl (List.map GTerm.c zm)), tP 3 3, tP 4 4, tI 5 u24, tB 30 true], [bC 3 (GTerm.q u0a), (4, .cells GTerm.z [(3, .app 41)])], []⟩ (.cons (congrArg AV.bool h591) (.cons (len_obl GTerm.c zm) (.cons (cspec_l01In h592) (.cons (congrArg AV.bool h593) .nil)))) ?_
            refine Wc.cT rfl ?_
            refine Wc.fx [] ⟨[tP 3 3, tP 4 4], [bC 3 (GTerm.q u0a), (4, .cells GTerm.z [(3, .app 41)])], []⟩ ?_
            refine Wc.exit ?_
            obtain rfl := Option.some.inj h589
            exact ⟨_, rfl, rfl⟩
          · obtain ⟨u83, h594, h589⟩ := obind h589
            refine Wc.r2 [{}, {}, {}, { re := some (.bool false) }, {}, {}, {}, { v := some (aI (zm.length : Int)) }, {}, { r := some (.v (.bool udh) []) }, {}, {}, { re := some (.bool false) }, {}, {}, {}, { v := some (.vptr (GTerm.q u83)) }] ⟨[tV 0 (.sl (List.map GTerm.c zm)), tP 3 3, tP 4 4, tI 5 u24, tB 30 (u83.gKind == 0)], [bC 3 (GTerm.q u0a), (4, .cells GTerm.z [(3, .app 41)])], []⟩ (.cons (congrArg AV.bool h591) (.cons (len_obl GTerm.c zm) (.cons (cspec_l01In h592) (.cons (congrArg AV.bool h593) (.cons (at_obl (c := GTerm.c) (GTerm.c_eq u83) GTerm.c_len h594) (.cons (len_ok 1 (GTerm.q u83)) .nil)))))) ?_
            rcases oif h589 with ⟨h595, h589⟩ | ⟨h595, h589⟩
            · refine Wc.cT h595 ?_
              refine Wc.fx [] ⟨[tP 3 3, tP 4 4], [bC 3 (GTerm.q u0a), (4, .cells GTerm.z [(3, .app 41)])], []⟩ ?_
              refine Wc.exit ?_
              obtain rfl := Option.some.inj h589
              exact ⟨_, rfl, rfl⟩
            · refine Wc.cF h595 ?_
              refine Wc.fx [] ⟨[tV 0 (.sl (List.map GTerm.c zm)), tP 3 3, tP 4 4, tI 5 u24], [bC 3 (GTerm.q u0a), (4, .cells GTerm.z [(3, .app 41)])], []⟩ ?_
              refine Wc.skip ?_
              obtain ⟨u6e, h596, h589⟩ := obind h589
              refine Wc.r2 [{}, {}, {}, { v := some (.vptr (GTerm.q u6e)) }] ⟨[tV 0 (.sl (List.map GTerm.c zm)), tP 3 3, tP 4 4, tI 5 u24], [bC 3 (GTerm.q u6e), (4, .cells GTerm.z [(3, .app 41)])], []⟩ (.cons (at_obl (c := GTerm.c) (GTerm.c_eq u6e) GTerm.c_len h596) (.cons (len_ok 4 (GTerm.q u6e)) .nil)) ?_
              refine Wc.r0 ⟨[tV 0 (.sl (List.map GTerm.c zm)), tP 3 3, tP 4 4, tI 5 (wr.i64 (u24 + 1))], [bC 3 (GTerm.q u6e), (4, .cells GTerm.z [(3, .app 41)])], []⟩ ?_
              exact ⟨_, Nat.lt_succ_self _, _, _, rfl, h589⟩
      · refine Wc.cF h590 ?_
        refine Wc.fx [] ⟨[tP 3 3, tP 4 4], [bC 3 (GTerm.q u0a), (4, .cells GTerm.z [(3, .app 41)])], []⟩ ?_
        refine Wc.exit ?_
        obtain rfl := Option.some.inj h589
        exact ⟨_, rfl, rfl⟩
  · rintro st ⟨u85, rfl, rfl⟩
    apply Wc.seq
    refine Wc.r0 ⟨[tP 4 4], [bC 4 (GTerm.q u85)], []⟩ ?_
    obtain rfl := Option.some.inj h; exact Wc.ret dn

def pspec_l04Uni_link (k : Nat) (zu : GL04Uni) (u3d : Int) (u3e : GTerm) : Option (GL04Uni × Bool) :=
  (pspec_l01In k u3d 0 (wr.i64 ((zu.gList.length : Int) - 1))).bind fun udi =>
  if (!udi) = true then
    some (zu, false)
  else
    (at' zu.gList u3d).bind fun ueb =>
    some (GL04Uni.mk (zu.gList.set ((u3d).toNat) u3e) zu.gPairs, true)
theorem cspec_l04Uni_link {k : Nat} {hv0 : Value} {zu : GL04Uni} {u3d : Int} {u3e : GTerm} {r : GL04Uni × Bool} (h : pspec_l04Uni_link k zu u3d u3e = some r) : FnO Try.prog 161 [.p [.raw hv0, aI zu.gPairs] (GL04Fill.h0_41f zu.gList), .v (aI u3d) [], .v (.agg (GTerm.q u3e)) []] (.v (.bool r.2) []) [(0, .p [.raw hv0, aI r.1.gPairs] (GL04Fill.h0_41f r.1.gList))] := by
  refine FnO.o2 Try.func161 (rfl : Try.f161.body = some _) ?_
  intro w0 X0 Fin pv0 pb gt
  unfold pspec_l04Uni_link at h
  apply Wc.seq
  refine Wc.r0 ⟨[tP 0 1000000, tI 1 u3d, tP 5 5], [bC 5 (GTerm.q u3e), (1000000, .cells [.raw hv0, aI zu.gPairs] (GL04Fill.h0_41f zu.gList))], []⟩ ?_
  apply Wc.seq
  apply Wc.seq
  obtain ⟨udi, h597, h⟩ := obind h
  refine Wc.r2 [{}, {}, {}, {}, {}, { v := some (aI (zu.gList.length : Int)) }, {}, { r := some (.v (.bool udi) []) }] ⟨[tP 0 1000000, tI 1 u3d, tP 5 5, tB 15 (!udi)], [bC 5 (GTerm.q u3e), (1000000, .cells [.raw hv0, aI zu.gPairs] (GL04Fill.h0_41f zu.gList))], []⟩ (.cons (len_obl GTerm.c zu.gList) (.cons (cspec_l01In h597) .nil)) ?_
  rcases oif h with ⟨h598, h⟩ | ⟨h598, h⟩
  · refine Wc.cT h598 ?_
    apply Wc.seq
    refine Wc.r0 ⟨[tB 6 false], [(1000000, .cells [.raw hv0, aI zu.gPairs] (GL04Fill.h0_41f zu.gList))], []⟩ ?_
    obtain rfl := Option.some.inj h; exact Wc.ret dn
  · refine Wc.cF h598 ?_
    refine Wc.fx [] ⟨[tP 0 1000000, tI 1 u3d, tP 5 5], [bC 5 (GTerm.q u3e), (1000000, .cells [.raw hv0, aI zu.gPairs] (GL04Fill.h0_41f zu.gList))], []⟩ ?_
    refine Wc.skip ?_
    apply Wc.seq
    obtain ⟨ueb, h599, h⟩ := obind h
    refine Wc.every hmix [{}, {}, {}, {}, {}, {}, {}, { c := some (List.map GTerm.c (zu.gList.set ((u3d).toNat) u3e)) }] [] [] [1000000] [] ⟨[], [(1000000, .cells [.raw hv0, aI zu.gPairs] [(0, .ex 41 false (List.map GTerm.c (zu.gList.set ((u3d).toNat) u3e)))])], []⟩ _ 30 (by kernel_rfl) (.cons .nil (.cons .nil (.cons .nil (.cons .nil (.cons .nil (.cons .nil (.cons (.cons (ix_obl (c := GTerm.c) GTerm.c_len h599) .nil) (.cons (.cons (mod_obl (off := 0) (new := (GTerm.q u3e)) (c := GTerm.c) (GTerm.c_eq ueb) (GTerm.c_eq u3e) (at'_spec h599).2 rfl) (.cons (st_obl (sz := 4) (off := 0) (s := 4) (c := GTerm.c) (GTerm.c_eq ueb) (at'_spec h599).2 rfl (Nat.le_of_ble_eq_true rfl)) .nil)) .nil)))))))) ?_
    apply Wc.seq
    refine Wc.r0 ⟨[tB 6 true], [(1000000, .cells [.raw hv0, aI zu.gPairs] [(0, .ex 41 false (List.map GTerm.c (zu.gList.set ((u3d).toNat) u3e)))])], []⟩ ?_
    obtain rfl := Option.some.inj h; exact Wc.ret dn

def pspec_l03Has_L1 (k : Nat) (u0o : List Int) (u1a : Int) : Nat → Int → Option (Out Bool Unit)
  | 0, _ => none
  | m + 1, u2x =>
    if (decide (u2x < (u0o.length : Int))) = true then
      (at' u0o u2x).bind fun uaz =>
      if (uaz == u1a) = true then
        some (.ret true)
      else
        pspec_l03Has_L1 k u0o u1a m (wr.i64 (u2x + 1))
    else
      some (.done ())
def pspec_l03Has (k : Nat) (u0o : List Int) (u1a : Int) : Option Bool :=
  (pspec_l03Has_L1 k u0o u1a k 0).bind fun out1 => match out1 with
  | .ret r => some r
  | .done () =>
    some false
theorem cspec_l03Has {k : Nat} {u0o : List Int} {u1a : Int} {r : Bool} (h : pspec_l03Has k u0o u1a = some r) : FnO Try.prog 129 [.v (.sl (List.map cI.i64 u0o)) [], .v (aI u1a) []] (.v (.bool r) []) [] := by
  refine FnO.o2 Try.func129 (rfl : Try.f129.body = some _) ?_
  intro w0 X0 Fin pv0 pb gt
  unfold pspec_l03Has at h
  apply Wc.seq
  refine Wc.r0 ⟨[tV 0 (.sl (List.map cI.i64 u0o)), tI 1 u1a], [], []⟩ ?_
  apply Wc.seq
  apply Wc.seq
  refine Wc.r0 ⟨[tV 0 (.sl (List.map cI.i64 u0o)), tI 1 u1a, tI 5 0], [], []⟩ ?_
  obtain ⟨out1, h600, h⟩ := obind h
  refine Wc.lastJ (fun st => out1 = .done () ∧ st = ⟨[], [], []⟩) ?_ ?_
  · refine Wc.block ?_
    refine Wc.loop (fun m st => ∃ (u2x : Int), st = ⟨[tV 0 (.sl (List.map cI.i64 u0o)), tI 1 u1a, tI 5 u2x], [], []⟩ ∧ pspec_l03Has_L1 k u0o u1a m u2x = some out1) ?_ k ⟨_, rfl, h600⟩
    rintro m st ⟨u2x, rfl, h600⟩
    cases m with
    | zero => exact (onone h600).elim
    | succ m =>
      apply Wc.seq
      apply Wc.seq
      refine Wc.r2 [{}, {}, { v := some (aI (u0o.length : Int)) }] ⟨[tV 0 (.sl (List.map cI.i64 u0o)), tI 1 u1a, tI 5 u2x, tB 9 (decide (u2x < (u0o.length : Int)))], [], []⟩ (.cons (len_obl cI.i64 u0o) .nil) ?_
      rcases oif h600 with ⟨h601, h600⟩ | ⟨h601, h600⟩
      · refine Wc.cT h601 ?_
        refine Wc.fx [] ⟨[tV 0 (.sl (List.map cI.i64 u0o)), tI 1 u1a, tI 5 u2x], [], []⟩ ?_
        refine Wc.skip ?_
        apply Wc.seq
        refine Wc.block ?_
        apply Wc.seq
        obtain ⟨uaz, h602, h600⟩ := obind h600
        refine Wc.r2 [{}, {}, { v := some (.vptr [aI uaz]) }] ⟨[tV 0 (.sl (List.map cI.i64 u0o)), tI 1 u1a, tI 5 u2x, tB 17 (uaz == u1a)], [], []⟩ (.cons (at_obl (c := cI.i64) rfl cI.i64_len h602) (.cons (len_ok 1 [aI uaz]) .nil)) ?_
        rcases oif h600 with ⟨h603, h600⟩ | ⟨h603, h600⟩
        · refine Wc.cT h603 ?_
          apply Wc.seq
          refine Wc.r0 ⟨[tB 4 true], [], []⟩ ?_
          refine Wc.ret ?_
          obtain rfl := Option.some.inj h600
          obtain rfl := Option.some.inj h
          exact ⟨.inl rfl, by kernel_rfl, by kernel_rfl⟩
        · refine Wc.cF h603 ?_
          refine Wc.fx [] ⟨[tV 0 (.sl (List.map cI.i64 u0o)), tI 1 u1a, tI 5 u2x], [], []⟩ ?_
          refine Wc.skip ?_
          refine Wc.r0 ⟨[tV 0 (.sl (List.map cI.i64 u0o)), tI 1 u1a, tI 5 (wr.i64 (u2x + 1))], [], []⟩ ?_
          exact ⟨_, Nat.lt_succ_self _, _, rfl, h600⟩
      · refine Wc.cF h601 ?_
        refine Wc.fx [] ⟨[], [], []⟩ ?_
        refine Wc.exit ?_
        obtain rfl := Option.some.inj h600
        exact ⟨rfl, rfl⟩
  · rintro st ⟨rfl, rfl⟩
    apply Wc.seq
    refine Wc.r0 ⟨[tB 4 false], [], []⟩ ?_
    obtain rfl := Option.some.inj h; exact Wc.ret dn

def pspec_l03Vars_L2 (k : Nat) (rspec_l03Vars : GTerm → (List Int) → Option (List Int)) (uq : GTerm) : Nat → (List Int) → Int → Option (Out (List Int) (List Int))
  | 0, _, _ => none
  | m + 1, u4s, u3f =>
    if (decide (u3f < (uq.gKids.length : Int))) = true then
      (at' uq.gKids u3f).bind fun ub0 =>
      (rspec_l03Vars ub0 u4s).bind fun ub1 =>
      pspec_l03Vars_L2 k rspec_l03Vars uq m ub1 (wr.i64 (u3f + 1))
    else
      some (.done u4s)
def pspec_l03Vars_J1 (k : Nat) (rspec_l03Vars : GTerm → (List Int) → Option (List Int)) (uq : GTerm) (u86 : List Int) : Option (List Int) :=
  (pspec_l03Vars_L2 k rspec_l03Vars uq k u86 0).bind fun out2 => match out2 with
  | .ret r => some r
  | .done u87 =>
    some u87
def pspec_l03Vars_J3 (k : Nat) (rspec_l03Vars : GTerm → (List Int) → Option (List Int)) (zn : List Int) (uq : GTerm) (ub2 : Bool) : Option (List Int) :=
  if ub2 = true then
    if zn.length + [uq.gNum].length ≤ 1073741824 then
      pspec_l03Vars_J1 k rspec_l03Vars uq (zn ++ [uq.gNum])
    else none
  else
    pspec_l03Vars_J1 k rspec_l03Vars uq zn
mutual
def pspec_l03Vars : Nat → GTerm → (List Int) → Option (List Int)
  | 0, _, _ => none
  | k + 1, uq, zn =>
    if (uq.gKind == 1) = true then
      (pspec_l03Has k zn uq.gNum).bind fun udj =>
      pspec_l03Vars_J3 k (pspec_l03Vars k) zn uq (!udj)
    else
      pspec_l03Vars_J3 k (pspec_l03Vars k) zn uq false
end
theorem all_pspec_l03Vars : ∀ k : Nat, (∀ {uq : GTerm} {zn : List Int} {r : (List Int)}, pspec_l03Vars k uq zn = some r → FnO Try.prog 110 [.v (.agg (GTerm.q uq)) [], .v (.slx) [(0, .ex 3 false (List.map cI.i64 zn))]] (.v (.slx) [(0, .ex 3 false (List.map cI.i64 r))]) []) := by
  intro k
  induction k with
  | zero =>
    · intro uq zn r h
      exact (onone (by rw [pspec_l03Vars] at h; exact h)).elim
  | succ k ih =>
    have ih_pspec_l03Vars := @ih
    · intro uq zn r h
      rw [pspec_l03Vars] at h
      refine FnO.o2 Try.func110 (rfl : Try.f110.body = some _) ?_
      intro w0 X0 Fin pv0 pb gt
      apply Wc.seq
      refine Wc.r0 ⟨[(1, (.v (.slx), [(0, .ex 3 false (List.map cI.i64 zn))])), tP 2 2], [bC 2 (GTerm.q uq)], []⟩ ?_
      refine Wc.seqJ (fun st => ∃ (u86 : List Int), st = ⟨[(1, (.v (.slx), [(0, .ex 3 false (List.map cI.i64 u86))])), tP 2 2], [bC 2 (GTerm.q uq)], []⟩ ∧ pspec_l03Vars_J1 k (pspec_l03Vars k) uq u86 = some r) ?_ ?_
      · refine Wc.seqJ (fun st => ∃ (ub2 : Bool), st = ⟨[(1, (.v (.slx), [(0, .ex 3 false (List.map cI.i64 zn))])), tP 2 2, tB 15 ub2], [bC 2 (GTerm.q uq)], []⟩ ∧ pspec_l03Vars_J3 k (pspec_l03Vars k) zn uq ub2 = some r) ?_ ?_
        · rcases oif h with ⟨h618, h⟩ | ⟨h618, h⟩
          · obtain ⟨udj, h619, h⟩ := obind h
            refine Wc.r2 [{}, {}, {}, { re := some (.bool true) }, {}, {}, {}, { r := some (.v (.bool udj) []) }] ⟨[(1, (.v (.slx), [(0, .ex 3 false (List.map cI.i64 zn))])), tP 2 2, tB 15 (!udj)], [bC 2 (GTerm.q uq)], []⟩ (.cons (congrArg AV.bool h618) (.cons (cspec_l03Has h619) .nil)) ?_
            exact ⟨_, rfl, h⟩
          · refine Wc.r2 [{}, {}, {}, { re := some (.bool false) }] ⟨[(1, (.v (.slx), [(0, .ex 3 false (List.map cI.i64 zn))])), tP 2 2, tB 15 false], [bC 2 (GTerm.q uq)], []⟩ (.cons (congrArg AV.bool h618) .nil) ?_
            exact ⟨_, rfl, h⟩
        · rintro st ⟨ub2, rfl, h⟩
          rcases oif h with ⟨h616, h⟩ | ⟨h616, h⟩
          · refine Wc.cT h616 ?_
            obtain ⟨h617, h⟩ := oguard h
            refine Wc.r2 [{ tk := [1] }, {}, {}, { c := some (List.map cI.i64 [uq.gNum]) }, { c := some (List.map cI.i64 (zn ++ [uq.gNum])), tk := [16], md := 1 }, { tk := [20] }] ⟨[(1, (.v (.slx), [(0, .ex 3 false (List.map cI.i64 (zn ++ [uq.gNum])))])), tP 2 2], [bC 2 (GTerm.q uq)], []⟩ (.cons (cl_cons (c := cI.i64) (x := uq.gNum) rfl (cl_nil cI.i64)) (.cons (app_re2 cI.i64 zn [uq.gNum]) (.cons (app_leaf (c := cI.i64) (ys := [uq.gNum]) cI.i64_leaf) (.cons (app_obl2 (c := cI.i64) (xs := zn) (ys := [uq.gNum]) cI.i64_len h617) .nil)))) ?_
            exact ⟨_, rfl, h⟩
          · refine Wc.cF h616 ?_
            refine Wc.fx [] ⟨[(1, (.v (.slx), [(0, .ex 3 false (List.map cI.i64 zn))])), tP 2 2], [bC 2 (GTerm.q uq)], []⟩ ?_
            refine Wc.skip ?_
            exact ⟨_, rfl, h⟩
      · rintro st ⟨u86, rfl, h⟩
        apply Wc.seq
        apply Wc.seq
        refine Wc.r0 ⟨[(1, (.v (.slx), [(0, .ex 3 false (List.map cI.i64 u86))])), tP 2 2, tI 5 0], [bC 2 (GTerm.q uq)], []⟩ ?_
        obtain ⟨out2, h612, h⟩ := obind h
        refine Wc.lastJ (fun st => ∃ (u87 : List Int), out2 = .done u87 ∧ st = ⟨[(1, (.v (.slx), [(0, .ex 3 false (List.map cI.i64 u87))]))], [], []⟩) ?_ ?_
        · refine Wc.block ?_
          refine Wc.loop (fun m st => ∃ (u4s : List Int) (u3f : Int), st = ⟨[(1, (.v (.slx), [(0, .ex 3 false (List.map cI.i64 u4s))])), tP 2 2, tI 5 u3f], [bC 2 (GTerm.q uq)], []⟩ ∧ pspec_l03Vars_L2 k (pspec_l03Vars k) uq m u4s u3f = some out2) ?_ k ⟨_, _, rfl, h612⟩
          rintro m st ⟨u4s, u3f, rfl, h612⟩
          cases m with
          | zero => exact (onone h612).elim
          | succ m =>
            apply Wc.seq
            apply Wc.seq
            refine Wc.r2 [{}, {}, {}, { v := some (aI (uq.gKids.length : Int)) }] ⟨[(1, (.v (.slx), [(0, .ex 3 false (List.map cI.i64 u4s))])), tP 2 2, tI 5 u3f, tB 25 (decide (u3f < (uq.gKids.length : Int)))], [bC 2 (GTerm.q uq)], []⟩ (.cons (len_obl GTerm.c uq.gKids) .nil) ?_
            rcases oif h612 with ⟨h613, h612⟩ | ⟨h613, h612⟩
            · refine Wc.cT h613 ?_
              refine Wc.fx [] ⟨[(1, (.v (.slx), [(0, .ex 3 false (List.map cI.i64 u4s))])), tP 2 2, tI 5 u3f], [bC 2 (GTerm.q uq)], []⟩ ?_
              refine Wc.skip ?_
              apply Wc.seq
              refine Wc.block ?_
              obtain ⟨ub0, h614, h612⟩ := obind h612
              obtain ⟨ub1, h615, h612⟩ := obind h612
              refine Wc.r2 [{}, {}, {}, { v := some (.vptr (GTerm.q ub0)) }, {}, { tk := [1] }, { tk := [33], r := some (.v (.slx) [(0, .ex 3 false (List.map cI.i64 ub1))]) }, { tk := [34] }] ⟨[(1, (.v (.slx), [(0, .ex 3 false (List.map cI.i64 ub1))])), tP 2 2, tI 5 u3f], [bC 2 (GTerm.q uq)], []⟩ (.cons (at_obl (c := GTerm.c) (GTerm.c_eq ub0) GTerm.c_len h614) (.cons (len_ok 4 (GTerm.q ub0)) (.cons (ih_pspec_l03Vars h615) .nil))) ?_
              refine Wc.r0 ⟨[(1, (.v (.slx), [(0, .ex 3 false (List.map cI.i64 ub1))])), tP 2 2, tI 5 (wr.i64 (u3f + 1))], [bC 2 (GTerm.q uq)], []⟩ ?_
              exact ⟨_, Nat.lt_succ_self _, _, _, rfl, h612⟩
            · refine Wc.cF h613 ?_
              refine Wc.fx [] ⟨[(1, (.v (.slx), [(0, .ex 3 false (List.map cI.i64 u4s))]))], [], []⟩ ?_
              refine Wc.exit ?_
              obtain rfl := Option.some.inj h612
              exact ⟨_, rfl, rfl⟩
        · rintro st ⟨u87, rfl, rfl⟩
          apply Wc.seq
          refine Wc.r1 [{ tk := [1] }, { tk := [35] }] ⟨[(4, (.v (.slx), [(0, .ex 3 false (List.map cI.i64 u87))]))], [], []⟩ ?_
          obtain rfl := Option.some.inj h; exact Wc.ret dn
theorem cspec_l03Vars {k : Nat} {uq : GTerm} {zn : List Int} {r : (List Int)} (h : pspec_l03Vars k uq zn = some r) : FnO Try.prog 110 [.v (.agg (GTerm.q uq)) [], .v (.slx) [(0, .ex 3 false (List.map cI.i64 zn))]] (.v (.slx) [(0, .ex 3 false (List.map cI.i64 r))]) [] := (all_pspec_l03Vars k) h

def pspec_VarsOf (k : Nat) (ub3 : GTerm) : Option (List Int) :=
  (pspec_l03Vars k ub3 []).bind fun ub4 =>
  some ub4
theorem cspec_VarsOf {k : Nat} {ub3 : GTerm} {r : (List Int)} (h : pspec_VarsOf k ub3 = some r) : FnO Try.prog 74 [.v (.agg (GTerm.q ub3)) []] (.v (.sl (List.map cI.i64 r)) []) [] := by
  refine FnO.o2 Try.func74 (rfl : Try.f74.body = some _) ?_
  intro w0 X0 Fin pv0 pb gt
  unfold pspec_VarsOf at h
  apply Wc.seq
  refine Wc.r0 ⟨[tP 1 1], [bC 1 (GTerm.q ub3)], []⟩ ?_
  apply Wc.seq
  obtain ⟨ub4, h620, h⟩ := obind h
  refine Wc.r2 [{}, { c := some (List.map cI.i64 []), md := 1 }, { tk := [4], r := some (.v (.slx) [(0, .ex 3 false (List.map cI.i64 ub4))]) }, { tk := [5] }] ⟨[(2, (.v (.slx), [(0, .ex 3 false (List.map cI.i64 ub4))]))], [], []⟩ (.cons (cl_nil cI.i64) (.cons (cspec_l03Vars h620) .nil)) ?_
  refine Wc.fx [.sh (.t 2 0)] ⟨[tV 2 (.sl (List.map cI.i64 ub4))], [], []⟩ ?_
  obtain rfl := Option.some.inj h; exact Wc.ret dn

def pspec_l04Fill_fill_L2 (k : Nat) (rspec_l04Fill_fill : GL04Fill → GTerm → Int → Option (GL04Fill × GTerm)) (uw : GTerm) (v9 : Int) : Nat → Int → GTerm → GL04Fill → Option (Out (GL04Fill × GTerm) (GTerm × GL04Fill))
  | 0, _, _, _ => none
  | m + 1, u3g, zb, u2k =>
    if (decide (u3g < (uw.gKids.length : Int))) = true then
      if (!u2k.gBad) = true then
        (at' uw.gKids u3g).bind fun ub5 =>
        (rspec_l04Fill_fill u2k ub5 (wr.i64 (v9 + 1))).bind fun u1b =>
        if zb.gKids.length + [u1b.2].length ≤ 1073741824 then
          pspec_l04Fill_fill_L2 k rspec_l04Fill_fill uw v9 m (wr.i64 (u3g + 1)) (GTerm.mk zb.gKind zb.gName zb.gNum (zb.gKids ++ [u1b.2])) u1b.1
        else none
      else
        some (.done (zb, u2k))
    else
      some (.done (zb, u2k))
def pspec_l04Fill_fill_J1 (k : Nat) (rspec_l04Fill_fill : GL04Fill → GTerm → Int → Option (GL04Fill × GTerm)) (ui : GL04Fill) (uw : GTerm) (v9 : Int) (ub6 : Bool) : Option (GL04Fill × GTerm) :=
  if ub6 = true then
    some (GL04Fill.mk ui.gList (wr.i64 (ui.gLeft - 1)) true, GTerm.mk 0 (bs []) 0 [])
  else
    (pspec_l04Fill_fill_L2 k rspec_l04Fill_fill uw v9 k 0 (GTerm.mk uw.gKind uw.gName uw.gNum []) (GL04Fill.mk ui.gList (wr.i64 (ui.gLeft - 1)) ui.gBad)).bind fun out2 => match out2 with
    | .ret r => some r
    | .done (u88, u89) =>
      some (u89, u88)
mutual
def pspec_l04Fill_fill : Nat → GL04Fill → GTerm → Int → Option (GL04Fill × GTerm)
  | 0, _, _, _ => none
  | k + 1, ui, u43, v9 =>
    (pspec_l04Walk k ui.gList u43).bind fun uw =>
    if ui.gBad = true then
      pspec_l04Fill_fill_J1 k (pspec_l04Fill_fill k) ui uw v9 true
    else
      if (decide ((wr.i64 (ui.gLeft - 1)) < 0)) = true then
        pspec_l04Fill_fill_J1 k (pspec_l04Fill_fill k) ui uw v9 true
      else
        if (decide (v9 > 40)) = true then
          pspec_l04Fill_fill_J1 k (pspec_l04Fill_fill k) ui uw v9 true
        else
          (pspec_l03One k uw).bind fun udk =>
          pspec_l04Fill_fill_J1 k (pspec_l04Fill_fill k) ui uw v9 (!udk)
end
set_option maxHeartbeats 4000000 in
theorem all_pspec_l04Fill_fill : ∀ k : Nat, (∀ {ui : GL04Fill} {u43 : GTerm} {v9 : Int} {r : GL04Fill × GTerm}, pspec_l04Fill_fill k ui u43 v9 = some r → FnO Try.prog 111 [.p (GL04Fill.q ui) [], .v (.agg (GTerm.q u43)) [], .v (aI v9) []] (.v (.agg (GTerm.q r.2)) [(3, .app 41)]) [(0, .p (GL04Fill.q r.1) [])]) := by
  intro k
  induction k with
  | zero =>
    · intro ui u43 v9 r h
      exact (onone (by rw [pspec_l04Fill_fill] at h; exact h)).elim
  | succ k ih =>
    have ih_pspec_l04Fill_fill := @ih
    · intro ui u43 v9 r h
      rw [pspec_l04Fill_fill] at h
      refine FnO.o2 Try.func111 (rfl : Try.f111.body = some _) ?_
      intro w0 X0 Fin pv0 pb gt
      apply Wc.seq
      refine Wc.r0 ⟨[tP 0 1000000, tI 2 v9, tP 4 4, tP 6 6], [bC 4 (GTerm.q u43), (6, .cells GTerm.z [(3, .app 41)]), bC 1000000 (GL04Fill.q ui)], []⟩ ?_
      apply Wc.seq
      obtain ⟨uw, h633, h⟩ := obind h
      refine Wc.draw hmix [{}, {}, {}, {}, {}, { r := some (.v (.agg (GTerm.q uw)) []) }] [] [0, 2, 4, 6] [4, 6, 1000000] [] ⟨[tP 0 1000000, tI 2 v9, tP 4 4, tP 6 6], [bC 4 (GTerm.q uw), (6, .cells GTerm.z [(3, .app 41)]), bC 1000000 (GL04Fill.q ui)], []⟩ _ (by kernel_rfl) (fun X => by kernel_rfl) (.cons (cspec_l04Walk h633) .nil) ?_
      apply Wc.seq
      refine Wc.r0 ⟨[tP 0 1000000, tI 2 v9, tP 4 4, tP 6 6], [bC 4 (GTerm.q uw), (6, .cells GTerm.z [(3, .app 41)]), bC 1000000 [.sl (List.map GTerm.c ui.gList), aI (wr.i64 (ui.gLeft - 1)), .bool ui.gBad]], []⟩ ?_
      apply Wc.seq
      refine Wc.seqJ (fun st => ∃ (ub6 : Bool), st = ⟨[tP 0 1000000, tI 2 v9, tP 4 4, tP 6 6, tB 42 ub6], [bC 4 (GTerm.q uw), (6, .cells GTerm.z [(3, .app 41)]), bC 1000000 [.sl (List.map GTerm.c ui.gList), aI (wr.i64 (ui.gLeft - 1)), .bool ui.gBad]], []⟩ ∧ pspec_l04Fill_fill_J1 k (pspec_l04Fill_fill k) ui uw v9 ub6 = some r) ?_ ?_
      · rcases oif h with ⟨h641, h⟩ | ⟨h641, h⟩
        · refine Wc.r2 [{}, {}, {}, {}, { re := some (.bool true) }] ⟨[tP 0 1000000, tI 2 v9, tP 4 4, tP 6 6, tB 42 true], [bC 4 (GTerm.q uw), (6, .cells GTerm.z [(3, .app 41)]), bC 1000000 [.sl (List.map GTerm.c ui.gList), aI (wr.i64 (ui.gLeft - 1)), .bool ui.gBad]], []⟩ (.cons (congrArg AV.bool h641) .nil) ?_
          exact ⟨_, rfl, h⟩
        · rcases oif h with ⟨h642, h⟩ | ⟨h642, h⟩
          · refine Wc.r2 [{}, {}, {}, {}, { re := some (.bool false) }, {}, {}, {}, {}, {}, {}, { re := some (.bool true) }] ⟨[tP 0 1000000, tI 2 v9, tP 4 4, tP 6 6, tB 42 true], [bC 4 (GTerm.q uw), (6, .cells GTerm.z [(3, .app 41)]), bC 1000000 [.sl (List.map GTerm.c ui.gList), aI (wr.i64 (ui.gLeft - 1)), .bool ui.gBad]], []⟩ (.cons (congrArg AV.bool h641) (.cons (congrArg AV.bool h642) .nil)) ?_
            exact ⟨_, rfl, h⟩
          · rcases oif h with ⟨h643, h⟩ | ⟨h643, h⟩
            · refine Wc.r2 [{}, {}, {}, {}, { re := some (.bool false) }, {}, {}, {}, {}, {}, {}, { re := some (.bool false) }, {}, {}, {}, { re := some (.bool true) }] ⟨[tP 0 1000000, tI 2 v9, tP 4 4, tP 6 6, tB 42 true], [bC 4 (GTerm.q uw), (6, .cells GTerm.z [(3, .app 41)]), bC 1000000 [.sl (List.map GTerm.c ui.gList), aI (wr.i64 (ui.gLeft - 1)), .bool ui.gBad]], []⟩ (.cons (congrArg AV.bool h641) (.cons (congrArg AV.bool h642) (.cons (congrArg AV.bool h643) .nil))) ?_
              exact ⟨_, rfl, h⟩
            · obtain ⟨udk, h644, h⟩ := obind h
              refine Wc.r2 [{}, {}, {}, {}, { re := some (.bool false) }, {}, {}, {}, {}, {}, {}, { re := some (.bool false) }, {}, {}, {}, { re := some (.bool false) }, {}, { r := some (.v (.bool udk) []) }] ⟨[tP 0 1000000, tI 2 v9, tP 4 4, tP 6 6, tB 42 (!udk)], [bC 4 (GTerm.q uw), (6, .cells GTerm.z [(3, .app 41)]), bC 1000000 [.sl (List.map GTerm.c ui.gList), aI (wr.i64 (ui.gLeft - 1)), .bool ui.gBad]], []⟩ (.cons (congrArg AV.bool h641) (.cons (congrArg AV.bool h642) (.cons (congrArg AV.bool h643) (.cons (cspec_l03One h644) .nil)))) ?_
              exact ⟨_, rfl, h⟩
      · rintro st ⟨ub6, rfl, h⟩
        rcases oif h with ⟨h634, h⟩ | ⟨h634, h⟩
        · refine Wc.cT h634 ?_
          apply Wc.seq
          refine Wc.r0 ⟨[tP 6 6], [(6, .cells GTerm.z [(3, .app 41)]), bC 1000000 [.sl (List.map GTerm.c ui.gList), aI (wr.i64 (ui.gLeft - 1)), .bool true]], []⟩ ?_
          apply Wc.seq
          refine Wc.r1 [{}, { tk := [46] }] ⟨[tP 6 6], [(6, .cells GTerm.z [(3, .app 41)]), bC 1000000 [.sl (List.map GTerm.c ui.gList), aI (wr.i64 (ui.gLeft - 1)), .bool true]], []⟩ ?_
          obtain rfl := Option.some.inj h; exact Wc.ret dn
        · refine Wc.cF h634 ?_
          refine Wc.fx [] ⟨[tP 0 1000000, tI 2 v9, tP 4 4, tP 6 6], [bC 4 (GTerm.q uw), (6, .cells GTerm.z [(3, .app 41)]), bC 1000000 [.sl (List.map GTerm.c ui.gList), aI (wr.i64 (ui.gLeft - 1)), .bool ui.gBad]], []⟩ ?_
          refine Wc.skip ?_
          apply Wc.seq
          refine Wc.r0 ⟨[tP 0 1000000, tI 2 v9, tP 4 4, tP 6 6, tP 7 7], [bC 4 (GTerm.q uw), (6, .cells GTerm.z [(3, .app 41)]), bC 7 (GTerm.q uw), bC 1000000 [.sl (List.map GTerm.c ui.gList), aI (wr.i64 (ui.gLeft - 1)), .bool ui.gBad]], []⟩ ?_
          apply Wc.seq
          refine Wc.r2 [{ c := some (List.map GTerm.c []) }, {}, { tk := [48] }] ⟨[tP 0 1000000, tI 2 v9, tP 4 4, tP 6 6, tP 7 7], [bC 4 (GTerm.q uw), (6, .cells GTerm.z [(3, .app 41)]), (7, .cells [aI uw.gKind, .str uw.gName, aI uw.gNum, .sl (List.map GTerm.c [])] [(3, .app 41)]), bC 1000000 [.sl (List.map GTerm.c ui.gList), aI (wr.i64 (ui.gLeft - 1)), .bool ui.gBad]], []⟩ (.cons (cl_nil GTerm.c) .nil) ?_
          apply Wc.seq
          apply Wc.seq
          refine Wc.r0 ⟨[tP 0 1000000, tI 2 v9, tP 4 4, tP 6 6, tP 7 7, tI 8 0], [bC 4 (GTerm.q uw), (6, .cells GTerm.z [(3, .app 41)]), (7, .cells [aI uw.gKind, .str uw.gName, aI uw.gNum, .sl (List.map GTerm.c [])] [(3, .app 41)]), bC 1000000 [.sl (List.map GTerm.c ui.gList), aI (wr.i64 (ui.gLeft - 1)), .bool ui.gBad]], []⟩ ?_
          obtain ⟨out2, h635, h⟩ := obind h
          refine Wc.lastJ (fun st => ∃ (u88 : GTerm) (u89 : GL04Fill), out2 = .done (u88, u89) ∧ st = ⟨[tP 6 6, tP 7 7], [(6, .cells GTerm.z [(3, .app 41)]), (7, .cells (GTerm.q u88) [(3, .app 41)]), bC 1000000 (GL04Fill.q u89)], []⟩) ?_ ?_
          · refine Wc.block ?_
            refine Wc.loop (fun m st => ∃ (u3g : Int) (zb : GTerm) (u2k : GL04Fill), st = ⟨[tP 0 1000000, tI 2 v9, tP 4 4, tP 6 6, tP 7 7, tI 8 u3g], [bC 4 (GTerm.q uw), (6, .cells GTerm.z [(3, .app 41)]), (7, .cells (GTerm.q zb) [(3, .app 41)]), bC 1000000 (GL04Fill.q u2k)], []⟩ ∧ pspec_l04Fill_fill_L2 k (pspec_l04Fill_fill k) uw v9 m u3g zb u2k = some out2) ?_ k ⟨_, _, _, rfl, h635⟩
            rintro m st ⟨u3g, zb, u2k, rfl, h635⟩
            cases m with
            | zero => exact (onone h635).elim
            | succ m =>
              apply Wc.seq
              apply Wc.seq
              rcases oif h635 with ⟨h636, h635⟩ | ⟨h636, h635⟩
              · refine Wc.r2 [{}, {}, {}, { v := some (aI (uw.gKids.length : Int)) }, {}, { re := some (.bool true) }] ⟨[tP 0 1000000, tI 2 v9, tP 4 4, tP 6 6, tP 7 7, tI 8 u3g, tB 61 (!u2k.gBad)], [bC 4 (GTerm.q uw), (6, .cells GTerm.z [(3, .app 41)]), (7, .cells (GTerm.q zb) [(3, .app 41)]), bC 1000000 (GL04Fill.q u2k)], []⟩ (.cons (len_obl GTerm.c uw.gKids) (.cons (congrArg AV.bool h636) .nil)) ?_
                rcases oif h635 with ⟨h637, h635⟩ | ⟨h637, h635⟩
                · refine Wc.cT h637 ?_
                  refine Wc.fx [] ⟨[tP 0 1000000, tI 2 v9, tP 4 4, tP 6 6, tP 7 7, tI 8 u3g], [bC 4 (GTerm.q uw), (6, .cells GTerm.z [(3, .app 41)]), (7, .cells (GTerm.q zb) [(3, .app 41)]), bC 1000000 (GL04Fill.q u2k)], []⟩ ?_
                  refine Wc.skip ?_
                  apply Wc.seq
                  refine Wc.block ?_
                  obtain ⟨ub5, h638, h635⟩ := obind h635
                  obtain ⟨u1b, h639, h635⟩ := obind h635
                  obtain ⟨h640, h635⟩ := oguard h635
                  refine Wc.draw hmix [{}, { md := 1 }, {}, {}, {}, {}, { v := some (.vptr (GTerm.q ub5)) }, {}, {}, {}, { r := some (.v (.agg (GTerm.q u1b.2)) [(3, .app 41)]), outs := [(0, .p (GL04Fill.q u1b.1) [])] }, { c := some (List.map GTerm.c [u1b.2]) }, { c := some (List.map GTerm.c (zb.gKids ++ [u1b.2])), tk := [65] }, {}, { tk := [76] }] [] [0, 2, 4, 6, 7, 8] [4, 6, 7, 1000000] [] ⟨[tP 0 1000000, tI 2 v9, tP 4 4, tP 6 6, tP 7 7, tI 8 u3g], [bC 4 (GTerm.q uw), (6, .cells GTerm.z [(3, .app 41)]), (7, .cells [aI zb.gKind, .str zb.gName, aI zb.gNum, .sl (List.map GTerm.c (zb.gKids ++ [u1b.2]))] [(3, .app 41)]), bC 1000000 (GL04Fill.q u1b.1)], []⟩ _ (by kernel_rfl) (fun X => by kernel_rfl) (.cons (at_obl (c := GTerm.c) (GTerm.c_eq ub5) GTerm.c_len h638) (.cons (len_ok 4 (GTerm.q ub5)) (.cons (ih_pspec_l04Fill_fill h639) (.cons (cl_cons (c := GTerm.c) (x := u1b.2) (GTerm.c_eq u1b.2) (cl_nil GTerm.c)) (.cons (app_re2 GTerm.c zb.gKids [u1b.2]) (.cons (app_leaf (c := GTerm.c) (ys := [u1b.2]) GTerm.c_leaf) (.cons (app_obl2 (c := GTerm.c) (xs := zb.gKids) (ys := [u1b.2]) GTerm.c_len h640) .nil))))))) ?_
                  refine Wc.r0 ⟨[tP 0 1000000, tI 2 v9, tP 4 4, tP 6 6, tP 7 7, tI 8 (wr.i64 (u3g + 1))], [bC 4 (GTerm.q uw), (6, .cells GTerm.z [(3, .app 41)]), (7, .cells [aI zb.gKind, .str zb.gName, aI zb.gNum, .sl (List.map GTerm.c (zb.gKids ++ [u1b.2]))] [(3, .app 41)]), bC 1000000 (GL04Fill.q u1b.1)], []⟩ ?_
                  exact ⟨_, Nat.lt_succ_self _, _, _, _, rfl, h635⟩
                · refine Wc.cF h637 ?_
                  refine Wc.fx [] ⟨[tP 6 6, tP 7 7], [(6, .cells GTerm.z [(3, .app 41)]), (7, .cells (GTerm.q zb) [(3, .app 41)]), bC 1000000 (GL04Fill.q u2k)], []⟩ ?_
                  refine Wc.exit ?_
                  obtain rfl := Option.some.inj h635
                  exact ⟨_, _, rfl, rfl⟩
              · refine Wc.r2 [{}, {}, {}, { v := some (aI (uw.gKids.length : Int)) }, {}, { re := some (.bool false) }] ⟨[tP 0 1000000, tI 2 v9, tP 4 4, tP 6 6, tP 7 7, tI 8 u3g, tB 61 false], [bC 4 (GTerm.q uw), (6, .cells GTerm.z [(3, .app 41)]), (7, .cells (GTerm.q zb) [(3, .app 41)]), bC 1000000 (GL04Fill.q u2k)], []⟩ (.cons (len_obl GTerm.c uw.gKids) (.cons (congrArg AV.bool h636) .nil)) ?_
                refine Wc.cF rfl ?_
                refine Wc.fx [] ⟨[tP 6 6, tP 7 7], [(6, .cells GTerm.z [(3, .app 41)]), (7, .cells (GTerm.q zb) [(3, .app 41)]), bC 1000000 (GL04Fill.q u2k)], []⟩ ?_
                refine Wc.exit ?_
                obtain rfl := Option.some.inj h635
                exact ⟨_, _, rfl, rfl⟩
          · rintro st ⟨u88, u89, rfl, rfl⟩
            apply Wc.seq
            refine Wc.r1 [{ md := 1 }, { tk := [78] }] ⟨[tP 6 6], [(6, .cells (GTerm.q u88) [(3, .app 41)]), bC 1000000 (GL04Fill.q u89)], []⟩ ?_
            obtain rfl := Option.some.inj h; exact Wc.ret dn
theorem cspec_l04Fill_fill {k : Nat} {ui : GL04Fill} {u43 : GTerm} {v9 : Int} {r : GL04Fill × GTerm} (h : pspec_l04Fill_fill k ui u43 v9 = some r) : FnO Try.prog 111 [.p (GL04Fill.q ui) [], .v (.agg (GTerm.q u43)) [], .v (aI v9) []] (.v (.agg (GTerm.q r.2)) [(3, .app 41)]) [(0, .p (GL04Fill.q r.1) [])] := (all_pspec_l04Fill_fill k) h

def pspec_l04Filled (k : Nat) (u8a : List GTerm) (u8b : GTerm) : Option (GTerm × Bool) :=
  (pspec_l04Fill_fill k (GL04Fill.mk u8a 400 false) u8b 1).bind fun u3s =>
  if u3s.1.gBad = true then
    some (GTerm.mk 0 (bs []) 0 [], false)
  else
    some (u3s.2, true)
theorem cspec_l04Filled {k : Nat} {u8a : List GTerm} {u8b : GTerm} {r : GTerm × Bool} (h : pspec_l04Filled k u8a u8b = some r) : FnO Try.prog 76 [.v (.sl (List.map GTerm.c u8a)) [], .v (.agg (GTerm.q u8b)) []] (.v (.tup [.agg (GTerm.q r.1), .bool r.2]) [(3, .app 41)]) [] := by
  refine FnO.o2 Try.func76 (rfl : Try.f76.body = some _) ?_
  intro w0 X0 Fin pv0 pb gt
  unfold pspec_l04Filled at h
  apply Wc.seq
  refine Wc.r0 ⟨[tV 0 (.sl (List.map GTerm.c u8a)), tP 3 3, tP 4 4], [bC 3 (GTerm.q u8b), (4, .cells GTerm.z [(3, .app 41)])], []⟩ ?_
  apply Wc.seq
  refine Wc.r0 ⟨[tP 3 3, tP 4 4, tP 6 10], [bC 3 (GTerm.q u8b), (4, .cells GTerm.z [(3, .app 41)]), bC 10 [.sl (List.map GTerm.c u8a), aI 400, .bool false]], []⟩ ?_
  apply Wc.seq
  obtain ⟨u3s, h647, h⟩ := obind h
  refine Wc.r2 [{}, {}, { r := some (.v (.agg (GTerm.q u3s.2)) [(3, .app 41)]), outs := [(0, .p (GL04Fill.q u3s.1) [])] }, {}, { tk := [13] }] ⟨[tP 4 4, tP 6 10, tP 7 7], [(4, .cells GTerm.z [(3, .app 41)]), (7, .cells (GTerm.q u3s.2) [(3, .app 41)]), bC 10 (GL04Fill.q u3s.1)], []⟩ (.cons (cspec_l04Fill_fill h647) .nil) ?_
  apply Wc.seq
  apply Wc.seq
  refine Wc.r0 ⟨[tP 4 4, tP 7 7, tB 17 u3s.1.gBad], [(4, .cells GTerm.z [(3, .app 41)]), (7, .cells (GTerm.q u3s.2) [(3, .app 41)])], []⟩ ?_
  rcases oif h with ⟨h648, h⟩ | ⟨h648, h⟩
  · refine Wc.cT h648 ?_
    apply Wc.seq
    refine Wc.r1 [{}, { tk := [18] }] ⟨[tP 4 4, tB 5 false], [(4, .cells GTerm.z [(3, .app 41)])], []⟩ ?_
    obtain rfl := Option.some.inj h; exact Wc.ret dn
  · refine Wc.cF h648 ?_
    refine Wc.fx [] ⟨[tP 4 4, tP 7 7], [(4, .cells GTerm.z [(3, .app 41)]), (7, .cells (GTerm.q u3s.2) [(3, .app 41)])], []⟩ ?_
    refine Wc.skip ?_
    apply Wc.seq
    refine Wc.r1 [{ md := 1 }, { tk := [19] }] ⟨[tP 4 4, tB 5 true], [(4, .cells (GTerm.q u3s.2) [(3, .app 41)])], []⟩ ?_
    obtain rfl := Option.some.inj h; exact Wc.ret dn

def pspec_l04Fill_fill_d_L2 (k : Nat) (rspec_l04Fill_fill_d : GL04Fill → GTerm → Int → Option (GL04Fill × GTerm)) (uo : GTerm) (va : Int) : Nat → Int → GTerm → GL04Fill → Option (Out (GL04Fill × GTerm) (GTerm × GL04Fill))
  | 0, _, _, _ => none
  | m + 1, u3h, vf, u2l =>
    if (decide (u3h < (uo.gKids.length : Int))) = true then
      if (!u2l.gBad) = true then
        (at' uo.gKids u3h).bind fun ub7 =>
        (rspec_l04Fill_fill_d u2l ub7 (wr.i64 (va + 1))).bind fun u1c =>
        if vf.gKids.length + [u1c.2].length ≤ 1073741824 then
          pspec_l04Fill_fill_d_L2 k rspec_l04Fill_fill_d uo va m (wr.i64 (u3h + 1)) (GTerm.mk vf.gKind vf.gName vf.gNum (vf.gKids ++ [u1c.2])) u1c.1
        else none
      else
        some (.done (vf, u2l))
    else
      some (.done (vf, u2l))
def pspec_l04Fill_fill_d_J1 (k : Nat) (rspec_l04Fill_fill_d : GL04Fill → GTerm → Int → Option (GL04Fill × GTerm)) (uh : GL04Fill) (uo : GTerm) (va : Int) (ub8 : Bool) : Option (GL04Fill × GTerm) :=
  if ub8 = true then
    some (GL04Fill.mk uh.gList (wr.i64 (uh.gLeft - 1)) true, GTerm.mk 0 (bs []) 0 [])
  else
    (pspec_l04Fill_fill_d_L2 k rspec_l04Fill_fill_d uo va k 0 (GTerm.mk uo.gKind uo.gName uo.gNum []) (GL04Fill.mk uh.gList (wr.i64 (uh.gLeft - 1)) uh.gBad)).bind fun out2 => match out2 with
    | .ret r => some r
    | .done (u5j, u8c) =>
      some (u8c, u5j)
mutual
def pspec_l04Fill_fill_d : Nat → GL04Fill → GTerm → Int → Option (GL04Fill × GTerm)
  | 0, _, _, _ => none
  | k + 1, uh, u44, va =>
    (pspec_l04Walk k uh.gList u44).bind fun uo =>
    if uh.gBad = true then
      pspec_l04Fill_fill_d_J1 k (pspec_l04Fill_fill_d k) uh uo va true
    else
      if (decide ((wr.i64 (uh.gLeft - 1)) < 0)) = true then
        pspec_l04Fill_fill_d_J1 k (pspec_l04Fill_fill_d k) uh uo va true
      else
        if (decide (va > 40)) = true then
          pspec_l04Fill_fill_d_J1 k (pspec_l04Fill_fill_d k) uh uo va true
        else
          (pspec_l03One k uo).bind fun udl =>
          pspec_l04Fill_fill_d_J1 k (pspec_l04Fill_fill_d k) uh uo va (!udl)
end
set_option maxHeartbeats 4000000 in
theorem all_pspec_l04Fill_fill_d : ∀ k : Nat, (∀ {uh : GL04Fill} {u44 : GTerm} {va : Int} {r : GL04Fill × GTerm}, pspec_l04Fill_fill_d k uh u44 va = some r → FnO Try.prog 111 [.p (GL04Fill.q uh) [], .v (.agg (GTerm.q u44)) [], .v (aI va) []] (.v (.agg (GTerm.qx r.2)) (GTerm.h3_41t r.2)) [(0, .p (GL04Fill.q r.1) [])]) := by
  intro k
  induction k with
  | zero =>
    · intro uh u44 va r h
      exact (onone (by rw [pspec_l04Fill_fill_d] at h; exact h)).elim
  | succ k ih =>
    have ih_pspec_l04Fill_fill_d := @ih
    · intro uh u44 va r h
      rw [pspec_l04Fill_fill_d] at h
      refine FnO.o2 Try.func111 (rfl : Try.f111.body = some _) ?_
      intro w0 X0 Fin pv0 pb gt
      apply Wc.seq
      refine Wc.r0 ⟨[tP 0 1000000, tI 2 va, tP 4 4, tP 6 6], [bC 4 (GTerm.q u44), (6, .cells GTerm.z [(3, .app 41)]), bC 1000000 (GL04Fill.q uh)], []⟩ ?_
      apply Wc.seq
      obtain ⟨uo, h661, h⟩ := obind h
      refine Wc.draw hmix [{}, {}, {}, {}, {}, { r := some (.v (.agg (GTerm.q uo)) []) }] [] [0, 2, 4, 6] [4, 6, 1000000] [] ⟨[tP 0 1000000, tI 2 va, tP 4 4, tP 6 6], [bC 4 (GTerm.q uo), (6, .cells GTerm.z [(3, .app 41)]), bC 1000000 (GL04Fill.q uh)], []⟩ _ (by kernel_rfl) (fun X => by kernel_rfl) (.cons (cspec_l04Walk h661) .nil) ?_
      apply Wc.seq
      refine Wc.r0 ⟨[tP 0 1000000, tI 2 va, tP 4 4, tP 6 6], [bC 4 (GTerm.q uo), (6, .cells GTerm.z [(3, .app 41)]), bC 1000000 [.sl (List.map GTerm.c uh.gList), aI (wr.i64 (uh.gLeft - 1)), .bool uh.gBad]], []⟩ ?_
      apply Wc.seq
      refine Wc.seqJ (fun st => ∃ (ub8 : Bool), st = ⟨[tP 0 1000000, tI 2 va, tP 4 4, tP 6 6, tB 42 ub8], [bC 4 (GTerm.q uo), (6, .cells [aI 0, .str (bs []), aI 0, .slx] [(3, .ex 41 true (List.map GTerm.c []))]), bC 1000000 [.sl (List.map GTerm.c uh.gList), aI (wr.i64 (uh.gLeft - 1)), .bool uh.gBad]], []⟩ ∧ pspec_l04Fill_fill_d_J1 k (pspec_l04Fill_fill_d k) uh uo va ub8 = some r) ?_ ?_
      · rcases oif h with ⟨h669, h⟩ | ⟨h669, h⟩
        · refine Wc.r3 [{}, {}, {}, {}, { re := some (.bool true) }] [.ow (.b 6 3) true] ⟨[tP 0 1000000, tI 2 va, tP 4 4, tP 6 6, tB 42 true], [bC 4 (GTerm.q uo), (6, .cells [aI 0, .str (bs []), aI 0, .slx] [(3, .ex 41 true (List.map GTerm.c []))]), bC 1000000 [.sl (List.map GTerm.c uh.gList), aI (wr.i64 (uh.gLeft - 1)), .bool uh.gBad]], []⟩ (.cons (congrArg AV.bool h669) .nil) ?_
          exact ⟨_, rfl, h⟩
        · rcases oif h with ⟨h670, h⟩ | ⟨h670, h⟩
          · refine Wc.r3 [{}, {}, {}, {}, { re := some (.bool false) }, {}, {}, {}, {}, {}, {}, { re := some (.bool true) }] [.ow (.b 6 3) true] ⟨[tP 0 1000000, tI 2 va, tP 4 4, tP 6 6, tB 42 true], [bC 4 (GTerm.q uo), (6, .cells [aI 0, .str (bs []), aI 0, .slx] [(3, .ex 41 true (List.map GTerm.c []))]), bC 1000000 [.sl (List.map GTerm.c uh.gList), aI (wr.i64 (uh.gLeft - 1)), .bool uh.gBad]], []⟩ (.cons (congrArg AV.bool h669) (.cons (congrArg AV.bool h670) .nil)) ?_
            exact ⟨_, rfl, h⟩
          · rcases oif h with ⟨h671, h⟩ | ⟨h671, h⟩
            · refine Wc.r3 [{}, {}, {}, {}, { re := some (.bool false) }, {}, {}, {}, {}, {}, {}, { re := some (.bool false) }, {}, {}, {}, { re := some (.bool true) }] [.ow (.b 6 3) true] ⟨[tP 0 1000000, tI 2 va, tP 4 4, tP 6 6, tB 42 true], [bC 4 (GTerm.q uo), (6, .cells [aI 0, .str (bs []), aI 0, .slx] [(3, .ex 41 true (List.map GTerm.c []))]), bC 1000000 [.sl (List.map GTerm.c uh.gList), aI (wr.i64 (uh.gLeft - 1)), .bool uh.gBad]], []⟩ (.cons (congrArg AV.bool h669) (.cons (congrArg AV.bool h670) (.cons (congrArg AV.bool h671) .nil))) ?_
              exact ⟨_, rfl, h⟩
            · obtain ⟨udl, h672, h⟩ := obind h
              refine Wc.r3 [{}, {}, {}, {}, { re := some (.bool false) }, {}, {}, {}, {}, {}, {}, { re := some (.bool false) }, {}, {}, {}, { re := some (.bool false) }, {}, { r := some (.v (.bool udl) []) }] [.ow (.b 6 3) true] ⟨[tP 0 1000000, tI 2 va, tP 4 4, tP 6 6, tB 42 (!udl)], [bC 4 (GTerm.q uo), (6, .cells [aI 0, .str (bs []), aI 0, .slx] [(3, .ex 41 true (List.map GTerm.c []))]), bC 1000000 [.sl (List.map GTerm.c uh.gList), aI (wr.i64 (uh.gLeft - 1)), .bool uh.gBad]], []⟩ (.cons (congrArg AV.bool h669) (.cons (congrArg AV.bool h670) (.cons (congrArg AV.bool h671) (.cons (cspec_l03One h672) .nil)))) ?_
              exact ⟨_, rfl, h⟩
      · rintro st ⟨ub8, rfl, h⟩
        rcases oif h with ⟨h662, h⟩ | ⟨h662, h⟩
        · refine Wc.cT h662 ?_
          apply Wc.seq
          refine Wc.r0 ⟨[tP 6 6], [(6, .cells [aI 0, .str (bs []), aI 0, .slx] [(3, .ex 41 true (List.map GTerm.c []))]), bC 1000000 [.sl (List.map GTerm.c uh.gList), aI (wr.i64 (uh.gLeft - 1)), .bool true]], []⟩ ?_
          apply Wc.seq
          refine Wc.r1 [{}, { tk := [46] }] ⟨[tP 6 6], [(6, .cells GTerm.z [(3, .app 41)]), bC 1000000 [.sl (List.map GTerm.c uh.gList), aI (wr.i64 (uh.gLeft - 1)), .bool true]], []⟩ ?_
          refine Wc.fx [.ow (.b 6 3) true] ⟨[tP 6 6], [(6, .cells [aI 0, .str (bs []), aI 0, .slx] [(3, .ex 41 true (List.map GTerm.c []))]), bC 1000000 [.sl (List.map GTerm.c uh.gList), aI (wr.i64 (uh.gLeft - 1)), .bool true]], []⟩ ?_
          obtain rfl := Option.some.inj h; exact Wc.ret dn
        · refine Wc.cF h662 ?_
          refine Wc.fx [] ⟨[tP 0 1000000, tI 2 va, tP 4 4, tP 6 6], [bC 4 (GTerm.q uo), (6, .cells [aI 0, .str (bs []), aI 0, .slx] [(3, .ex 41 true (List.map GTerm.c []))]), bC 1000000 [.sl (List.map GTerm.c uh.gList), aI (wr.i64 (uh.gLeft - 1)), .bool uh.gBad]], []⟩ ?_
          refine Wc.skip ?_
          apply Wc.seq
          refine Wc.r0 ⟨[tP 0 1000000, tI 2 va, tP 4 4, tP 6 6, tP 7 7], [bC 4 (GTerm.q uo), (6, .cells [aI 0, .str (bs []), aI 0, .slx] [(3, .ex 41 true (List.map GTerm.c []))]), bC 7 (GTerm.q uo), bC 1000000 [.sl (List.map GTerm.c uh.gList), aI (wr.i64 (uh.gLeft - 1)), .bool uh.gBad]], []⟩ ?_
          apply Wc.seq
          refine Wc.r2 [{ c := some (List.map GTerm.c []), md := 2 }, {}, { tk := [48] }] ⟨[tP 0 1000000, tI 2 va, tP 4 4, tP 6 6, tP 7 7], [bC 4 (GTerm.q uo), (6, .cells [aI 0, .str (bs []), aI 0, .slx] [(3, .ex 41 true (List.map GTerm.c []))]), (7, .cells (GTerm.qx uo) [(3, .ex 41 true (List.map GTerm.c []))]), bC 1000000 [.sl (List.map GTerm.c uh.gList), aI (wr.i64 (uh.gLeft - 1)), .bool uh.gBad]], []⟩ (.cons (cl_nil GTerm.c) .nil) ?_
          apply Wc.seq
          apply Wc.seq
          refine Wc.r0 ⟨[tP 0 1000000, tI 2 va, tP 4 4, tP 6 6, tP 7 7, tI 8 0], [bC 4 (GTerm.q uo), (6, .cells [aI 0, .str (bs []), aI 0, .slx] [(3, .ex 41 true (List.map GTerm.c []))]), (7, .cells (GTerm.qx uo) [(3, .ex 41 true (List.map GTerm.c []))]), bC 1000000 [.sl (List.map GTerm.c uh.gList), aI (wr.i64 (uh.gLeft - 1)), .bool uh.gBad]], []⟩ ?_
          obtain ⟨out2, h663, h⟩ := obind h
          refine Wc.lastJ (fun st => ∃ (u5j : GTerm) (u8c : GL04Fill), out2 = .done (u5j, u8c) ∧ st = ⟨[tP 6 6, tP 7 7], [(6, .cells [aI 0, .str (bs []), aI 0, .slx] [(3, .ex 41 true (List.map GTerm.c []))]), (7, .cells (GTerm.qx u5j) (GTerm.h3_41t u5j)), bC 1000000 (GL04Fill.q u8c)], []⟩) ?_ ?_
          · refine Wc.block ?_
            refine Wc.loop (fun m st => ∃ (u3h : Int) (vf : GTerm) (u2l : GL04Fill), st = ⟨[tP 0 1000000, tI 2 va, tP 4 4, tP 6 6, tP 7 7, tI 8 u3h], [bC 4 (GTerm.q uo), (6, .cells [aI 0, .str (bs []), aI 0, .slx] [(3, .ex 41 true (List.map GTerm.c []))]), (7, .cells (GTerm.qx vf) (GTerm.h3_41t vf)), bC 1000000 (GL04Fill.q u2l)], []⟩ ∧ pspec_l04Fill_fill_d_L2 k (pspec_l04Fill_fill_d k) uo va m u3h vf u2l = some out2) ?_ k ⟨_, _, _, rfl, h663⟩
            rintro m st ⟨u3h, vf, u2l, rfl, h663⟩
            cases m with
            | zero => exact (onone h663).elim
            | succ m =>
              apply Wc.seq
              apply Wc.seq
              rcases oif h663 with ⟨h664, h663⟩ | ⟨h664, h663⟩
              · refine Wc.r2 [{}, {}, {}, { v := some (aI (uo.gKids.length : Int)) }, {}, { re := some (.bool true) }] ⟨[tP 0 1000000, tI 2 va, tP 4 4, tP 6 6, tP 7 7, tI 8 u3h, tB 61 (!u2l.gBad)], [bC 4 (GTerm.q uo), (6, .cells [aI 0, .str (bs []), aI 0, .slx] [(3, .ex 41 true (List.map GTerm.c []))]), (7, .cells (GTerm.qx vf) (GTerm.h3_41t vf)), bC 1000000 (GL04Fill.q u2l)], []⟩ (.cons (len_obl GTerm.c uo.gKids) (.cons (congrArg AV.bool h664) .nil)) ?_
                rcases oif h663 with ⟨h665, h663⟩ | ⟨h665, h663⟩
                · refine Wc.cT h665 ?_
                  refine Wc.fx [] ⟨[tP 0 1000000, tI 2 va, tP 4 4, tP 6 6, tP 7 7, tI 8 u3h], [bC 4 (GTerm.q uo), (6, .cells [aI 0, .str (bs []), aI 0, .slx] [(3, .ex 41 true (List.map GTerm.c []))]), (7, .cells (GTerm.qx vf) (GTerm.h3_41t vf)), bC 1000000 (GL04Fill.q u2l)], []⟩ ?_
                  refine Wc.skip ?_
                  apply Wc.seq
                  refine Wc.block ?_
                  obtain ⟨ub7, h666, h663⟩ := obind h663
                  obtain ⟨u1c, h667, h663⟩ := obind h663
                  obtain ⟨h668, h663⟩ := oguard h663
                  refine Wc.draw hmix [{}, { md := 1 }, {}, {}, {}, {}, { v := some (.vptr (GTerm.q ub7)) }, {}, {}, {}, { r := some (.v (.agg (GTerm.qx u1c.2)) (GTerm.h3_41t u1c.2)), outs := [(0, .p (GL04Fill.q u1c.1) [])] }, { c := some (List.map GTerm.c [u1c.2]), tk := [74], md := 2 }, { c := some (List.map GTerm.c (vf.gKids ++ [u1c.2])), tk := [65, 75], md := 2 }, {}, { tk := [76] }] [] [0, 2, 4, 6, 7, 8] [4, 6, 7, 1000000] [] ⟨[tP 0 1000000, tI 2 va, tP 4 4, tP 6 6, tP 7 7, tI 8 u3h], [bC 4 (GTerm.q uo), (6, .cells [aI 0, .str (bs []), aI 0, .slx] [(3, .ex 41 true (List.map GTerm.c []))]), (7, .cells (GTerm.qx vf) [(3, .ex 41 true (List.map GTerm.c (vf.gKids ++ [u1c.2])))]), bC 1000000 (GL04Fill.q u1c.1)], []⟩ _ (by kernel_rfl) (fun X => by kernel_rfl) (.cons (at_obl (c := GTerm.c) (GTerm.c_eq ub7) GTerm.c_len h666) (.cons (len_ok 4 (GTerm.q ub7)) (.cons (ih_pspec_l04Fill_fill_d h667) (.cons (cl_cons (c := GTerm.c) (x := u1c.2) (GTerm.c_eq u1c.2) (cl_nil GTerm.c)) (.cons (app_re2 GTerm.c vf.gKids [u1c.2]) (.cons (app_obl2 (c := GTerm.c) (xs := vf.gKids) (ys := [u1c.2]) GTerm.c_len h668) .nil)))))) ?_
                  refine Wc.r0 ⟨[tP 0 1000000, tI 2 va, tP 4 4, tP 6 6, tP 7 7, tI 8 (wr.i64 (u3h + 1))], [bC 4 (GTerm.q uo), (6, .cells [aI 0, .str (bs []), aI 0, .slx] [(3, .ex 41 true (List.map GTerm.c []))]), (7, .cells (GTerm.qx vf) [(3, .ex 41 true (List.map GTerm.c (vf.gKids ++ [u1c.2])))]), bC 1000000 (GL04Fill.q u1c.1)], []⟩ ?_
                  exact ⟨_, Nat.lt_succ_self _, _, _, _, rfl, h663⟩
                · refine Wc.cF h665 ?_
                  refine Wc.fx [] ⟨[tP 6 6, tP 7 7], [(6, .cells [aI 0, .str (bs []), aI 0, .slx] [(3, .ex 41 true (List.map GTerm.c []))]), (7, .cells (GTerm.qx vf) (GTerm.h3_41t vf)), bC 1000000 (GL04Fill.q u2l)], []⟩ ?_
                  refine Wc.exit ?_
                  obtain rfl := Option.some.inj h663
                  exact ⟨_, _, rfl, rfl⟩
              · refine Wc.r2 [{}, {}, {}, { v := some (aI (uo.gKids.length : Int)) }, {}, { re := some (.bool false) }] ⟨[tP 0 1000000, tI 2 va, tP 4 4, tP 6 6, tP 7 7, tI 8 u3h, tB 61 false], [bC 4 (GTerm.q uo), (6, .cells [aI 0, .str (bs []), aI 0, .slx] [(3, .ex 41 true (List.map GTerm.c []))]), (7, .cells (GTerm.qx vf) (GTerm.h3_41t vf)), bC 1000000 (GL04Fill.q u2l)], []⟩ (.cons (len_obl GTerm.c uo.gKids) (.cons (congrArg AV.bool h664) .nil)) ?_
                refine Wc.cF rfl ?_
                refine Wc.fx [] ⟨[tP 6 6, tP 7 7], [(6, .cells [aI 0, .str (bs []), aI 0, .slx] [(3, .ex 41 true (List.map GTerm.c []))]), (7, .cells (GTerm.qx vf) (GTerm.h3_41t vf)), bC 1000000 (GL04Fill.q u2l)], []⟩ ?_
                refine Wc.exit ?_
                obtain rfl := Option.some.inj h663
                exact ⟨_, _, rfl, rfl⟩
          · rintro st ⟨u5j, u8c, rfl, rfl⟩
            apply Wc.seq
            refine Wc.r1 [{ md := 1 }, { tk := [78] }] ⟨[tP 6 6], [(6, .cells (GTerm.qx u5j) (GTerm.h3_41t u5j)), bC 1000000 (GL04Fill.q u8c)], []⟩ ?_
            obtain rfl := Option.some.inj h; exact Wc.ret dn
theorem cspec_l04Fill_fill_d {k : Nat} {uh : GL04Fill} {u44 : GTerm} {va : Int} {r : GL04Fill × GTerm} (h : pspec_l04Fill_fill_d k uh u44 va = some r) : FnO Try.prog 111 [.p (GL04Fill.q uh) [], .v (.agg (GTerm.q u44)) [], .v (aI va) []] (.v (.agg (GTerm.qx r.2)) (GTerm.h3_41t r.2)) [(0, .p (GL04Fill.q r.1) [])] := (all_pspec_l04Fill_fill_d k) h

def pspec_l04Filled_d (k : Nat) (u8d : List GTerm) (u45 : GTerm) : Option (GTerm × Bool) :=
  (pspec_l04Fill_fill_d k (GL04Fill.mk u8d 400 false) u45 1).bind fun u1q =>
  if u1q.1.gBad = true then
    some (GTerm.mk 0 (bs []) 0 [], false)
  else
    some (u1q.2, true)
theorem cspec_l04Filled_d {k : Nat} {u8d : List GTerm} {u45 : GTerm} {r : GTerm × Bool} (h : pspec_l04Filled_d k u8d u45 = some r) : FnO Try.prog 76 [.v (.sl (List.map GTerm.c u8d)) [], .v (.agg (GTerm.q u45)) []] (.v (.tup [.agg (GTerm.qx r.1), .bool r.2]) (GTerm.h3_41t r.1)) [] := by
  refine FnO.o2 Try.func76 (rfl : Try.f76.body = some _) ?_
  intro w0 X0 Fin pv0 pb gt
  unfold pspec_l04Filled_d at h
  apply Wc.seq
  refine Wc.r0 ⟨[tV 0 (.sl (List.map GTerm.c u8d)), tP 3 3, tP 4 4], [bC 3 (GTerm.q u45), (4, .cells GTerm.z [(3, .app 41)])], []⟩ ?_
  apply Wc.seq
  refine Wc.r0 ⟨[tP 3 3, tP 4 4, tP 6 10], [bC 3 (GTerm.q u45), (4, .cells GTerm.z [(3, .app 41)]), bC 10 [.sl (List.map GTerm.c u8d), aI 400, .bool false]], []⟩ ?_
  apply Wc.seq
  obtain ⟨u1q, h651, h⟩ := obind h
  refine Wc.r2 [{}, {}, { r := some (.v (.agg (GTerm.qx u1q.2)) (GTerm.h3_41t u1q.2)), outs := [(0, .p (GL04Fill.q u1q.1) [])] }, {}, { tk := [13] }] ⟨[tP 4 4, tP 6 10, tP 7 7], [(4, .cells GTerm.z [(3, .app 41)]), (7, .cells (GTerm.qx u1q.2) (GTerm.h3_41t u1q.2)), bC 10 (GL04Fill.q u1q.1)], []⟩ (.cons (cspec_l04Fill_fill_d h651) .nil) ?_
  apply Wc.seq
  apply Wc.seq
  refine Wc.r0 ⟨[tP 4 4, tP 7 7, tB 17 u1q.1.gBad], [(4, .cells GTerm.z [(3, .app 41)]), (7, .cells (GTerm.qx u1q.2) (GTerm.h3_41t u1q.2))], []⟩ ?_
  rcases oif h with ⟨h652, h⟩ | ⟨h652, h⟩
  · refine Wc.cT h652 ?_
    apply Wc.seq
    refine Wc.r1 [{}, { tk := [18] }] ⟨[tP 4 4, tB 5 false], [(4, .cells GTerm.z [(3, .app 41)])], []⟩ ?_
    refine Wc.fx [.ow (.b 4 3) true] ⟨[tP 4 4, tB 5 false], [(4, .cells [aI 0, .str (bs []), aI 0, .slx] [(3, .ex 41 true (List.map GTerm.c []))])], []⟩ ?_
    obtain rfl := Option.some.inj h; exact Wc.ret dn
  · refine Wc.cF h652 ?_
    refine Wc.fx [] ⟨[tP 4 4, tP 7 7], [(4, .cells GTerm.z [(3, .app 41)]), (7, .cells (GTerm.qx u1q.2) (GTerm.h3_41t u1q.2))], []⟩ ?_
    refine Wc.skip ?_
    apply Wc.seq
    refine Wc.r1 [{ md := 1 }, { tk := [19] }] ⟨[tP 4 4, tB 5 true], [(4, .cells (GTerm.qx u1q.2) (GTerm.h3_41t u1q.2))], []⟩ ?_
    obtain rfl := Option.some.inj h; exact Wc.ret dn

def pspec_l04Uni_bind (k : Nat) (v8 : GL04Uni) (u1r : Int) (u1s : GTerm) : Option (GL04Uni × Bool) :=
  (pspec_l04Filled_d k v8.gList u1s).bind fun u4t =>
  if (!u4t.2) = true then
    some (v8, false)
  else
    (pspec_l01In k u1r 0 (wr.i64 ((v8.gList.length : Int) - 1))).bind fun udm =>
    if (!udm) = true then
      some (v8, false)
    else
      (pspec_VarsOf k u4t.1).bind fun uec =>
      (pspec_l03Has k uec u1r).bind fun udn =>
      if udn = true then
        some (v8, false)
      else
        (at' v8.gList u1r).bind fun u45 =>
        some (GL04Uni.mk (v8.gList.set ((u1r).toNat) u1s) v8.gPairs, true)
theorem cspec_l04Uni_bind {k : Nat} {hv0 : Value} {v8 : GL04Uni} {u1r : Int} {u1s : GTerm} {r : GL04Uni × Bool} (h : pspec_l04Uni_bind k v8 u1r u1s = some r) : FnO Try.prog 162 [.p [.raw hv0, aI v8.gPairs] (GL04Fill.h0_41f v8.gList), .v (aI u1r) [], .v (.agg (GTerm.q u1s)) []] (.v (.bool r.2) []) [(0, .p [.raw hv0, aI r.1.gPairs] (GL04Fill.h0_41f r.1.gList))] := by
  refine FnO.o2 Try.func162 (rfl : Try.f162.body = some _) ?_
  intro w0 X0 Fin pv0 pb gt
  unfold pspec_l04Uni_bind at h
  apply Wc.seq
  refine Wc.r0 ⟨[tP 0 1000000, tI 1 u1r, tP 5 5], [bC 5 (GTerm.q u1s), (1000000, .cells [.raw hv0, aI v8.gPairs] (GL04Fill.h0_41f v8.gList))], []⟩ ?_
  apply Wc.seq
  obtain ⟨u4t, h649, h⟩ := obind h
  refine Wc.every hmix [{}, {}, {}, {}, {}, { r := some (.v (.tup [.agg (GTerm.qx u4t.1), .bool u4t.2]) (GTerm.h3_41t u4t.1)) }, { tk := [15] }, { tk := [9] }, {}, {}, { tk := [16] }] [] [0, 1, 5, 7, 8] [5, 7, 1000000] [] ⟨[tP 0 1000000, tI 1 u1r, tP 5 5, tP 7 7, tB 8 u4t.2], [bC 5 (GTerm.q u1s), (7, .cells (GTerm.qx u4t.1) (GTerm.h3_41t u4t.1)), (1000000, .cells [.raw hv0, aI v8.gPairs] (GL04Fill.h0_41f v8.gList))], []⟩ _ 145 (by kernel_rfl) (.cons .nil (.cons .nil (.cons .nil (.cons .nil (.cons .nil (.cons (.cons (cspec_l04Filled_d h649) .nil) (.cons .nil (.cons .nil (.cons .nil (.cons .nil (.cons .nil (.cons .nil .nil)))))))))))) ?_
  apply Wc.seq
  apply Wc.seq
  rcases oif h with ⟨h650, h⟩ | ⟨h650, h⟩
  · refine Wc.r2 [{ fx := [.sh (.b 7 3)] }, {}, { re := some (.bool true) }] ⟨[tP 0 1000000, tI 1 u1r, tP 5 5, tB 36 true], [bC 5 (GTerm.q u1s), (1000000, .cells [.raw hv0, aI v8.gPairs] (GL04Fill.h0_41f v8.gList))], []⟩ (.cons (congrArg AV.bool h650) .nil) ?_
    refine Wc.cT rfl ?_
    apply Wc.seq
    refine Wc.r0 ⟨[tB 6 false], [(1000000, .cells [.raw hv0, aI v8.gPairs] (GL04Fill.h0_41f v8.gList))], []⟩ ?_
    obtain rfl := Option.some.inj h; exact Wc.ret dn
  · obtain ⟨udm, h651, h⟩ := obind h
    rcases oif h with ⟨h652, h⟩ | ⟨h652, h⟩
    · refine Wc.r2 [{ fx := [.sh (.b 7 3)] }, {}, { re := some (.bool false) }, {}, {}, {}, {}, {}, { v := some (aI (v8.gList.length : Int)) }, {}, { r := some (.v (.bool udm) []) }, {}, {}, { re := some (.bool true) }] ⟨[tP 0 1000000, tI 1 u1r, tP 5 5, tB 36 true], [bC 5 (GTerm.q u1s), (1000000, .cells [.raw hv0, aI v8.gPairs] (GL04Fill.h0_41f v8.gList))], []⟩ (.cons (congrArg AV.bool h650) (.cons (len_obl GTerm.c v8.gList) (.cons (cspec_l01In h651) (.cons (congrArg AV.bool h652) .nil)))) ?_
      refine Wc.cT rfl ?_
      apply Wc.seq
      refine Wc.r0 ⟨[tB 6 false], [(1000000, .cells [.raw hv0, aI v8.gPairs] (GL04Fill.h0_41f v8.gList))], []⟩ ?_
      obtain rfl := Option.some.inj h; exact Wc.ret dn
    · obtain ⟨uec, h653, h⟩ := obind h
      obtain ⟨udn, h654, h⟩ := obind h
      refine Wc.r2 [{ fx := [.sh (.b 7 3)] }, {}, { re := some (.bool false) }, {}, {}, {}, {}, {}, { v := some (aI (v8.gList.length : Int)) }, {}, { r := some (.v (.bool udm) []) }, {}, {}, { re := some (.bool false) }, {}, { r := some (.v (.sl (List.map cI.i64 uec)) []) }, {}, { r := some (.v (.bool udn) []) }] ⟨[tP 0 1000000, tI 1 u1r, tP 5 5, tB 36 udn], [bC 5 (GTerm.q u1s), (1000000, .cells [.raw hv0, aI v8.gPairs] (GL04Fill.h0_41f v8.gList))], []⟩ (.cons (congrArg AV.bool h650) (.cons (len_obl GTerm.c v8.gList) (.cons (cspec_l01In h651) (.cons (congrArg AV.bool h652) (.cons (cspec_VarsOf h653) (.cons (cspec_l03Has h654) .nil)))))) ?_
      rcases oif h with ⟨h655, h⟩ | ⟨h655, h⟩
      · refine Wc.cT h655 ?_
        apply Wc.seq
        refine Wc.r0 ⟨[tB 6 false], [(1000000, .cells [.raw hv0, aI v8.gPairs] (GL04Fill.h0_41f v8.gList))], []⟩ ?_
        obtain rfl := Option.some.inj h; exact Wc.ret dn
      · refine Wc.cF h655 ?_
        refine Wc.fx [] ⟨[tP 0 1000000, tI 1 u1r, tP 5 5], [bC 5 (GTerm.q u1s), (1000000, .cells [.raw hv0, aI v8.gPairs] (GL04Fill.h0_41f v8.gList))], []⟩ ?_
        refine Wc.skip ?_
        apply Wc.seq
        obtain ⟨u45, h656, h⟩ := obind h
        refine Wc.every hmix [{}, {}, {}, {}, {}, {}, {}, { c := some (List.map GTerm.c (v8.gList.set ((u1r).toNat) u1s)) }] [] [] [1000000] [] ⟨[], [(1000000, .cells [.raw hv0, aI v8.gPairs] [(0, .ex 41 false (List.map GTerm.c (v8.gList.set ((u1r).toNat) u1s)))])], []⟩ _ 30 (by kernel_rfl) (.cons .nil (.cons .nil (.cons .nil (.cons .nil (.cons .nil (.cons .nil (.cons (.cons (ix_obl (c := GTerm.c) GTerm.c_len h656) .nil) (.cons (.cons (mod_obl (off := 0) (new := (GTerm.q u1s)) (c := GTerm.c) (GTerm.c_eq u45) (GTerm.c_eq u1s) (at'_spec h656).2 rfl) (.cons (st_obl (sz := 4) (off := 0) (s := 4) (c := GTerm.c) (GTerm.c_eq u45) (at'_spec h656).2 rfl (Nat.le_of_ble_eq_true rfl)) .nil)) .nil)))))))) ?_
        apply Wc.seq
        refine Wc.r0 ⟨[tB 6 true], [(1000000, .cells [.raw hv0, aI v8.gPairs] [(0, .ex 41 false (List.map GTerm.c (v8.gList.set ((u1r).toNat) u1s)))])], []⟩ ?_
        obtain rfl := Option.some.inj h; exact Wc.ret dn

def pspec_l04Walk_i_L1 (k : Nat) (vp : List GTerm) : Nat → Int → GTerm → Option (Out ((List GTerm) × GTerm) GTerm)
  | 0, _, _ => none
  | m + 1, u25, u0b =>
    if (decide (u25 < 5000)) = true then
      if (u0b.gKind != 1) = true then
        some (.done u0b)
      else
        (pspec_l01In k u0b.gNum 0 (wr.i64 ((vp.length : Int) - 1))).bind fun udo =>
        if (!udo) = true then
          some (.done u0b)
        else
          (at' vp u0b.gNum).bind fun u8e =>
          if (u8e.gKind == 0) = true then
            some (.done u0b)
          else
            (at' vp u0b.gNum).bind fun uo =>
            pspec_l04Walk_i_L1 k vp m (wr.i64 (u25 + 1)) uo
    else
      some (.done u0b)
def pspec_l04Walk_i (k : Nat) (vp : List GTerm) (u8f : GTerm) : Option ((List GTerm) × GTerm) :=
  (pspec_l04Walk_i_L1 k vp k 0 u8f).bind fun out1 => match out1 with
  | .ret r => some r
  | .done u8g =>
    some (vp, u8g)
theorem cspec_l04Walk_i {k : Nat} {vp : List GTerm} {u8f : GTerm} {r : (List GTerm) × GTerm} (h : pspec_l04Walk_i k vp u8f = some r) : FnO Try.prog 97 [.io (.slx) [(0, .ex 41 false (List.map GTerm.c vp))], .v (.agg (GTerm.q u8f)) []] (.v (.agg (GTerm.q r.2)) []) [(0, .v .undef [(0, .ex 41 false (List.map GTerm.c r.1))])] := by
  refine FnO.o2 Try.func97 (rfl : Try.f97.body = some _) ?_
  intro w0 X0 Fin pv0 pb gt
  unfold pspec_l04Walk_i at h
  apply Wc.seq
  refine Wc.r0 ⟨[(0, (.v (.slx), [(0, .al (.a 0 0) [])])), tP 3 3, tP 4 4], [bC 3 (GTerm.q u8f), (4, .cells GTerm.z [(3, .app 41)])], [(0, [(0, .ex 41 false (List.map GTerm.c vp))])]⟩ ?_
  apply Wc.seq
  apply Wc.seq
  refine Wc.r0 ⟨[(0, (.v (.slx), [(0, .al (.a 0 0) [])])), tP 3 3, tP 4 4, tI 5 0], [bC 3 (GTerm.q u8f), (4, .cells GTerm.z [(3, .app 41)])], [(0, [(0, .ex 41 false (List.map GTerm.c vp))])]⟩ ?_
  obtain ⟨out1, h658, h⟩ := obind h
  refine Wc.lastJ (fun st => ∃ (u8g : GTerm), out1 = .done u8g ∧ st = ⟨[tP 3 3, tP 4 4], [bC 3 (GTerm.q u8g), (4, .cells GTerm.z [(3, .app 41)])], [(0, [(0, .ex 41 false (List.map GTerm.c vp))])]⟩) ?_ ?_
  · refine Wc.block ?_
    refine Wc.loop (fun m st => ∃ (u25 : Int) (u0b : GTerm), st = ⟨[(0, (.v (.slx), [(0, .al (.a 0 0) [])])), tP 3 3, tP 4 4, tI 5 u25], [bC 3 (GTerm.q u0b), (4, .cells GTerm.z [(3, .app 41)])], [(0, [(0, .ex 41 false (List.map GTerm.c vp))])]⟩ ∧ pspec_l04Walk_i_L1 k vp m u25 u0b = some out1) ?_ k ⟨_, _, rfl, h658⟩
    rintro m st ⟨u25, u0b, rfl, h658⟩
    cases m with
    | zero => exact (onone h658).elim
    | succ m =>
      apply Wc.seq
      apply Wc.seq
      refine Wc.r0 ⟨[(0, (.v (.slx), [(0, .al (.a 0 0) [])])), tP 3 3, tP 4 4, tI 5 u25, tB 7 (decide (u25 < 5000))], [bC 3 (GTerm.q u0b), (4, .cells GTerm.z [(3, .app 41)])], [(0, [(0, .ex 41 false (List.map GTerm.c vp))])]⟩ ?_
      rcases oif h658 with ⟨h659, h658⟩ | ⟨h659, h658⟩
      · refine Wc.cT h659 ?_
        refine Wc.fx [] ⟨[(0, (.v (.slx), [(0, .al (.a 0 0) [])])), tP 3 3, tP 4 4, tI 5 u25], [bC 3 (GTerm.q u0b), (4, .cells GTerm.z [(3, .app 41)])], [(0, [(0, .ex 41 false (List.map GTerm.c vp))])]⟩ ?_
        refine Wc.skip ?_
        apply Wc.seq
        refine Wc.block ?_
        apply Wc.seq
        apply Wc.seq
        rcases oif h658 with ⟨h660, h658⟩ | ⟨h660, h658⟩
        · refine Wc.r2 [{}, {}, {}, { re := some (.bool true) }] ⟨[(0, (.v (.slx), [(0, .al (.a 0 0) [])])), tP 3 3, tP 4 4, tI 5 u25, tB 30 true], [bC 3 (GTerm.q u0b), (4, .cells GTerm.z [(3, .app 41)])], [(0, [(0, .ex 41 false (List.map GTerm.c vp))])]⟩ (.cons (congrArg AV.bool h660) .nil) ?_
          refine Wc.cT rfl ?_
          refine Wc.fx [] ⟨[tP 3 3, tP 4 4], [bC 3 (GTerm.q u0b), (4, .cells GTerm.z [(3, .app 41)])], [(0, [(0, .ex 41 false (List.map GTerm.c vp))])]⟩ ?_
          refine Wc.exit ?_
          obtain rfl := Option.some.inj h658
          exact ⟨_, rfl, rfl⟩
        · obtain ⟨udo, h661, h658⟩ := obind h658
          rcases oif h658 with ⟨h662, h658⟩ | ⟨h662, h658⟩
          · refine Wc.r2 [{}, {}, {}, { re := some (.bool false) }, {}, {}, {}, { v := some (aI (vp.length : Int)) }, {}, { r := some (.v (.bool udo) []) }, {}, {}, { re := some (.bool true) }] ⟨[(0, (.v (.slx), [(0, .al (.a 0 0) [])])), tP 3 3, tP 4 4, tI 5 u25, tB 30 true], [bC 3 (GTerm.q u0b), (4, .cells GTerm.z [(3, .app 41)])], [(0, [(0, .ex 41 false (List.map GTerm.c vp))])]⟩ (.cons (congrArg AV.bool h660) (.cons (len_obl GTerm.c vp) (.cons (cspec_l01In h661) (.cons (congrArg AV.bool h662) .nil)))) ?_
            refine Wc.cT rfl ?_
            refine Wc.fx [] ⟨[tP 3 3, tP 4 4], [bC 3 (GTerm.q u0b), (4, .cells GTerm.z [(3, .app 41)])], [(0, [(0, .ex 41 false (List.map GTerm.c vp))])]⟩ ?_
            refine Wc.exit ?_
            obtain rfl := Option.some.inj h658
            exact ⟨_, rfl, rfl⟩
          · obtain ⟨u8e, h663, h658⟩ := obind h658
            refine Wc.r2 [{}, {}, {}, { re := some (.bool false) }, {}, {}, {}, { v := some (aI (vp.length : Int)) }, {}, { r := some (.v (.bool udo) []) }, {}, {}, { re := some (.bool false) }, {}, {}, {}, {}, {}, { v := some (aI u8e.gKind) }] ⟨[(0, (.v (.slx), [(0, .al (.a 0 0) [])])), tP 3 3, tP 4 4, tI 5 u25, tB 30 (u8e.gKind == 0)], [bC 3 (GTerm.q u0b), (4, .cells GTerm.z [(3, .app 41)])], [(0, [(0, .ex 41 false (List.map GTerm.c vp))])]⟩ (.cons (congrArg AV.bool h660) (.cons (len_obl GTerm.c vp) (.cons (cspec_l01In h661) (.cons (congrArg AV.bool h662) (.cons (ix_obl (c := GTerm.c) GTerm.c_len h663) (.cons (el_obl (sz := 4) (off := 0) (s := 1) (ag := false) (v := aI u8e.gKind) (c := GTerm.c) (GTerm.c_eq u8e) (at'_spec h663).2 rfl (Nat.le_of_ble_eq_true rfl) rfl) .nil)))))) ?_
            rcases oif h658 with ⟨h664, h658⟩ | ⟨h664, h658⟩
            · refine Wc.cT h664 ?_
              refine Wc.fx [] ⟨[tP 3 3, tP 4 4], [bC 3 (GTerm.q u0b), (4, .cells GTerm.z [(3, .app 41)])], [(0, [(0, .ex 41 false (List.map GTerm.c vp))])]⟩ ?_
              refine Wc.exit ?_
              obtain rfl := Option.some.inj h658
              exact ⟨_, rfl, rfl⟩
            · refine Wc.cF h664 ?_
              refine Wc.fx [] ⟨[(0, (.v (.slx), [(0, .al (.a 0 0) [])])), tP 3 3, tP 4 4, tI 5 u25], [bC 3 (GTerm.q u0b), (4, .cells GTerm.z [(3, .app 41)])], [(0, [(0, .ex 41 false (List.map GTerm.c vp))])]⟩ ?_
              refine Wc.skip ?_
              obtain ⟨uo, h665, h658⟩ := obind h658
              refine Wc.r2 [{}, {}, {}, {}, { v := some (.agg (GTerm.q uo)) }] ⟨[(0, (.v (.slx), [(0, .al (.a 0 0) [])])), tP 3 3, tP 4 4, tI 5 u25], [bC 3 (GTerm.q uo), (4, .cells GTerm.z [(3, .app 41)])], [(0, [(0, .ex 41 false (List.map GTerm.c vp))])]⟩ (.cons (ix_obl (c := GTerm.c) GTerm.c_len h665) (.cons (el_obl (sz := 4) (off := 0) (s := 4) (ag := true) (v := .agg (GTerm.q uo)) (c := GTerm.c) (GTerm.c_eq uo) (at'_spec h665).2 rfl (Nat.le_of_ble_eq_true rfl) rfl) .nil)) ?_
              refine Wc.r0 ⟨[(0, (.v (.slx), [(0, .al (.a 0 0) [])])), tP 3 3, tP 4 4, tI 5 (wr.i64 (u25 + 1))], [bC 3 (GTerm.q uo), (4, .cells GTerm.z [(3, .app 41)])], [(0, [(0, .ex 41 false (List.map GTerm.c vp))])]⟩ ?_
              exact ⟨_, Nat.lt_succ_self _, _, _, rfl, h658⟩
      · refine Wc.cF h659 ?_
        refine Wc.fx [] ⟨[tP 3 3, tP 4 4], [bC 3 (GTerm.q u0b), (4, .cells GTerm.z [(3, .app 41)])], [(0, [(0, .ex 41 false (List.map GTerm.c vp))])]⟩ ?_
        refine Wc.exit ?_
        obtain rfl := Option.some.inj h658
        exact ⟨_, rfl, rfl⟩
  · rintro st ⟨u8g, rfl, rfl⟩
    apply Wc.seq
    refine Wc.r0 ⟨[tP 4 4], [bC 4 (GTerm.q u8g)], [(0, [(0, .ex 41 false (List.map GTerm.c vp))])]⟩ ?_
    obtain rfl := Option.some.inj h; exact Wc.ret dn

def pspec_l04Uni_same_L2 (k : Nat) (rspec_l04Uni_same : GL04Uni → GTerm → GTerm → Option (GL04Uni × Bool)) (uf : (List GTerm) × GTerm) (u6 : (List GTerm) × GTerm) : Nat → Int → GL04Uni → Option (Out (GL04Uni × Bool) GL04Uni)
  | 0, _, _ => none
  | m + 1, u2m, u2y =>
    if (decide (u2m < (uf.2.gKids.length : Int))) = true then
      (at' uf.2.gKids u2m).bind fun vf =>
      (at' u6.2.gKids u2m).bind fun ub9 =>
      (rspec_l04Uni_same u2y vf ub9).bind fun u1t =>
      if (!u1t.2) = true then
        some (.ret (u1t.1, false))
      else
        pspec_l04Uni_same_L2 k rspec_l04Uni_same uf u6 m (wr.i64 (u2m + 1)) u1t.1
    else
      some (.done u2y)
def pspec_l04Uni_same_J1 (k : Nat) (rspec_l04Uni_same : GL04Uni → GTerm → GTerm → Option (GL04Uni × Bool)) (uf : (List GTerm) × GTerm) (u6 : (List GTerm) × GTerm) (ud : GL04Uni) (uba : Bool) : Option (GL04Uni × Bool) :=
  if uba = true then
    if (uf.2.gNum == u6.2.gNum) = true then
      some (GL04Uni.mk u6.1 (wr.i64 (ud.gPairs + 1)), true)
    else
      if (decide (uf.2.gNum > u6.2.gNum)) = true then
        (pspec_l04Uni_link k (GL04Uni.mk u6.1 (wr.i64 (ud.gPairs + 1))) uf.2.gNum u6.2).bind fun u4u =>
        some (u4u.1, u4u.2)
      else
        (pspec_l04Uni_link k (GL04Uni.mk u6.1 (wr.i64 (ud.gPairs + 1))) u6.2.gNum uf.2).bind fun u4v =>
        some (u4v.1, u4v.2)
  else
    if (uf.2.gKind == 1) = true then
      (pspec_l04Uni_bind k (GL04Uni.mk u6.1 (wr.i64 (ud.gPairs + 1))) uf.2.gNum u6.2).bind fun u4w =>
      some (u4w.1, u4w.2)
    else
      if (u6.2.gKind == 1) = true then
        (pspec_l04Uni_bind k (GL04Uni.mk u6.1 (wr.i64 (ud.gPairs + 1))) u6.2.gNum uf.2).bind fun u4x =>
        some (u4x.1, u4x.2)
      else
        if (uf.2.gKind != u6.2.gKind) = true then
          some (GL04Uni.mk u6.1 (wr.i64 (ud.gPairs + 1)), false)
        else
          if (!(sEq uf.2.gName u6.2.gName)) = true then
            some (GL04Uni.mk u6.1 (wr.i64 (ud.gPairs + 1)), false)
          else
            if (uf.2.gNum != u6.2.gNum) = true then
              some (GL04Uni.mk u6.1 (wr.i64 (ud.gPairs + 1)), false)
            else
              if ((uf.2.gKids.length : Int) != (u6.2.gKids.length : Int)) = true then
                some (GL04Uni.mk u6.1 (wr.i64 (ud.gPairs + 1)), false)
              else
                (pspec_l04Uni_same_L2 k rspec_l04Uni_same uf u6 k 0 (GL04Uni.mk u6.1 (wr.i64 (ud.gPairs + 1)))).bind fun out2 => match out2 with
                | .ret r => some r
                | .done u5k =>
                  some (u5k, true)
mutual
def pspec_l04Uni_same : Nat → GL04Uni → GTerm → GTerm → Option (GL04Uni × Bool)
  | 0, _, _, _ => none
  | k + 1, ud, u2z, u2n =>
    if (decide ((wr.i64 (ud.gPairs + 1)) > 2000)) = true then
      some (GL04Uni.mk ud.gList (wr.i64 (ud.gPairs + 1)), false)
    else
      (pspec_l04Walk_i k ud.gList u2z).bind fun uf =>
      (pspec_l04Walk_i k uf.1 u2n).bind fun u6 =>
      if (uf.2.gKind == 1) = true then
        pspec_l04Uni_same_J1 k (pspec_l04Uni_same k) uf u6 ud (u6.2.gKind == 1)
      else
        pspec_l04Uni_same_J1 k (pspec_l04Uni_same k) uf u6 ud false
end
set_option maxHeartbeats 4000000 in
theorem all_pspec_l04Uni_same : ∀ k : Nat, (∀ {hv0 : Value} {ud : GL04Uni} {u2z : GTerm} {u2n : GTerm} {r : GL04Uni × Bool}, pspec_l04Uni_same k ud u2z u2n = some r → FnO Try.prog 160 [.p [.raw hv0, aI ud.gPairs] (GL04Fill.h0_41f ud.gList), .v (.agg (GTerm.q u2z)) [], .v (.agg (GTerm.q u2n)) []] (.v (.bool r.2) []) [(0, .p [.raw hv0, aI r.1.gPairs] (GL04Fill.h0_41f r.1.gList))]) := by
  intro k
  induction k with
  | zero =>
    · intro hv0 ud u2z u2n r h
      exact (onone (by rw [pspec_l04Uni_same] at h; exact h)).elim
  | succ k ih =>
    have ih_pspec_l04Uni_same := @ih
    · intro hv0 ud u2z u2n r h
      rw [pspec_l04Uni_same] at h
      refine FnO.o2 Try.func160 (rfl : Try.f160.body = some _) ?_
      intro w0 X0 Fin pv0 pb gt
      apply Wc.seq
      refine Wc.r0 ⟨[tP 0 1000000, tP 4 4, tP 5 5], [bC 4 (GTerm.q u2z), bC 5 (GTerm.q u2n), (1000000, .cells [.raw hv0, aI ud.gPairs] (GL04Fill.h0_41f ud.gList))], []⟩ ?_
      apply Wc.seq
      refine Wc.r0 ⟨[tP 0 1000000, tP 4 4, tP 5 5], [bC 4 (GTerm.q u2z), bC 5 (GTerm.q u2n), (1000000, .cells [.raw hv0, aI (wr.i64 (ud.gPairs + 1))] (GL04Fill.h0_41f ud.gList))], []⟩ ?_
      apply Wc.seq
      apply Wc.seq
      refine Wc.r0 ⟨[tP 0 1000000, tP 4 4, tP 5 5, tB 20 (decide ((wr.i64 (ud.gPairs + 1)) > 2000))], [bC 4 (GTerm.q u2z), bC 5 (GTerm.q u2n), (1000000, .cells [.raw hv0, aI (wr.i64 (ud.gPairs + 1))] (GL04Fill.h0_41f ud.gList))], []⟩ ?_
      rcases oif h with ⟨h657, h⟩ | ⟨h657, h⟩
      · refine Wc.cT h657 ?_
        apply Wc.seq
        refine Wc.r0 ⟨[tB 6 false], [(1000000, .cells [.raw hv0, aI (wr.i64 (ud.gPairs + 1))] (GL04Fill.h0_41f ud.gList))], []⟩ ?_
        obtain rfl := Option.some.inj h; exact Wc.ret dn
      · refine Wc.cF h657 ?_
        refine Wc.fx [] ⟨[tP 0 1000000, tP 4 4, tP 5 5], [bC 4 (GTerm.q u2z), bC 5 (GTerm.q u2n), (1000000, .cells [.raw hv0, aI (wr.i64 (ud.gPairs + 1))] (GL04Fill.h0_41f ud.gList))], []⟩ ?_
        refine Wc.skip ?_
        apply Wc.seq
        obtain ⟨uf, h658, h⟩ := obind h
        refine Wc.every hmix [{}, {}, {}, {}, {}, { io := [0], r := some (.v (.agg (GTerm.q uf.2)) []), outs := [(0, .v .undef [(0, .ex 41 false (List.map GTerm.c uf.1))])] }] [] [0, 4, 5] [4, 5, 1000000] [] ⟨[tP 0 1000000, tP 4 4, tP 5 5], [bC 4 (GTerm.q uf.2), bC 5 (GTerm.q u2n), (1000000, .cells [.raw hv0, aI (wr.i64 (ud.gPairs + 1))] [(0, .ex 41 false (List.map GTerm.c uf.1))])], []⟩ _ 5 (by kernel_rfl) (.cons .nil (.cons .nil (.cons .nil (.cons .nil (.cons .nil (.cons (.cons (cspec_l04Walk_i h658) .nil) (.cons .nil .nil))))))) ?_
        apply Wc.seq
        obtain ⟨u6, h659, h⟩ := obind h
        refine Wc.every hmix [{}, {}, {}, {}, {}, { io := [0], r := some (.v (.agg (GTerm.q u6.2)) []), outs := [(0, .v .undef [(0, .ex 41 false (List.map GTerm.c u6.1))])] }] [] [0, 4, 5] [4, 5, 1000000] [] ⟨[tP 0 1000000, tP 4 4, tP 5 5], [bC 4 (GTerm.q uf.2), bC 5 (GTerm.q u6.2), (1000000, .cells [.raw hv0, aI (wr.i64 (ud.gPairs + 1))] [(0, .ex 41 false (List.map GTerm.c u6.1))])], []⟩ _ 5 (by kernel_rfl) (.cons .nil (.cons .nil (.cons .nil (.cons .nil (.cons .nil (.cons (.cons (cspec_l04Walk_i h659) .nil) (.cons .nil .nil))))))) ?_
        apply Wc.seq
        refine Wc.seqJ (fun st => ∃ (uba : Bool), st = ⟨[tP 0 1000000, tP 4 4, tP 5 5, tB 40 uba], [bC 4 (GTerm.q uf.2), bC 5 (GTerm.q u6.2), (1000000, .cells [.raw hv0, aI (wr.i64 (ud.gPairs + 1))] [(0, .ex 41 false (List.map GTerm.c u6.1))])], []⟩ ∧ pspec_l04Uni_same_J1 k (pspec_l04Uni_same k) uf u6 ud uba = some r) ?_ ?_
        · rcases oif h with ⟨h679, h⟩ | ⟨h679, h⟩
          · refine Wc.r2 [{}, {}, {}, { re := some (.bool true) }] ⟨[tP 0 1000000, tP 4 4, tP 5 5, tB 40 (u6.2.gKind == 1)], [bC 4 (GTerm.q uf.2), bC 5 (GTerm.q u6.2), (1000000, .cells [.raw hv0, aI (wr.i64 (ud.gPairs + 1))] [(0, .ex 41 false (List.map GTerm.c u6.1))])], []⟩ (.cons (congrArg AV.bool h679) .nil) ?_
            exact ⟨_, rfl, h⟩
          · refine Wc.r2 [{}, {}, {}, { re := some (.bool false) }] ⟨[tP 0 1000000, tP 4 4, tP 5 5, tB 40 false], [bC 4 (GTerm.q uf.2), bC 5 (GTerm.q u6.2), (1000000, .cells [.raw hv0, aI (wr.i64 (ud.gPairs + 1))] [(0, .ex 41 false (List.map GTerm.c u6.1))])], []⟩ (.cons (congrArg AV.bool h679) .nil) ?_
            exact ⟨_, rfl, h⟩
        · rintro st ⟨uba, rfl, h⟩
          rcases oif h with ⟨h660, h⟩ | ⟨h660, h⟩
          · refine Wc.cT h660 ?_
            apply Wc.seq
            apply Wc.seq
            refine Wc.r0 ⟨[tP 0 1000000, tP 4 4, tP 5 5, tB 45 (uf.2.gNum == u6.2.gNum)], [bC 4 (GTerm.q uf.2), bC 5 (GTerm.q u6.2), (1000000, .cells [.raw hv0, aI (wr.i64 (ud.gPairs + 1))] [(0, .ex 41 false (List.map GTerm.c u6.1))])], []⟩ ?_
            rcases oif h with ⟨h661, h⟩ | ⟨h661, h⟩
            · refine Wc.cT h661 ?_
              apply Wc.seq
              refine Wc.r0 ⟨[tB 6 true], [(1000000, .cells [.raw hv0, aI (wr.i64 (ud.gPairs + 1))] [(0, .ex 41 false (List.map GTerm.c u6.1))])], []⟩ ?_
              obtain rfl := Option.some.inj h; exact Wc.ret dn
            · refine Wc.cF h661 ?_
              refine Wc.fx [] ⟨[tP 0 1000000, tP 4 4, tP 5 5], [bC 4 (GTerm.q uf.2), bC 5 (GTerm.q u6.2), (1000000, .cells [.raw hv0, aI (wr.i64 (ud.gPairs + 1))] [(0, .ex 41 false (List.map GTerm.c u6.1))])], []⟩ ?_
              refine Wc.skip ?_
              apply Wc.seq
              apply Wc.seq
              refine Wc.r0 ⟨[tP 0 1000000, tP 4 4, tP 5 5, tB 50 (decide (uf.2.gNum > u6.2.gNum))], [bC 4 (GTerm.q uf.2), bC 5 (GTerm.q u6.2), (1000000, .cells [.raw hv0, aI (wr.i64 (ud.gPairs + 1))] [(0, .ex 41 false (List.map GTerm.c u6.1))])], []⟩ ?_
              rcases oif h with ⟨h662, h⟩ | ⟨h662, h⟩
              · refine Wc.cT h662 ?_
                apply Wc.seq
                obtain ⟨u4u, h663, h⟩ := obind h
                refine Wc.r2 [{}, {}, {}, {}, { r := some (.v (.bool u4u.2) []), outs := [(0, .p [.raw hv0, aI u4u.1.gPairs] (GL04Fill.h0_41f u4u.1.gList))] }] ⟨[tB 6 u4u.2], [(1000000, .cells [.raw hv0, aI u4u.1.gPairs] (GL04Fill.h0_41f u4u.1.gList))], []⟩ (.cons (cspec_l04Uni_link (hv0 := hv0) h663) .nil) ?_
                obtain rfl := Option.some.inj h; exact Wc.ret dn
              · refine Wc.cF h662 ?_
                refine Wc.fx [] ⟨[tP 0 1000000, tP 4 4, tP 5 5], [bC 4 (GTerm.q uf.2), bC 5 (GTerm.q u6.2), (1000000, .cells [.raw hv0, aI (wr.i64 (ud.gPairs + 1))] [(0, .ex 41 false (List.map GTerm.c u6.1))])], []⟩ ?_
                refine Wc.skip ?_
                apply Wc.seq
                obtain ⟨u4v, h664, h⟩ := obind h
                refine Wc.r2 [{}, {}, {}, {}, { r := some (.v (.bool u4v.2) []), outs := [(0, .p [.raw hv0, aI u4v.1.gPairs] (GL04Fill.h0_41f u4v.1.gList))] }] ⟨[tB 6 u4v.2], [(1000000, .cells [.raw hv0, aI u4v.1.gPairs] (GL04Fill.h0_41f u4v.1.gList))], []⟩ (.cons (cspec_l04Uni_link (hv0 := hv0) h664) .nil) ?_
                obtain rfl := Option.some.inj h; exact Wc.ret dn
          · refine Wc.cF h660 ?_
            refine Wc.fx [] ⟨[tP 0 1000000, tP 4 4, tP 5 5], [bC 4 (GTerm.q uf.2), bC 5 (GTerm.q u6.2), (1000000, .cells [.raw hv0, aI (wr.i64 (ud.gPairs + 1))] [(0, .ex 41 false (List.map GTerm.c u6.1))])], []⟩ ?_
            refine Wc.skip ?_
            apply Wc.seq
            apply Wc.seq
            refine Wc.r0 ⟨[tP 0 1000000, tP 4 4, tP 5 5, tB 63 (uf.2.gKind == 1)], [bC 4 (GTerm.q uf.2), bC 5 (GTerm.q u6.2), (1000000, .cells [.raw hv0, aI (wr.i64 (ud.gPairs + 1))] [(0, .ex 41 false (List.map GTerm.c u6.1))])], []⟩ ?_
            rcases oif h with ⟨h665, h⟩ | ⟨h665, h⟩
            · refine Wc.cT h665 ?_
              apply Wc.seq
              obtain ⟨u4w, h666, h⟩ := obind h
              refine Wc.r2 [{}, {}, {}, {}, { r := some (.v (.bool u4w.2) []), outs := [(0, .p [.raw hv0, aI u4w.1.gPairs] (GL04Fill.h0_41f u4w.1.gList))] }] ⟨[tB 6 u4w.2], [(1000000, .cells [.raw hv0, aI u4w.1.gPairs] (GL04Fill.h0_41f u4w.1.gList))], []⟩ (.cons (cspec_l04Uni_bind (hv0 := hv0) h666) .nil) ?_
              obtain rfl := Option.some.inj h; exact Wc.ret dn
            · refine Wc.cF h665 ?_
              refine Wc.fx [] ⟨[tP 0 1000000, tP 4 4, tP 5 5], [bC 4 (GTerm.q uf.2), bC 5 (GTerm.q u6.2), (1000000, .cells [.raw hv0, aI (wr.i64 (ud.gPairs + 1))] [(0, .ex 41 false (List.map GTerm.c u6.1))])], []⟩ ?_
              refine Wc.skip ?_
              apply Wc.seq
              apply Wc.seq
              refine Wc.r0 ⟨[tP 0 1000000, tP 4 4, tP 5 5, tB 71 (u6.2.gKind == 1)], [bC 4 (GTerm.q uf.2), bC 5 (GTerm.q u6.2), (1000000, .cells [.raw hv0, aI (wr.i64 (ud.gPairs + 1))] [(0, .ex 41 false (List.map GTerm.c u6.1))])], []⟩ ?_
              rcases oif h with ⟨h667, h⟩ | ⟨h667, h⟩
              · refine Wc.cT h667 ?_
                apply Wc.seq
                obtain ⟨u4x, h668, h⟩ := obind h
                refine Wc.r2 [{}, {}, {}, {}, { r := some (.v (.bool u4x.2) []), outs := [(0, .p [.raw hv0, aI u4x.1.gPairs] (GL04Fill.h0_41f u4x.1.gList))] }] ⟨[tB 6 u4x.2], [(1000000, .cells [.raw hv0, aI u4x.1.gPairs] (GL04Fill.h0_41f u4x.1.gList))], []⟩ (.cons (cspec_l04Uni_bind (hv0 := hv0) h668) .nil) ?_
                obtain rfl := Option.some.inj h; exact Wc.ret dn
              · refine Wc.cF h667 ?_
                refine Wc.fx [] ⟨[tP 0 1000000, tP 4 4, tP 5 5], [bC 4 (GTerm.q uf.2), bC 5 (GTerm.q u6.2), (1000000, .cells [.raw hv0, aI (wr.i64 (ud.gPairs + 1))] [(0, .ex 41 false (List.map GTerm.c u6.1))])], []⟩ ?_
                refine Wc.skip ?_
                apply Wc.seq
                apply Wc.seq
                rcases oif h with ⟨h669, h⟩ | ⟨h669, h⟩
                · refine Wc.r2 [{}, {}, {}, {}, {}, { re := some (.bool true) }] ⟨[tP 0 1000000, tP 4 4, tP 5 5, tB 104 true], [bC 4 (GTerm.q uf.2), bC 5 (GTerm.q u6.2), (1000000, .cells [.raw hv0, aI (wr.i64 (ud.gPairs + 1))] [(0, .ex 41 false (List.map GTerm.c u6.1))])], []⟩ (.cons (congrArg AV.bool h669) .nil) ?_
                  refine Wc.cT rfl ?_
                  apply Wc.seq
                  refine Wc.r0 ⟨[tB 6 false], [(1000000, .cells [.raw hv0, aI (wr.i64 (ud.gPairs + 1))] [(0, .ex 41 false (List.map GTerm.c u6.1))])], []⟩ ?_
                  obtain rfl := Option.some.inj h; exact Wc.ret dn
                · rcases oif h with ⟨h670, h⟩ | ⟨h670, h⟩
                  · refine Wc.r2 [{}, {}, {}, {}, {}, { re := some (.bool false) }, {}, {}, {}, {}, {}, {}, { re := some (.bool true) }] ⟨[tP 0 1000000, tP 4 4, tP 5 5, tB 104 true], [bC 4 (GTerm.q uf.2), bC 5 (GTerm.q u6.2), (1000000, .cells [.raw hv0, aI (wr.i64 (ud.gPairs + 1))] [(0, .ex 41 false (List.map GTerm.c u6.1))])], []⟩ (.cons (congrArg AV.bool h669) (.cons (congrArg AV.bool h670) .nil)) ?_
                    refine Wc.cT rfl ?_
                    apply Wc.seq
                    refine Wc.r0 ⟨[tB 6 false], [(1000000, .cells [.raw hv0, aI (wr.i64 (ud.gPairs + 1))] [(0, .ex 41 false (List.map GTerm.c u6.1))])], []⟩ ?_
                    obtain rfl := Option.some.inj h; exact Wc.ret dn
                  · rcases oif h with ⟨h671, h⟩ | ⟨h671, h⟩
                    · refine Wc.r2 [{}, {}, {}, {}, {}, { re := some (.bool false) }, {}, {}, {}, {}, {}, {}, { re := some (.bool false) }, {}, {}, {}, {}, {}, {}, { re := some (.bool true) }] ⟨[tP 0 1000000, tP 4 4, tP 5 5, tB 104 true], [bC 4 (GTerm.q uf.2), bC 5 (GTerm.q u6.2), (1000000, .cells [.raw hv0, aI (wr.i64 (ud.gPairs + 1))] [(0, .ex 41 false (List.map GTerm.c u6.1))])], []⟩ (.cons (congrArg AV.bool h669) (.cons (congrArg AV.bool h670) (.cons (congrArg AV.bool h671) .nil))) ?_
                      refine Wc.cT rfl ?_
                      apply Wc.seq
                      refine Wc.r0 ⟨[tB 6 false], [(1000000, .cells [.raw hv0, aI (wr.i64 (ud.gPairs + 1))] [(0, .ex 41 false (List.map GTerm.c u6.1))])], []⟩ ?_
                      obtain rfl := Option.some.inj h; exact Wc.ret dn
                    · refine Wc.r2 [{}, {}, {}, {}, {}, { re := some (.bool false) }, {}, {}, {}, {}, {}, {}, { re := some (.bool false) }, {}, {}, {}, {}, {}, {}, { re := some (.bool false) }, {}, {}, { v := some (aI (uf.2.gKids.length : Int)) }, {}, {}, { v := some (aI (u6.2.gKids.length : Int)) }] ⟨[tP 0 1000000, tP 4 4, tP 5 5, tB 104 ((uf.2.gKids.length : Int) != (u6.2.gKids.length : Int))], [bC 4 (GTerm.q uf.2), bC 5 (GTerm.q u6.2), (1000000, .cells [.raw hv0, aI (wr.i64 (ud.gPairs + 1))] [(0, .ex 41 false (List.map GTerm.c u6.1))])], []⟩ (.cons (congrArg AV.bool h669) (.cons (congrArg AV.bool h670) (.cons (congrArg AV.bool h671) (.cons (len_obl GTerm.c uf.2.gKids) (.cons (len_obl GTerm.c u6.2.gKids) .nil))))) ?_
                      rcases oif h with ⟨h672, h⟩ | ⟨h672, h⟩
                      · refine Wc.cT h672 ?_
                        apply Wc.seq
                        refine Wc.r0 ⟨[tB 6 false], [(1000000, .cells [.raw hv0, aI (wr.i64 (ud.gPairs + 1))] [(0, .ex 41 false (List.map GTerm.c u6.1))])], []⟩ ?_
                        obtain rfl := Option.some.inj h; exact Wc.ret dn
                      · refine Wc.cF h672 ?_
                        refine Wc.fx [] ⟨[tP 0 1000000, tP 4 4, tP 5 5], [bC 4 (GTerm.q uf.2), bC 5 (GTerm.q u6.2), (1000000, .cells [.raw hv0, aI (wr.i64 (ud.gPairs + 1))] [(0, .ex 41 false (List.map GTerm.c u6.1))])], []⟩ ?_
                        refine Wc.skip ?_
                        apply Wc.seq
                        apply Wc.seq
                        refine Wc.r0 ⟨[tP 0 1000000, tP 4 4, tP 5 5, tI 7 0], [bC 4 (GTerm.q uf.2), bC 5 (GTerm.q u6.2), (1000000, .cells [.raw hv0, aI (wr.i64 (ud.gPairs + 1))] [(0, .ex 41 false (List.map GTerm.c u6.1))])], []⟩ ?_
                        obtain ⟨out2, h673, h⟩ := obind h
                        refine Wc.lastJ (fun st => ∃ (u5k : GL04Uni), out2 = .done u5k ∧ st = ⟨[], [(1000000, .cells [.raw hv0, aI u5k.gPairs] (GL04Fill.h0_41f u5k.gList))], []⟩) ?_ ?_
                        · refine Wc.block ?_
                          refine Wc.loop (fun m st => ∃ (u2m : Int) (u2y : GL04Uni), st = ⟨[tP 0 1000000, tP 4 4, tP 5 5, tI 7 u2m], [bC 4 (GTerm.q uf.2), bC 5 (GTerm.q u6.2), (1000000, .cells [.raw hv0, aI u2y.gPairs] (GL04Fill.h0_41f u2y.gList))], []⟩ ∧ pspec_l04Uni_same_L2 k (pspec_l04Uni_same k) uf u6 m u2m u2y = some out2) ?_ k ⟨_, _, rfl, h673⟩
                          rintro m st ⟨u2m, u2y, rfl, h673⟩
                          cases m with
                          | zero => exact (onone h673).elim
                          | succ m =>
                            apply Wc.seq
                            apply Wc.seq
                            refine Wc.r2 [{}, {}, {}, { v := some (aI (uf.2.gKids.length : Int)) }] ⟨[tP 0 1000000, tP 4 4, tP 5 5, tI 7 u2m, tB 109 (decide (u2m < (uf.2.gKids.length : Int)))], [bC 4 (GTerm.q uf.2), bC 5 (GTerm.q u6.2), (1000000, .cells [.raw hv0, aI u2y.gPairs] (GL04Fill.h0_41f u2y.gList))], []⟩ (.cons (len_obl GTerm.c uf.2.gKids) .nil) ?_
                            rcases oif h673 with ⟨h674, h673⟩ | ⟨h674, h673⟩
                            · refine Wc.cT h674 ?_
                              refine Wc.fx [] ⟨[tP 0 1000000, tP 4 4, tP 5 5, tI 7 u2m], [bC 4 (GTerm.q uf.2), bC 5 (GTerm.q u6.2), (1000000, .cells [.raw hv0, aI u2y.gPairs] (GL04Fill.h0_41f u2y.gList))], []⟩ ?_
                              refine Wc.skip ?_
                              apply Wc.seq
                              refine Wc.block ?_
                              apply Wc.seq
                              obtain ⟨vf, h675, h673⟩ := obind h673
                              obtain ⟨ub9, h676, h673⟩ := obind h673
                              obtain ⟨u1t, h677, h673⟩ := obind h673
                              refine Wc.draw hmix [{}, {}, {}, {}, { v := some (.vptr (GTerm.q vf)) }, {}, {}, {}, {}, { v := some (.vptr (GTerm.q ub9)) }, {}, { r := some (.v (.bool u1t.2) []), outs := [(0, .p [.raw hv0, aI u1t.1.gPairs] (GL04Fill.h0_41f u1t.1.gList))] }] [] [0, 4, 5, 7, 124] [4, 5, 1000000] [] ⟨[tP 0 1000000, tP 4 4, tP 5 5, tI 7 u2m, tB 124 (!u1t.2)], [bC 4 (GTerm.q uf.2), bC 5 (GTerm.q u6.2), (1000000, .cells [.raw hv0, aI u1t.1.gPairs] (GL04Fill.h0_41f u1t.1.gList))], []⟩ _ (by kernel_rfl) (fun X => by kernel_rfl) (.cons (at_obl (c := GTerm.c) (GTerm.c_eq vf) GTerm.c_len h675) (.cons (len_ok 4 (GTerm.q vf)) (.cons (at_obl (c := GTerm.c) (GTerm.c_eq ub9) GTerm.c_len h676) (.cons (len_ok 4 (GTerm.q ub9)) (.cons (ih_pspec_l04Uni_same (hv0 := hv0) h677) .nil))))) ?_
                              rcases oif h673 with ⟨h678, h673⟩ | ⟨h678, h673⟩
                              · refine Wc.cT h678 ?_
                                apply Wc.seq
                                refine Wc.r0 ⟨[tB 6 false], [(1000000, .cells [.raw hv0, aI u1t.1.gPairs] (GL04Fill.h0_41f u1t.1.gList))], []⟩ ?_
                                refine Wc.ret ?_
                                obtain rfl := Option.some.inj h673
                                obtain rfl := Option.some.inj h
                                exact ⟨.inl rfl, by kernel_rfl, by kernel_rfl⟩
                              · refine Wc.cF h678 ?_
                                refine Wc.fx [] ⟨[tP 0 1000000, tP 4 4, tP 5 5, tI 7 u2m], [bC 4 (GTerm.q uf.2), bC 5 (GTerm.q u6.2), (1000000, .cells [.raw hv0, aI u1t.1.gPairs] (GL04Fill.h0_41f u1t.1.gList))], []⟩ ?_
                                refine Wc.skip ?_
                                refine Wc.r0 ⟨[tP 0 1000000, tP 4 4, tP 5 5, tI 7 (wr.i64 (u2m + 1))], [bC 4 (GTerm.q uf.2), bC 5 (GTerm.q u6.2), (1000000, .cells [.raw hv0, aI u1t.1.gPairs] (GL04Fill.h0_41f u1t.1.gList))], []⟩ ?_
                                exact ⟨_, Nat.lt_succ_self _, _, _, rfl, h673⟩
                            · refine Wc.cF h674 ?_
                              refine Wc.fx [] ⟨[], [(1000000, .cells [.raw hv0, aI u2y.gPairs] (GL04Fill.h0_41f u2y.gList))], []⟩ ?_
                              refine Wc.exit ?_
                              obtain rfl := Option.some.inj h673
                              exact ⟨_, rfl, rfl⟩
                        · rintro st ⟨u5k, rfl, rfl⟩
                          apply Wc.seq
                          refine Wc.r0 ⟨[tB 6 true], [(1000000, .cells [.raw hv0, aI u5k.gPairs] (GL04Fill.h0_41f u5k.gList))], []⟩ ?_
                          obtain rfl := Option.some.inj h; exact Wc.ret dn
theorem cspec_l04Uni_same {k : Nat} {hv0 : Value} {ud : GL04Uni} {u2z : GTerm} {u2n : GTerm} {r : GL04Uni × Bool} (h : pspec_l04Uni_same k ud u2z u2n = some r) : FnO Try.prog 160 [.p [.raw hv0, aI ud.gPairs] (GL04Fill.h0_41f ud.gList), .v (.agg (GTerm.q u2z)) [], .v (.agg (GTerm.q u2n)) []] (.v (.bool r.2) []) [(0, .p [.raw hv0, aI r.1.gPairs] (GL04Fill.h0_41f r.1.gList))] := (all_pspec_l04Uni_same k) h

def pspec_l04Unify (k : Nat) (l : List GTerm) (x y : GTerm) : Option (List GTerm × Bool) :=
  (pspec_l04Uni_same k (GL04Uni.mk l 0) x y).bind fun r => some (r.1.gList, r.2)
theorem cspec_l04Unify {k : Nat} {l : List GTerm} {x y : GTerm} {r : List GTerm × Bool} (h : pspec_l04Unify k l x y = some r) : FnO Try.prog 154 [.io .slx [(0, .ex 41 false (List.map GTerm.c l))], .v (.agg (GTerm.q x)) [], .v (.agg (GTerm.q y)) []] (.v (.bool r.2) []) [(0, .v .undef [(0, .ex 41 false (List.map GTerm.c r.1))])] := by
  obtain ⟨q, hq, h⟩ := obind h
  obtain rfl := Option.some.inj h
  exact unify_O uni_road rfl rfl rfl rfl (pz := q.1.gPairs) (fun hv => cspec_l04Uni_same (hv0 := hv) hq)

def pspec_l04UnifyRaw_J1 (k : Nat) (vk : GBinds) (ubb : Bool) (u5l : GBinds) : Option (GBinds × Bool) :=
  if ubb = true then
    if ([] : List GTerm).length + vk.gList.length ≤ 1073741824 then
      some (vk, false)
    else none
  else
    some (u5l, true)
def pspec_l04UnifyRaw (k : Nat) (vk : GBinds) (u6f : GTerm) (u6g : GTerm) : Option (GBinds × Bool) :=
  if ([] : List GTerm).length + vk.gList.length ≤ 1073741824 then
    (pspec_TermOk k u6f).bind fun ubc =>
    if (!ubc) = true then
      pspec_l04UnifyRaw_J1 k vk true vk
    else
      (pspec_TermOk k u6g).bind fun udp =>
      if (!udp) = true then
        pspec_l04UnifyRaw_J1 k vk true vk
      else
        (pspec_l04Unify k vk.gList u6f u6g).bind fun u6h =>
        pspec_l04UnifyRaw_J1 k vk (!u6h.2) (GBinds.mk u6h.1)
  else none
theorem cspec_l04UnifyRaw {k : Nat} {vk : GBinds} {u6f : GTerm} {u6g : GTerm} {r : GBinds × Bool} (h : pspec_l04UnifyRaw k vk u6f u6g = some r) : FnO Try.prog 143 [.v (.agg [.sl (List.map GTerm.c vk.gList)]) [], .v (.agg (GTerm.q u6f)) [], .v (.agg (GTerm.q u6g)) []] (.v (.tup [.agg [.sl (List.map GTerm.c r.1.gList)], .bool r.2]) []) [] := by
  refine FnO.o2 Try.func143 (rfl : Try.f143.body = some _) ?_
  intro w0 X0 Fin pv0 pb gt
  unfold pspec_l04UnifyRaw at h
  apply Wc.seq
  refine Wc.r0 ⟨[tP 3 3, tP 4 4, tP 5 5, tP 6 6], [bC 3 [.sl (List.map GTerm.c vk.gList)], bC 4 (GTerm.q u6f), bC 5 (GTerm.q u6g), (6, .cells GBinds.z [(0, .app 41)])], []⟩ ?_
  apply Wc.seq
  obtain ⟨h688, h⟩ := oguard h
  refine Wc.r2 [{ c := some (List.map GTerm.c []), md := 1 }, {}, {}, { c := some (List.map GTerm.c vk.gList), tk := [9], md := 1 }, { tk := [12] }, {}, { tk := [13] }] ⟨[tP 3 3, tP 4 4, tP 5 5, tP 6 6, tP 8 8], [bC 3 [.sl (List.map GTerm.c vk.gList)], bC 4 (GTerm.q u6f), bC 5 (GTerm.q u6g), (6, .cells GBinds.z [(0, .app 41)]), (8, .cells [.slx] (GL04Fill.h0_41f vk.gList))], []⟩ (.cons (cl_nil GTerm.c) (.cons (app_re0 GTerm.c vk.gList) (.cons (app_leaf (c := GTerm.c) (ys := vk.gList) GTerm.c_leaf) (.cons (app_obl2 (c := GTerm.c) (xs := []) (ys := vk.gList) GTerm.c_len h688) .nil)))) ?_
  apply Wc.seq
  refine Wc.seqJ (fun st => ∃ (ubb : Bool) (u5l : GBinds), st = ⟨[tP 3 3, tP 6 6, tP 8 8, tB 29 ubb], [bC 3 [.sl (List.map GTerm.c vk.gList)], (6, .cells GBinds.z [(0, .app 41)]), (8, .cells [.slx] (GL04Fill.h0_41f u5l.gList))], []⟩ ∧ pspec_l04UnifyRaw_J1 k vk ubb u5l = some r) ?_ ?_
  · obtain ⟨ubc, h691, h⟩ := obind h
    rcases oif h with ⟨h692, h⟩ | ⟨h692, h⟩
    · refine Wc.r2 [{}, { r := some (.v (.bool ubc) []) }, {}, { re := some (.bool true) }] ⟨[tP 3 3, tP 6 6, tP 8 8, tB 29 true], [bC 3 [.sl (List.map GTerm.c vk.gList)], (6, .cells GBinds.z [(0, .app 41)]), (8, .cells [.slx] (GL04Fill.h0_41f vk.gList))], []⟩ (.cons (cspec_TermOk h691) (.cons (congrArg AV.bool h692) .nil)) ?_
      exact ⟨_, _, rfl, h⟩
    · obtain ⟨udp, h693, h⟩ := obind h
      rcases oif h with ⟨h694, h⟩ | ⟨h694, h⟩
      · refine Wc.r2 [{}, { r := some (.v (.bool ubc) []) }, {}, { re := some (.bool false) }, {}, { r := some (.v (.bool udp) []) }, {}, {}, { re := some (.bool true) }] ⟨[tP 3 3, tP 6 6, tP 8 8, tB 29 true], [bC 3 [.sl (List.map GTerm.c vk.gList)], (6, .cells GBinds.z [(0, .app 41)]), (8, .cells [.slx] (GL04Fill.h0_41f vk.gList))], []⟩ (.cons (cspec_TermOk h691) (.cons (congrArg AV.bool h692) (.cons (cspec_TermOk h693) (.cons (congrArg AV.bool h694) .nil)))) ?_
        exact ⟨_, _, rfl, h⟩
      · obtain ⟨u6h, h695, h⟩ := obind h
        refine Wc.r2 [{}, { r := some (.v (.bool ubc) []) }, {}, { re := some (.bool false) }, {}, { r := some (.v (.bool udp) []) }, {}, {}, { re := some (.bool false) }, {}, {}, {}, {}, { io := [0], r := some (.v (.bool u6h.2) []), outs := [(0, .v .undef [(0, .ex 41 false (List.map GTerm.c u6h.1))])] }] ⟨[tP 3 3, tP 6 6, tP 8 8, tB 29 (!u6h.2)], [bC 3 [.sl (List.map GTerm.c vk.gList)], (6, .cells GBinds.z [(0, .app 41)]), (8, .cells [.slx] [(0, .ex 41 false (List.map GTerm.c u6h.1))])], []⟩ (.cons (cspec_TermOk h691) (.cons (congrArg AV.bool h692) (.cons (cspec_TermOk h693) (.cons (congrArg AV.bool h694) (.cons (cspec_l04Unify h695) .nil))))) ?_
        exact ⟨_, _, rfl, h⟩
  · rintro st ⟨ubb, u5l, rfl, h⟩
    rcases oif h with ⟨h689, h⟩ | ⟨h689, h⟩
    · refine Wc.cT h689 ?_
      apply Wc.seq
      obtain ⟨h690, h⟩ := oguard h
      refine Wc.r2 [{ c := some (List.map GTerm.c []) }, {}, {}, { c := some (List.map GTerm.c vk.gList), tk := [30] }, { tk := [33] }, { tk := [34] }] ⟨[tP 6 6, tB 7 false], [(6, .cells [.sl (List.map GTerm.c vk.gList)] [(0, .app 41)])], []⟩ (.cons (cl_nil GTerm.c) (.cons (app_re0 GTerm.c vk.gList) (.cons (app_leaf (c := GTerm.c) (ys := vk.gList) GTerm.c_leaf) (.cons (app_obl2 (c := GTerm.c) (xs := []) (ys := vk.gList) GTerm.c_len h690) .nil)))) ?_
      refine Wc.fx [.un (.b 6 0)] ⟨[tP 6 6, tB 7 false], [bC 6 [.sl (List.map GTerm.c vk.gList)]], []⟩ ?_
      obtain rfl := Option.some.inj h; exact Wc.ret dn
    · refine Wc.cF h689 ?_
      refine Wc.fx [] ⟨[tP 6 6, tP 8 8], [(6, .cells GBinds.z [(0, .app 41)]), (8, .cells [.slx] (GL04Fill.h0_41f u5l.gList))], []⟩ ?_
      refine Wc.skip ?_
      apply Wc.seq
      refine Wc.r1 [{ md := 1 }, { tk := [35] }] ⟨[tP 6 6, tB 7 true], [(6, .cells [.slx] (GL04Fill.h0_41f u5l.gList))], []⟩ ?_
      refine Wc.fx [.sh (.b 6 0)] ⟨[tP 6 6, tB 7 true], [bC 6 [.sl (List.map GTerm.c u5l.gList)]], []⟩ ?_
      obtain rfl := Option.some.inj h; exact Wc.ret dn

def pspec_l34Terms_L1 (k : Nat) (rspec_l34Term : GTerm → Option GTerm) (rspec_l34Terms : (List GTerm) → Option (List GTerm)) (zo : List GTerm) : Nat → (List GTerm) → Int → Option (Out (List GTerm) (List GTerm))
  | 0, _, _ => none
  | m + 1, u26, u3i =>
    if (decide (u3i < (zo.length : Int))) = true then
      (at' zo u3i).bind fun ubd =>
      (rspec_l34Term ubd).bind fun u30 =>
      if u26.length + [u30].length ≤ 1073741824 then
        pspec_l34Terms_L1 k rspec_l34Term rspec_l34Terms zo m (u26 ++ [u30]) (wr.i64 (u3i + 1))
      else none
    else
      some (.done u26)
mutual
def pspec_l34Term : Nat → GTerm → Option GTerm
  | 0, _ => none
  | k + 1, u0t =>
    (pspec_l34Terms k u0t.gKids).bind fun ube =>
    some (GTerm.mk u0t.gKind u0t.gName u0t.gNum ube)
def pspec_l34Terms : Nat → (List GTerm) → Option (List GTerm)
  | 0, _ => none
  | k + 1, zo =>
    (pspec_l34Terms_L1 k (pspec_l34Term k) (pspec_l34Terms k) zo k [] 0).bind fun out1 => match out1 with
    | .ret r => some r
    | .done u8h =>
      some u8h
end
theorem all_pspec_l34Term : ∀ k : Nat, (∀ {u0t : GTerm} {r : GTerm}, pspec_l34Term k u0t = some r → FnO Try.prog 68 [.v (.agg (GTerm.q u0t)) []] (.v (.agg (GTerm.q r)) [(3, .app 41)]) []) ∧
    (∀ {zo : List GTerm} {r : (List GTerm)}, pspec_l34Terms k zo = some r → FnO Try.prog 105 [.v (.sl (List.map GTerm.c zo)) []] (.v (.sl (List.map GTerm.c r)) [(0, .app 41)]) []) := by
  intro k
  induction k with
  | zero =>
    refine ⟨?_, ?_⟩
    · intro u0t r h
      exact (onone (by rw [pspec_l34Term] at h; exact h)).elim
    · intro zo r h
      exact (onone (by rw [pspec_l34Terms] at h; exact h)).elim
  | succ k ih =>
    obtain ⟨ih_pspec_l34Term, ih_pspec_l34Terms⟩ := ih
    refine ⟨?_, ?_⟩
    · intro u0t r h
      rw [pspec_l34Term] at h
      refine FnO.o2 Try.func68 (rfl : Try.f68.body = some _) ?_
      intro w0 X0 Fin pv0 pb gt
      apply Wc.seq
      refine Wc.r0 ⟨[tP 1 1, tP 2 2], [bC 1 (GTerm.q u0t), (2, .cells GTerm.z [(3, .app 41)])], []⟩ ?_
      apply Wc.seq
      obtain ⟨ube, h708, h⟩ := obind h
      refine Wc.r2 [{}, {}, { r := some (.v (.sl (List.map GTerm.c ube)) [(0, .app 41)]) }, {}, { tk := [5] }] ⟨[tP 1 1, tP 2 2], [(1, .cells [aI u0t.gKind, .str u0t.gName, aI u0t.gNum, .sl (List.map GTerm.c ube)] [(3, .app 41)]), (2, .cells GTerm.z [(3, .app 41)])], []⟩ (.cons (ih_pspec_l34Terms h708) .nil) ?_
      apply Wc.seq
      refine Wc.r1 [{ md := 1 }, { tk := [7] }] ⟨[tP 2 2], [(2, .cells [aI u0t.gKind, .str u0t.gName, aI u0t.gNum, .sl (List.map GTerm.c ube)] [(3, .app 41)])], []⟩ ?_
      obtain rfl := Option.some.inj h; exact Wc.ret dn
    · intro zo r h
      rw [pspec_l34Terms] at h
      refine FnO.o2 Try.func105 (rfl : Try.f105.body = some _) ?_
      intro w0 X0 Fin pv0 pb gt
      apply Wc.seq
      refine Wc.r0 ⟨[tV 0 (.sl (List.map GTerm.c zo))], [], []⟩ ?_
      apply Wc.seq
      refine Wc.r2 [{ c := some (List.map GTerm.c []) }, { tk := [5] }] ⟨[tV 0 (.sl (List.map GTerm.c zo)), (3, (.v (.sl (List.map GTerm.c [])), [(0, .app 41)]))], [], []⟩ (.cons (cl_nil GTerm.c) .nil) ?_
      apply Wc.seq
      apply Wc.seq
      refine Wc.r0 ⟨[tV 0 (.sl (List.map GTerm.c zo)), (3, (.v (.sl (List.map GTerm.c [])), [(0, .app 41)])), tI 4 0], [], []⟩ ?_
      obtain ⟨out1, h709, h⟩ := obind h
      refine Wc.lastJ (fun st => ∃ (u8h : List GTerm), out1 = .done u8h ∧ st = ⟨[(3, (.v (.sl (List.map GTerm.c u8h)), [(0, .app 41)]))], [], []⟩) ?_ ?_
      · refine Wc.block ?_
        refine Wc.loop (fun m st => ∃ (u26 : List GTerm) (u3i : Int), st = ⟨[tV 0 (.sl (List.map GTerm.c zo)), (3, (.v (.sl (List.map GTerm.c u26)), [(0, .app 41)])), tI 4 u3i], [], []⟩ ∧ pspec_l34Terms_L1 k (pspec_l34Term k) (pspec_l34Terms k) zo m u26 u3i = some out1) ?_ k ⟨_, _, rfl, h709⟩
        rintro m st ⟨u26, u3i, rfl, h709⟩
        cases m with
        | zero => exact (onone h709).elim
        | succ m =>
          apply Wc.seq
          apply Wc.seq
          refine Wc.r2 [{}, {}, { v := some (aI (zo.length : Int)) }] ⟨[tV 0 (.sl (List.map GTerm.c zo)), (3, (.v (.sl (List.map GTerm.c u26)), [(0, .app 41)])), tI 4 u3i, tB 9 (decide (u3i < (zo.length : Int)))], [], []⟩ (.cons (len_obl GTerm.c zo) .nil) ?_
          rcases oif h709 with ⟨h710, h709⟩ | ⟨h710, h709⟩
          · refine Wc.cT h710 ?_
            refine Wc.fx [] ⟨[tV 0 (.sl (List.map GTerm.c zo)), (3, (.v (.sl (List.map GTerm.c u26)), [(0, .app 41)])), tI 4 u3i], [], []⟩ ?_
            refine Wc.skip ?_
            apply Wc.seq
            refine Wc.block ?_
            obtain ⟨ubd, h711, h709⟩ := obind h709
            obtain ⟨u30, h712, h709⟩ := obind h709
            obtain ⟨h713, h709⟩ := oguard h709
            refine Wc.r2 [{ tk := [3] }, {}, {}, { v := some (.vptr (GTerm.q ubd)) }, {}, { r := some (.v (.agg (GTerm.q u30)) [(3, .app 41)]) }, { c := some (List.map GTerm.c [u30]) }, { c := some (List.map GTerm.c (u26 ++ [u30])), tk := [12] }, { tk := [19] }] ⟨[tV 0 (.sl (List.map GTerm.c zo)), (3, (.v (.sl (List.map GTerm.c (u26 ++ [u30]))), [(0, .app 41)])), tI 4 u3i], [], []⟩ (.cons (at_obl (c := GTerm.c) (GTerm.c_eq ubd) GTerm.c_len h711) (.cons (len_ok 4 (GTerm.q ubd)) (.cons (ih_pspec_l34Term h712) (.cons (cl_cons (c := GTerm.c) (x := u30) (GTerm.c_eq u30) (cl_nil GTerm.c)) (.cons (app_re2 GTerm.c u26 [u30]) (.cons (app_leaf (c := GTerm.c) (ys := [u30]) GTerm.c_leaf) (.cons (app_obl2 (c := GTerm.c) (xs := u26) (ys := [u30]) GTerm.c_len h713) .nil))))))) ?_
            refine Wc.r0 ⟨[tV 0 (.sl (List.map GTerm.c zo)), (3, (.v (.sl (List.map GTerm.c (u26 ++ [u30]))), [(0, .app 41)])), tI 4 (wr.i64 (u3i + 1))], [], []⟩ ?_
            exact ⟨_, Nat.lt_succ_self _, _, _, rfl, h709⟩
          · refine Wc.cF h710 ?_
            refine Wc.fx [] ⟨[(3, (.v (.sl (List.map GTerm.c u26)), [(0, .app 41)]))], [], []⟩ ?_
            refine Wc.exit ?_
            obtain rfl := Option.some.inj h709
            exact ⟨_, rfl, rfl⟩
      · rintro st ⟨u8h, rfl, rfl⟩
        apply Wc.seq
        refine Wc.r1 [{ tk := [3] }, { tk := [20] }] ⟨[(2, (.v (.sl (List.map GTerm.c u8h)), [(0, .app 41)]))], [], []⟩ ?_
        obtain rfl := Option.some.inj h; exact Wc.ret dn
theorem cspec_l34Term {k : Nat} {u0t : GTerm} {r : GTerm} (h : pspec_l34Term k u0t = some r) : FnO Try.prog 68 [.v (.agg (GTerm.q u0t)) []] (.v (.agg (GTerm.q r)) [(3, .app 41)]) [] := (all_pspec_l34Term k).1 h
theorem cspec_l34Terms {k : Nat} {zo : List GTerm} {r : (List GTerm)} (h : pspec_l34Terms k zo = some r) : FnO Try.prog 105 [.v (.sl (List.map GTerm.c zo)) []] (.v (.sl (List.map GTerm.c r)) [(0, .app 41)]) [] := (all_pspec_l34Term k).2 h

def pspec_l34Binds (k : Nat) (ubf : GBinds) : Option GBinds :=
  (pspec_l34Terms k ubf.gList).bind fun ubg =>
  some (GBinds.mk ubg)
theorem cspec_l34Binds {k : Nat} {ubf : GBinds} {r : GBinds} (h : pspec_l34Binds k ubf = some r) : FnO Try.prog 144 [.v (.agg [.sl (List.map GTerm.c ubf.gList)]) []] (.v (.agg [.sl (List.map GTerm.c r.gList)]) [(0, .app 41)]) [] := by
  refine FnO.o2 Try.func144 (rfl : Try.f144.body = some _) ?_
  intro w0 X0 Fin pv0 pb gt
  unfold pspec_l34Binds at h
  apply Wc.seq
  refine Wc.r0 ⟨[tP 1 1, tP 2 2], [bC 1 [.sl (List.map GTerm.c ubf.gList)], (2, .cells GBinds.z [(0, .app 41)])], []⟩ ?_
  apply Wc.seq
  obtain ⟨ubg, h715, h⟩ := obind h
  refine Wc.r2 [{}, {}, { r := some (.v (.sl (List.map GTerm.c ubg)) [(0, .app 41)]) }, {}, { tk := [5] }] ⟨[tP 1 1, tP 2 2], [(1, .cells [.sl (List.map GTerm.c ubg)] [(0, .app 41)]), (2, .cells GBinds.z [(0, .app 41)])], []⟩ (.cons (cspec_l34Terms h715) .nil) ?_
  apply Wc.seq
  refine Wc.r1 [{ md := 1 }, { tk := [7] }] ⟨[tP 2 2], [(2, .cells [.sl (List.map GTerm.c ubg)] [(0, .app 41)])], []⟩ ?_
  obtain rfl := Option.some.inj h; exact Wc.ret dn

def pspec_Unify (k : Nat) (ubh : GBinds) (ubi : GTerm) (ubj : GTerm) : Option (GBinds × Bool) :=
  (pspec_l04UnifyRaw k ubh ubi ubj).bind fun u5m =>
  (pspec_l34Binds k u5m.1).bind fun udq =>
  some (udq, u5m.2)
theorem cspec_Unify {k : Nat} {ubh : GBinds} {ubi : GTerm} {ubj : GTerm} {r : GBinds × Bool} (h : pspec_Unify k ubh ubi ubj = some r) : FnO Try.prog 125 [.v (.agg [.sl (List.map GTerm.c ubh.gList)]) [], .v (.agg (GTerm.q ubi)) [], .v (.agg (GTerm.q ubj)) []] (.v (.tup [.agg [.sl (List.map GTerm.c r.1.gList)], .bool r.2]) [(0, .app 41)]) [] := by
  refine FnO.o2 Try.func125 (rfl : Try.f125.body = some _) ?_
  intro w0 X0 Fin pv0 pb gt
  unfold pspec_Unify at h
  apply Wc.seq
  refine Wc.r0 ⟨[tP 3 3, tP 4 4, tP 5 5, tP 6 6], [bC 3 [.sl (List.map GTerm.c ubh.gList)], bC 4 (GTerm.q ubi), bC 5 (GTerm.q ubj), (6, .cells GBinds.z [(0, .app 41)])], []⟩ ?_
  apply Wc.seq
  obtain ⟨u5m, h718, h⟩ := obind h
  refine Wc.r2 [{}, {}, {}, { r := some (.v (.tup [.agg [.sl (List.map GTerm.c u5m.1.gList)], .bool u5m.2]) []) }] ⟨[tP 6 6, tP 8 8, tB 9 u5m.2], [(6, .cells GBinds.z [(0, .app 41)]), bC 8 [.sl (List.map GTerm.c u5m.1.gList)]], []⟩ (.cons (cspec_l04UnifyRaw h718) .nil) ?_
  apply Wc.seq
  obtain ⟨udq, h719, h⟩ := obind h
  refine Wc.r2 [{}, { r := some (.v (.agg [.sl (List.map GTerm.c udq.gList)]) [(0, .app 41)]) }, {}, { tk := [18] }] ⟨[tP 6 6, tB 7 u5m.2], [(6, .cells [.sl (List.map GTerm.c udq.gList)] [(0, .app 41)])], []⟩ (.cons (cspec_l34Binds h719) .nil) ?_
  obtain rfl := Option.some.inj h; exact Wc.ret dn

def pspec_l04Binds_L1 (k : Nat) : Nat → Int → GBinds → GL01Cur → Option (Out (GL01Cur × GBinds) (GBinds × GL01Cur))
  | 0, _, _, _ => none
  | m + 1, u3j, u46, ubk =>
    (pspec_l01Below k ubk 4).bind fun u47 =>
    if (decide (u3j < u47.2)) = true then
      (pspec_l03Term k u47.1).bind fun u6i =>
      (pspec_l03Term k u6i.1).bind fun u6j =>
      (pspec_Unify k u46 u6i.2 u6j.2).bind fun u8i =>
      pspec_l04Binds_L1 k m (wr.i64 (u3j + 1)) u8i.1 u6j.1
    else
      some (.done (u46, u47.1))
def pspec_l04Binds (k : Nat) (u6k : GL01Cur) : Option (GL01Cur × GBinds) :=
  (pspec_BindsNew k 4).bind fun ubl =>
  (pspec_l04Binds_L1 k k 0 ubl u6k).bind fun out1 => match out1 with
  | .ret r => some r
  | .done (u8j, u8k) =>
    some (u8k, u8j)
theorem cspec_l04Binds {k : Nat} {u6k : GL01Cur} {r : GL01Cur × GBinds} (h : pspec_l04Binds k u6k = some r) : FnO Try.prog 95 [.p (GL01Cur.q u6k) []] (.v (.agg [.sl (List.map GTerm.c r.2.gList)]) []) [(0, .p (GL01Cur.q r.1) [])] := by
  refine FnO.o2 Try.func95 (rfl : Try.f95.body = some _) ?_
  intro w0 X0 Fin pv0 pb gt
  unfold pspec_l04Binds at h
  apply Wc.seq
  refine Wc.r0 ⟨[tP 0 1000000, tP 2 2], [(2, .cells GBinds.z [(0, .app 41)]), bC 1000000 (GL01Cur.q u6k)], []⟩ ?_
  apply Wc.seq
  obtain ⟨ubl, h720, h⟩ := obind h
  refine Wc.r2 [{ r := some (.v (.agg [.sl (List.map GTerm.c ubl.gList)]) []) }] ⟨[tP 0 1000000, tP 2 2, tP 3 3], [(2, .cells GBinds.z [(0, .app 41)]), bC 3 [.sl (List.map GTerm.c ubl.gList)], bC 1000000 (GL01Cur.q u6k)], []⟩ (.cons (cspec_BindsNew h720) .nil) ?_
  apply Wc.seq
  apply Wc.seq
  refine Wc.r0 ⟨[tP 0 1000000, tP 2 2, tP 3 3, tI 4 0], [(2, .cells GBinds.z [(0, .app 41)]), bC 3 [.sl (List.map GTerm.c ubl.gList)], bC 1000000 (GL01Cur.q u6k)], []⟩ ?_
  obtain ⟨out1, h721, h⟩ := obind h
  refine Wc.lastJ (fun st => ∃ (u8j : GBinds) (u8k : GL01Cur), out1 = .done (u8j, u8k) ∧ st = ⟨[tP 2 2, tP 3 3], [(2, .cells GBinds.z [(0, .app 41)]), bC 3 [.sl (List.map GTerm.c u8j.gList)], bC 1000000 (GL01Cur.q u8k)], []⟩) ?_ ?_
  · refine Wc.block ?_
    refine Wc.loop (fun m st => ∃ (u3j : Int) (u46 : GBinds) (ubk : GL01Cur), st = ⟨[tP 0 1000000, tP 2 2, tP 3 3, tI 4 u3j], [(2, .cells GBinds.z [(0, .app 41)]), bC 3 [.sl (List.map GTerm.c u46.gList)], bC 1000000 (GL01Cur.q ubk)], []⟩ ∧ pspec_l04Binds_L1 k m u3j u46 ubk = some out1) ?_ k ⟨_, _, _, rfl, h721⟩
    rintro m st ⟨u3j, u46, ubk, rfl, h721⟩
    cases m with
    | zero => exact (onone h721).elim
    | succ m =>
      apply Wc.seq
      apply Wc.seq
      obtain ⟨u47, h722, h721⟩ := obind h721
      refine Wc.r2 [{}, {}, { r := some (.v (aI u47.2) []), outs := [(0, .p (GL01Cur.q u47.1) [])] }] ⟨[tP 0 1000000, tP 2 2, tP 3 3, tI 4 u3j, tB 10 (decide (u3j < u47.2))], [(2, .cells GBinds.z [(0, .app 41)]), bC 3 [.sl (List.map GTerm.c u46.gList)], bC 1000000 (GL01Cur.q u47.1)], []⟩ (.cons (cspec_l01Below h722) .nil) ?_
      rcases oif h721 with ⟨h723, h721⟩ | ⟨h723, h721⟩
      · refine Wc.cT h723 ?_
        refine Wc.fx [] ⟨[tP 0 1000000, tP 2 2, tP 3 3, tI 4 u3j], [(2, .cells GBinds.z [(0, .app 41)]), bC 3 [.sl (List.map GTerm.c u46.gList)], bC 1000000 (GL01Cur.q u47.1)], []⟩ ?_
        refine Wc.skip ?_
        apply Wc.seq
        refine Wc.block ?_
        apply Wc.seq
        obtain ⟨u6i, h724, h721⟩ := obind h721
        refine Wc.r2 [{}, { r := some (.v (.agg (GTerm.q u6i.2)) [(3, .app 41)]), outs := [(0, .p (GL01Cur.q u6i.1) [])] }, {}, { tk := [14] }] ⟨[tP 0 1000000, tP 2 2, tP 3 3, tI 4 u3j, tP 5 5], [(2, .cells GBinds.z [(0, .app 41)]), bC 3 [.sl (List.map GTerm.c u46.gList)], (5, .cells (GTerm.q u6i.2) [(3, .app 41)]), bC 1000000 (GL01Cur.q u6i.1)], []⟩ (.cons (cspec_l03Term h724) .nil) ?_
        obtain ⟨u6j, h725, h721⟩ := obind h721
        obtain ⟨u8i, h726, h721⟩ := obind h721
        refine Wc.draw hmix [{}, {}, {}, { r := some (.v (.agg (GTerm.q u6j.2)) [(3, .app 41)]), outs := [(0, .p (GL01Cur.q u6j.1) [])] }, { r := some (.v (.tup [.agg [.sl (List.map GTerm.c u8i.1.gList)], .bool u8i.2]) []) }] [] [0, 2, 3, 4] [2, 3, 1000000] [] ⟨[tP 0 1000000, tP 2 2, tP 3 3, tI 4 u3j], [(2, .cells GBinds.z [(0, .app 41)]), bC 3 [.sl (List.map GTerm.c u8i.1.gList)], bC 1000000 (GL01Cur.q u6j.1)], []⟩ _ (by kernel_rfl) (fun X => by kernel_rfl) (.cons (cspec_l03Term h725) (.cons (FnO.un (cspec_Unify h726)) .nil)) ?_
        refine Wc.r0 ⟨[tP 0 1000000, tP 2 2, tP 3 3, tI 4 (wr.i64 (u3j + 1))], [(2, .cells GBinds.z [(0, .app 41)]), bC 3 [.sl (List.map GTerm.c u8i.1.gList)], bC 1000000 (GL01Cur.q u6j.1)], []⟩ ?_
        exact ⟨_, Nat.lt_succ_self _, _, _, _, rfl, h721⟩
      · refine Wc.cF h723 ?_
        refine Wc.fx [] ⟨[tP 2 2, tP 3 3], [(2, .cells GBinds.z [(0, .app 41)]), bC 3 [.sl (List.map GTerm.c u46.gList)], bC 1000000 (GL01Cur.q u47.1)], []⟩ ?_
        refine Wc.exit ?_
        obtain rfl := Option.some.inj h721
        exact ⟨_, _, rfl, rfl⟩
  · rintro st ⟨u8j, u8k, rfl, rfl⟩
    apply Wc.seq
    refine Wc.r0 ⟨[tP 2 2], [bC 2 [.sl (List.map GTerm.c u8j.gList)], bC 1000000 (GL01Cur.q u8k)], []⟩ ?_
    obtain rfl := Option.some.inj h; exact Wc.ret dn
end Go.Proofs.Ytkmifafdenblcaa

/- What the functions do, part 2. -/
import Derived.Test.YthemaodhckmnkaaFna
set_option linter.unusedVariables false
set_option linter.unusedSimpArgs false
namespace Go.Proofs.Ythemaodhckmnkaa
open Go.RowKit Go.Bv
def pspec_l06Read_atom_J3 (k : Nat) (rspec_l06Read_atom : GL06Read → Int → Option (GL06Read × GTerm × Int)) (rspec_l06Read_primary : GL06Read → Int → Option (GL06Read × GTerm × Int)) (rspec_l06Read_round : GL06Read → Option (GL06Read × GTerm)) (rspec_l06Read_row : GL06Read → Option (GL06Read × GTerm)) (rspec_l06Read_some : GL06Read → ByteArray → Option (GL06Read × GTerm)) (rspec_l06Read_term : GL06Read → Int → Option (GL06Read × GTerm)) (u2 : GL06Read) (uy : GSign) (uac : Bool) : Option (GL06Read × GTerm × Int) :=
  if uac = true then
    some (GL06Read.mk u2.gList u2.gAt true u2.gDeep u2.gNames, GTerm.mk 0 (bs []) 0 [], 0)
  else
    (pspec_l03Atom k uy.gText).bind fun uad =>
    some (GL06Read.mk u2.gList (wr.i64 (u2.gAt + 1)) u2.gBad u2.gDeep u2.gNames, uad, 0)
def pspec_l06Read_atom_J2 (k : Nat) (rspec_l06Read_atom : GL06Read → Int → Option (GL06Read × GTerm × Int)) (rspec_l06Read_primary : GL06Read → Int → Option (GL06Read × GTerm × Int)) (rspec_l06Read_round : GL06Read → Option (GL06Read × GTerm)) (rspec_l06Read_row : GL06Read → Option (GL06Read × GTerm)) (rspec_l06Read_some : GL06Read → ByteArray → Option (GL06Read × GTerm)) (rspec_l06Read_term : GL06Read → Int → Option (GL06Read × GTerm)) (u2 : GL06Read) (zg : GOp × Bool) (uy : GSign) (uae : Bool) : Option (GL06Read × GTerm × Int) :=
  if uae = true then
    (rspec_l06Read_term (GL06Read.mk u2.gList (wr.i64 (u2.gAt + 1)) u2.gBad u2.gDeep u2.gNames) zg.1.gRight).bind fun z2 =>
    some (z2.1, GTerm.mk 4 uy.gText 0 [z2.2], zg.1.gPrio)
  else
    (pspec_InfixOf k uy.gText).bind fun u81 =>
    if zg.2 = true then
      pspec_l06Read_atom_J3 k rspec_l06Read_atom rspec_l06Read_primary rspec_l06Read_round rspec_l06Read_row rspec_l06Read_some rspec_l06Read_term u2 uy true
    else
      pspec_l06Read_atom_J3 k rspec_l06Read_atom rspec_l06Read_primary rspec_l06Read_round rspec_l06Read_row rspec_l06Read_some rspec_l06Read_term u2 uy u81.2
def pspec_l06Read_atom_J1 (k : Nat) (rspec_l06Read_atom : GL06Read → Int → Option (GL06Read × GTerm × Int)) (rspec_l06Read_primary : GL06Read → Int → Option (GL06Read × GTerm × Int)) (rspec_l06Read_round : GL06Read → Option (GL06Read × GTerm)) (rspec_l06Read_row : GL06Read → Option (GL06Read × GTerm)) (rspec_l06Read_some : GL06Read → ByteArray → Option (GL06Read × GTerm)) (rspec_l06Read_term : GL06Read → Int → Option (GL06Read × GTerm)) (uy : GSign) (u09 : Int) (uaf : Bool) (u2 : GL06Read) : Option (GL06Read × GTerm × Int) :=
  if uaf = true then
    (at' u2.gList (wr.i64 ((wr.i64 (u2.gAt + 2)) - 1))).bind fun u6p =>
    (pspec_l03Num k (wr.i64 (0 - u6p.gNum))).bind fun uag =>
    some (GL06Read.mk u2.gList (wr.i64 (u2.gAt + 2)) u2.gBad u2.gDeep u2.gNames, uag, 0)
  else
    (pspec_PrefixOf k uy.gText).bind fun zg =>
    if zg.2 = true then
      pspec_l06Read_atom_J2 k rspec_l06Read_atom rspec_l06Read_primary rspec_l06Read_round rspec_l06Read_row rspec_l06Read_some rspec_l06Read_term u2 zg uy (decide (zg.1.gPrio ≤ u09))
    else
      pspec_l06Read_atom_J2 k rspec_l06Read_atom rspec_l06Read_primary rspec_l06Read_round rspec_l06Read_row rspec_l06Read_some rspec_l06Read_term u2 zg uy false
def pspec_l06Read_round_J1 (k : Nat) (rspec_l06Read_atom : GL06Read → Int → Option (GL06Read × GTerm × Int)) (rspec_l06Read_primary : GL06Read → Int → Option (GL06Read × GTerm × Int)) (rspec_l06Read_round : GL06Read → Option (GL06Read × GTerm)) (rspec_l06Read_row : GL06Read → Option (GL06Read × GTerm)) (rspec_l06Read_some : GL06Read → ByteArray → Option (GL06Read × GTerm)) (rspec_l06Read_term : GL06Read → Int → Option (GL06Read × GTerm)) (uah : Bool) (vi : GL06Read) : Option (GL06Read × GTerm) :=
  if uah = true then
    (at' vi.gList (wr.i64 ((wr.i64 (vi.gAt + 2)) - 2))).bind fun u61 =>
    (pspec_l03Atom k u61.gText).bind fun uai =>
    some (GL06Read.mk vi.gList (wr.i64 (vi.gAt + 2)) vi.gBad vi.gDeep vi.gNames, uai)
  else
    (rspec_l06Read_term vi 1200).bind fun u21 =>
    (pspec_l06Read_wants k u21.1 (bs [41])).bind fun u22 =>
    some (u22, u21.2)
def pspec_l06Read_row_L1 (k : Nat) (rspec_l06Read_atom : GL06Read → Int → Option (GL06Read × GTerm × Int)) (rspec_l06Read_primary : GL06Read → Int → Option (GL06Read × GTerm × Int)) (rspec_l06Read_round : GL06Read → Option (GL06Read × GTerm)) (rspec_l06Read_row : GL06Read → Option (GL06Read × GTerm)) (rspec_l06Read_some : GL06Read → ByteArray → Option (GL06Read × GTerm)) (rspec_l06Read_term : GL06Read → Int → Option (GL06Read × GTerm)) (u18 : GTerm) : Nat → (List GTerm) → GL06Read → Option (Out (GL06Read × GTerm) ((List GTerm) × GTerm × GL06Read))
  | 0, _, _ => none
  | m + 1, u06, zh =>
    if (!zh.gBad) = true then
      (rspec_l06Read_term zh 999).bind fun vp =>
      if u06.length + [vp.2].length ≤ 1073741824 then
        (pspec_l06Read_mark k vp.1 (bs [93])).bind fun zp =>
        if zp.2 = true then
          some (.done (u06 ++ [vp.2], u18, zp.1))
        else
          (pspec_l06Read_mark k zp.1 (bs [124])).bind fun u0t =>
          if u0t.2 = true then
            (rspec_l06Read_term u0t.1 999).bind fun u2g =>
            (pspec_l06Read_wants k u2g.1 (bs [93])).bind fun u3u =>
            some (.done (u06 ++ [vp.2], u2g.2, u3u))
          else
            (pspec_l06Read_wants k u0t.1 (bs [44])).bind fun u3v =>
            pspec_l06Read_row_L1 k rspec_l06Read_atom rspec_l06Read_primary rspec_l06Read_round rspec_l06Read_row rspec_l06Read_some rspec_l06Read_term u18 m (u06 ++ [vp.2]) u3v
      else none
    else
      some (.done (u06, u18, zh))
def pspec_l06Read_row_L2 (k : Nat) (rspec_l06Read_atom : GL06Read → Int → Option (GL06Read × GTerm × Int)) (rspec_l06Read_primary : GL06Read → Int → Option (GL06Read × GTerm × Int)) (rspec_l06Read_round : GL06Read → Option (GL06Read × GTerm)) (rspec_l06Read_row : GL06Read → Option (GL06Read × GTerm)) (rspec_l06Read_some : GL06Read → ByteArray → Option (GL06Read × GTerm)) (rspec_l06Read_term : GL06Read → Int → Option (GL06Read × GTerm)) (u1h : List GTerm) : Nat → Int → GTerm → Option (Out (GL06Read × GTerm) GTerm)
  | 0, _, _ => none
  | m + 1, u3w, u5c =>
    if (decide (u3w ≥ 0)) = true then
      (at' u1h u3w).bind fun uaj =>
      (pspec_l03Two k (bs [46]) uaj u5c).bind fun uak =>
      pspec_l06Read_row_L2 k rspec_l06Read_atom rspec_l06Read_primary rspec_l06Read_round rspec_l06Read_row rspec_l06Read_some rspec_l06Read_term u1h m (wr.i64 (u3w - 1)) uak
    else
      some (.done u5c)
def pspec_l06Read_some_L1 (k : Nat) (rspec_l06Read_atom : GL06Read → Int → Option (GL06Read × GTerm × Int)) (rspec_l06Read_primary : GL06Read → Int → Option (GL06Read × GTerm × Int)) (rspec_l06Read_round : GL06Read → Option (GL06Read × GTerm)) (rspec_l06Read_row : GL06Read → Option (GL06Read × GTerm)) (rspec_l06Read_some : GL06Read → ByteArray → Option (GL06Read × GTerm)) (rspec_l06Read_term : GL06Read → Int → Option (GL06Read × GTerm)) : Nat → GTerm → GL06Read → Option (Out (GL06Read × GTerm) (GTerm × GL06Read))
  | 0, _, _ => none
  | m + 1, uu, zi =>
    if (!zi.gBad) = true then
      (rspec_l06Read_term zi 999).bind fun up =>
      if (decide ((uu.gKids.length : Int) ≥ 5)) = true then
        some (.done (uu, GL06Read.mk up.1.gList up.1.gAt true up.1.gDeep up.1.gNames))
      else
        if uu.gKids.length + [up.2].length ≤ 1073741824 then
          (pspec_l06Read_mark k up.1 (bs [41])).bind fun zq =>
          if zq.2 = true then
            some (.done (GTerm.mk uu.gKind uu.gName uu.gNum (uu.gKids ++ [up.2]), zq.1))
          else
            (pspec_l06Read_wants k zq.1 (bs [44])).bind fun u3x =>
            pspec_l06Read_some_L1 k rspec_l06Read_atom rspec_l06Read_primary rspec_l06Read_round rspec_l06Read_row rspec_l06Read_some rspec_l06Read_term m (GTerm.mk uu.gKind uu.gName uu.gNum (uu.gKids ++ [up.2])) u3x
        else none
    else
      some (.done (uu, zi))
def pspec_l06Read_term_L2 (k : Nat) (rspec_l06Read_atom : GL06Read → Int → Option (GL06Read × GTerm × Int)) (rspec_l06Read_primary : GL06Read → Int → Option (GL06Read × GTerm × Int)) (rspec_l06Read_round : GL06Read → Option (GL06Read × GTerm)) (rspec_l06Read_row : GL06Read → Option (GL06Read × GTerm)) (rspec_l06Read_some : GL06Read → ByteArray → Option (GL06Read × GTerm)) (rspec_l06Read_term : GL06Read → Int → Option (GL06Read × GTerm)) (vf : Int) : Nat → Int → GTerm → GL06Read → Option (Out (GL06Read × GTerm) (GTerm × GL06Read))
  | 0, _, _, _ => none
  | m + 1, u5d, u0i, zj =>
    if (!zj.gBad) = true then
      (pspec_l06Read_infix k zj).bind fun ud =>
      if (!ud.2.2) = true then
        some (.done (u0i, ud.1))
      else
        if (decide (ud.2.1.gPrio > vf)) = true then
          some (.done (u0i, ud.1))
        else
          if (decide (ud.2.1.gLeft < u5d)) = true then
            some (.done (u0i, ud.1))
          else
            (rspec_l06Read_term (GL06Read.mk ud.1.gList (wr.i64 (ud.1.gAt + 1)) ud.1.gBad ud.1.gDeep ud.1.gNames) ud.2.1.gRight).bind fun zy =>
            (pspec_l03Two k ud.2.1.gName u0i zy.2).bind fun ual =>
            pspec_l06Read_term_L2 k rspec_l06Read_atom rspec_l06Read_primary rspec_l06Read_round rspec_l06Read_row rspec_l06Read_some rspec_l06Read_term vf m ud.2.1.gPrio ual zy.1
    else
      some (.done (u0i, zj))
def pspec_l06Read_term_J1 (k : Nat) (rspec_l06Read_atom : GL06Read → Int → Option (GL06Read × GTerm × Int)) (rspec_l06Read_primary : GL06Read → Int → Option (GL06Read × GTerm × Int)) (rspec_l06Read_round : GL06Read → Option (GL06Read × GTerm)) (rspec_l06Read_row : GL06Read → Option (GL06Read × GTerm)) (rspec_l06Read_some : GL06Read → ByteArray → Option (GL06Read × GTerm)) (rspec_l06Read_term : GL06Read → Int → Option (GL06Read × GTerm)) (uf : GL06Read) (vf : Int) (uam : Bool) : Option (GL06Read × GTerm) :=
  if uam = true then
    some (GL06Read.mk uf.gList uf.gAt true (wr.i64 (uf.gDeep + 1)) uf.gNames, GTerm.mk 0 (bs []) 0 [])
  else
    (rspec_l06Read_primary (GL06Read.mk uf.gList uf.gAt uf.gBad (wr.i64 (uf.gDeep + 1)) uf.gNames) vf).bind fun u1s =>
    (pspec_l06Read_term_L2 k rspec_l06Read_atom rspec_l06Read_primary rspec_l06Read_round rspec_l06Read_row rspec_l06Read_some rspec_l06Read_term vf k u1s.2.2 u1s.2.1 u1s.1).bind fun out2 => match out2 with
    | .ret r => some r
    | .done (u6q, u0a) =>
      some (GL06Read.mk u0a.gList u0a.gAt u0a.gBad (wr.i64 (u0a.gDeep - 1)) u0a.gNames, u6q)
mutual
def pspec_l06Read_atom : Nat → GL06Read → Int → Option (GL06Read × GTerm × Int)
  | 0, _, _ => none
  | k + 1, uo, u09 =>
    (at' uo.gList uo.gAt).bind fun uy =>
    if uy.gNear = true then
      (pspec_l06Read_some k (GL06Read.mk uo.gList (wr.i64 (uo.gAt + 2)) uo.gBad uo.gDeep uo.gNames) uy.gText).bind fun u0u =>
      some (u0u.1, u0u.2, 0)
    else
      if (sEq uy.gText (bs [45])) = true then
        (pspec_l06Read_near k uo).bind fun u2r =>
        pspec_l06Read_atom_J1 k (pspec_l06Read_atom k) (pspec_l06Read_primary k) (pspec_l06Read_round k) (pspec_l06Read_row k) (pspec_l06Read_some k) (pspec_l06Read_term k) uy u09 u2r.2 u2r.1
      else
        pspec_l06Read_atom_J1 k (pspec_l06Read_atom k) (pspec_l06Read_primary k) (pspec_l06Read_round k) (pspec_l06Read_row k) (pspec_l06Read_some k) (pspec_l06Read_term k) uy u09 false uo
def pspec_l06Read_primary : Nat → GL06Read → Int → Option (GL06Read × GTerm × Int)
  | 0, _, _ => none
  | k + 1, u0j, u4d =>
    (pspec_l06Read_is k u0j 1 (bs [])).bind fun u2h =>
    if u2h.2 = true then
      (pspec_l06Read_atom k u2h.1 u4d).bind fun u1t =>
      some (u1t.1, u1t.2.1, u1t.2.2)
    else
      (pspec_l06Read_mark k u2h.1 (bs [40])).bind fun u2i =>
      if u2i.2 = true then
        (pspec_l06Read_round k u2i.1).bind fun u2s =>
        some (u2s.1, u2s.2, 0)
      else
        (pspec_l06Read_mark k u2i.1 (bs [91])).bind fun u2j =>
        if u2j.2 = true then
          (pspec_l06Read_row k u2j.1).bind fun u2t =>
          some (u2t.1, u2t.2, 0)
        else
          (pspec_l06Read_is k u2j.1 3 (bs [])).bind fun vg =>
          if vg.2 = true then
            (at' vg.1.gList (wr.i64 ((wr.i64 (vg.1.gAt + 1)) - 1))).bind fun u6r =>
            (pspec_l03Num k u6r.gNum).bind fun uan =>
            some (GL06Read.mk vg.1.gList (wr.i64 (vg.1.gAt + 1)) vg.1.gBad vg.1.gDeep vg.1.gNames, uan, 0)
          else
            (pspec_l06Read_is k vg.1 2 (bs [])).bind fun uz =>
            if uz.2 = true then
              (at' uz.1.gList (wr.i64 ((wr.i64 (uz.1.gAt + 1)) - 1))).bind fun u62 =>
              (pspec_l06Read_variable k (GL06Read.mk uz.1.gList (wr.i64 (uz.1.gAt + 1)) uz.1.gBad uz.1.gDeep uz.1.gNames) u62.gText).bind fun u0v =>
              some (u0v.1, u0v.2, 0)
            else
              some (GL06Read.mk uz.1.gList uz.1.gAt true uz.1.gDeep uz.1.gNames, GTerm.mk 0 (bs []) 0 [], 0)
def pspec_l06Read_round : Nat → GL06Read → Option (GL06Read × GTerm)
  | 0, _ => none
  | k + 1, u0k =>
    (pspec_l06Read_is k u0k 1 (bs [])).bind fun ui =>
    if ui.2 = true then
      if (decide ((wr.i64 (ui.1.gAt + 1)) < (ui.1.gList.length : Int))) = true then
        (at' ui.1.gList (wr.i64 (ui.1.gAt + 1))).bind fun u63 =>
        if (u63.gKind == 4) = true then
          (at' ui.1.gList (wr.i64 (ui.1.gAt + 1))).bind fun u5e =>
          pspec_l06Read_round_J1 k (pspec_l06Read_atom k) (pspec_l06Read_primary k) (pspec_l06Read_round k) (pspec_l06Read_row k) (pspec_l06Read_some k) (pspec_l06Read_term k) (sEq u5e.gText (bs [41])) ui.1
        else
          pspec_l06Read_round_J1 k (pspec_l06Read_atom k) (pspec_l06Read_primary k) (pspec_l06Read_round k) (pspec_l06Read_row k) (pspec_l06Read_some k) (pspec_l06Read_term k) false ui.1
      else
        pspec_l06Read_round_J1 k (pspec_l06Read_atom k) (pspec_l06Read_primary k) (pspec_l06Read_round k) (pspec_l06Read_row k) (pspec_l06Read_some k) (pspec_l06Read_term k) false ui.1
    else
      pspec_l06Read_round_J1 k (pspec_l06Read_atom k) (pspec_l06Read_primary k) (pspec_l06Read_round k) (pspec_l06Read_row k) (pspec_l06Read_some k) (pspec_l06Read_term k) false ui.1
def pspec_l06Read_row : Nat → GL06Read → Option (GL06Read × GTerm)
  | 0, _ => none
  | k + 1, u0l =>
    (pspec_l06Read_mark k u0l (bs [93])).bind fun v9 =>
    if v9.2 = true then
      (pspec_l03Atom k (bs [91, 93])).bind fun uao =>
      some (v9.1, uao)
    else
      (pspec_l03Atom k (bs [91, 93])).bind fun u18 =>
      (pspec_l06Read_row_L1 k (pspec_l06Read_atom k) (pspec_l06Read_primary k) (pspec_l06Read_round k) (pspec_l06Read_row k) (pspec_l06Read_some k) (pspec_l06Read_term k) u18 k [] v9.1).bind fun out1 => match out1 with
      | .ret r => some r
      | .done (u1h, u82, uq) =>
        (pspec_l06Read_row_L2 k (pspec_l06Read_atom k) (pspec_l06Read_primary k) (pspec_l06Read_round k) (pspec_l06Read_row k) (pspec_l06Read_some k) (pspec_l06Read_term k) u1h k (wr.i64 ((u1h.length : Int) - 1)) u82).bind fun out2 => match out2 with
        | .ret r => some r
        | .done u83 =>
          some (uq, u83)
def pspec_l06Read_some : Nat → GL06Read → ByteArray → Option (GL06Read × GTerm)
  | 0, _, _ => none
  | k + 1, zk, u4e =>
    (pspec_l06Read_some_L1 k (pspec_l06Read_atom k) (pspec_l06Read_primary k) (pspec_l06Read_round k) (pspec_l06Read_row k) (pspec_l06Read_some k) (pspec_l06Read_term k) k (GTerm.mk 4 u4e 0 []) zk).bind fun out1 => match out1 with
    | .ret r => some r
    | .done (u84, u37) =>
      some (u37, u84)
def pspec_l06Read_term : Nat → GL06Read → Int → Option (GL06Read × GTerm)
  | 0, _, _ => none
  | k + 1, uf, vf =>
    if uf.gBad = true then
      pspec_l06Read_term_J1 k (pspec_l06Read_atom k) (pspec_l06Read_primary k) (pspec_l06Read_round k) (pspec_l06Read_row k) (pspec_l06Read_some k) (pspec_l06Read_term k) uf vf true
    else
      pspec_l06Read_term_J1 k (pspec_l06Read_atom k) (pspec_l06Read_primary k) (pspec_l06Read_round k) (pspec_l06Read_row k) (pspec_l06Read_some k) (pspec_l06Read_term k) uf vf (decide ((wr.i64 (uf.gDeep + 1)) > 130))
end
set_option maxHeartbeats 4000000 in
theorem all_pspec_l06Read_atom : ∀ k : Nat, (∀ {uo : GL06Read} {u09 : Int} {r : GL06Read × GTerm × Int}, pspec_l06Read_atom k uo u09 = some r → FnO Try.prog 187 [.p (GL06Read.k2 uo) (GL06Read.h4_9f uo), .v (aI u09) []] (.v (.tup [.agg (GTerm.q r.2.1), aI r.2.2]) []) [(0, .p (GL06Read.k2 r.1) (GL06Read.h4_9f r.1))]) ∧
    (∀ {u0j : GL06Read} {u4d : Int} {r : GL06Read × GTerm × Int}, pspec_l06Read_primary k u0j u4d = some r → FnO Try.prog 179 [.p (GL06Read.k2 u0j) (GL06Read.h4_9f u0j), .v (aI u4d) []] (.v (.tup [.agg (GTerm.q r.2.1), aI r.2.2]) []) [(0, .p (GL06Read.k2 r.1) (GL06Read.h4_9f r.1))]) ∧
    (∀ {u0k : GL06Read} {r : GL06Read × GTerm}, pspec_l06Read_round k u0k = some r → FnO Try.prog 189 [.p (GL06Read.k2 u0k) (GL06Read.h4_9f u0k)] (.v (.agg (GTerm.q r.2)) []) [(0, .p (GL06Read.k2 r.1) (GL06Read.h4_9f r.1))]) ∧
    (∀ {u0l : GL06Read} {r : GL06Read × GTerm}, pspec_l06Read_row k u0l = some r → FnO Try.prog 190 [.p (GL06Read.k2 u0l) (GL06Read.h4_9f u0l)] (.v (.agg (GTerm.q r.2)) []) [(0, .p (GL06Read.k2 r.1) (GL06Read.h4_9f r.1))]) ∧
    (∀ {zk : GL06Read} {u4e : ByteArray} {r : GL06Read × GTerm}, pspec_l06Read_some k zk u4e = some r → FnO Try.prog 196 [.p (GL06Read.k2 zk) (GL06Read.h4_9f zk), .v (.str u4e) []] (.v (.agg (GTerm.q r.2)) [(3, .app 41)]) [(0, .p (GL06Read.k2 r.1) (GL06Read.h4_9f r.1))]) ∧
    (∀ {uf : GL06Read} {vf : Int} {r : GL06Read × GTerm}, pspec_l06Read_term k uf vf = some r → FnO Try.prog 164 [.p (GL06Read.k2 uf) (GL06Read.h4_9f uf), .v (aI vf) []] (.v (.agg (GTerm.q r.2)) []) [(0, .p (GL06Read.k2 r.1) (GL06Read.h4_9f r.1))]) := by
  intro k
  induction k with
  | zero =>
    refine ⟨?_, ?_, ?_, ?_, ?_, ?_⟩
    · intro uo u09 r h
      exact (onone (by rw [pspec_l06Read_atom] at h; exact h)).elim
    · intro u0j u4d r h
      exact (onone (by rw [pspec_l06Read_primary] at h; exact h)).elim
    · intro u0k r h
      exact (onone (by rw [pspec_l06Read_round] at h; exact h)).elim
    · intro u0l r h
      exact (onone (by rw [pspec_l06Read_row] at h; exact h)).elim
    · intro zk u4e r h
      exact (onone (by rw [pspec_l06Read_some] at h; exact h)).elim
    · intro uf vf r h
      exact (onone (by rw [pspec_l06Read_term] at h; exact h)).elim
  | succ k ih =>
    obtain ⟨ih_pspec_l06Read_atom, ih_pspec_l06Read_primary, ih_pspec_l06Read_round, ih_pspec_l06Read_row, ih_pspec_l06Read_some, ih_pspec_l06Read_term⟩ := ih
    refine ⟨?_, ?_, ?_, ?_, ?_, ?_⟩
    · intro uo u09 r h
      rw [pspec_l06Read_atom] at h
      refine FnO.o2 Try.func187 (rfl : Try.f187.body = some _) ?_
      intro w0 X0 Fin pv0 pb
      apply Wc.seq
      refine Wc.r0 ⟨[tP 0 1000000, tI 1 u09, tP 4 4], [(4, .cells GTerm.z [(3, .app 41)]), (1000000, .cells (GL06Read.k2 uo) (GL06Read.h4_9f uo))], []⟩ ?_
      apply Wc.seq
      obtain ⟨uy, h551, h⟩ := obind h
      refine Wc.draw hmix [{}, {}, {}, {}, {}, {}, {}, {}, { v := some (.vptr (GSign.q uy)) }] [] [0, 1, 4, 6] [4, 6, 1000000] [] ⟨[tP 0 1000000, tI 1 u09, tP 4 4, tP 6 6], [(4, .cells GTerm.z [(3, .app 41)]), bC 6 (GSign.q uy), (1000000, .cells (GL06Read.k2 uo) (GL06Read.h4_9f uo))], []⟩ _ (by kernel_rfl) (fun X => by kernel_rfl) (.cons (at_obl (c := GSign.c) (GSign.c_eq uy) GSign.c_len h551) (.cons (len_ok 5 (GSign.q uy)) .nil)) ?_
      apply Wc.seq
      apply Wc.seq
      refine Wc.r0 ⟨[tP 0 1000000, tI 1 u09, tP 4 4, tP 6 6, tB 23 uy.gNear], [(4, .cells GTerm.z [(3, .app 41)]), bC 6 (GSign.q uy), (1000000, .cells (GL06Read.k2 uo) (GL06Read.h4_9f uo))], []⟩ ?_
      rcases oif h with ⟨h552, h⟩ | ⟨h552, h⟩
      · refine Wc.cT h552 ?_
        apply Wc.seq
        refine Wc.r0 ⟨[tP 0 1000000, tP 4 4, tP 6 6], [(4, .cells GTerm.z [(3, .app 41)]), bC 6 (GSign.q uy), (1000000, .cells [.sl (List.map GSign.c uo.gList), aI (wr.i64 (uo.gAt + 2)), .bool uo.gBad, aI uo.gDeep, .slx] (GL06Read.h4_9f uo))], []⟩ ?_
        apply Wc.seq
        obtain ⟨u0u, h553, h⟩ := obind h
        refine Wc.r2 [{}, {}, {}, { r := some (.v (.agg (GTerm.q u0u.2)) [(3, .app 41)]), outs := [(0, .p (GL06Read.k2 u0u.1) (GL06Read.h4_9f u0u.1))] }, { tk := [35] }] ⟨[tP 4 4, tI 5 0], [(4, .cells (GTerm.q u0u.2) [(3, .app 41)]), (1000000, .cells (GL06Read.k2 u0u.1) (GL06Read.h4_9f u0u.1))], []⟩ (.cons (ih_pspec_l06Read_some h553) .nil) ?_
        refine Wc.fx [.un (.b 4 3)] ⟨[tP 4 4, tI 5 0], [bC 4 (GTerm.q u0u.2), (1000000, .cells (GL06Read.k2 u0u.1) (GL06Read.h4_9f u0u.1))], []⟩ ?_
        obtain rfl := Option.some.inj h; exact Wc.ret dn
      · refine Wc.cF h552 ?_
        refine Wc.fx [] ⟨[tP 0 1000000, tI 1 u09, tP 4 4, tP 6 6], [(4, .cells GTerm.z [(3, .app 41)]), bC 6 (GSign.q uy), (1000000, .cells (GL06Read.k2 uo) (GL06Read.h4_9f uo))], []⟩ ?_
        refine Wc.skip ?_
        apply Wc.seq
        refine Wc.seqJ (fun st => ∃ (uaf : Bool) (u2 : GL06Read), st = ⟨[tP 0 1000000, tI 1 u09, tP 4 4, tP 6 6, tB 42 uaf], [(4, .cells GTerm.z [(3, .app 41)]), bC 6 (GSign.q uy), (1000000, .cells (GL06Read.k2 u2) (GL06Read.h4_9f u2))], []⟩ ∧ pspec_l06Read_atom_J1 k (pspec_l06Read_atom k) (pspec_l06Read_primary k) (pspec_l06Read_round k) (pspec_l06Read_row k) (pspec_l06Read_some k) (pspec_l06Read_term k) uy u09 uaf u2 = some r) ?_ ?_
        · rcases oif h with ⟨h565, h⟩ | ⟨h565, h⟩
          · obtain ⟨u2r, h566, h⟩ := obind h
            refine Wc.r2 [{}, {}, {}, { re := some (.bool true) }, {}, { r := some (.v (.bool u2r.2) []), outs := [(0, .p (GL06Read.k2 u2r.1) (GL06Read.h4_9f u2r.1))] }] ⟨[tP 0 1000000, tI 1 u09, tP 4 4, tP 6 6, tB 42 u2r.2], [(4, .cells GTerm.z [(3, .app 41)]), bC 6 (GSign.q uy), (1000000, .cells (GL06Read.k2 u2r.1) (GL06Read.h4_9f u2r.1))], []⟩ (.cons (congrArg AV.bool h565) (.cons (cspec_l06Read_near h566) .nil)) ?_
            exact ⟨_, _, rfl, h⟩
          · refine Wc.r2 [{}, {}, {}, { re := some (.bool false) }] ⟨[tP 0 1000000, tI 1 u09, tP 4 4, tP 6 6, tB 42 false], [(4, .cells GTerm.z [(3, .app 41)]), bC 6 (GSign.q uy), (1000000, .cells (GL06Read.k2 uo) (GL06Read.h4_9f uo))], []⟩ (.cons (congrArg AV.bool h565) .nil) ?_
            exact ⟨_, _, rfl, h⟩
        · rintro st ⟨uaf, u2, rfl, h⟩
          rcases oif h with ⟨h554, h⟩ | ⟨h554, h⟩
          · refine Wc.cT h554 ?_
            apply Wc.seq
            refine Wc.r0 ⟨[tP 0 1000000, tP 4 4], [(4, .cells GTerm.z [(3, .app 41)]), (1000000, .cells [.sl (List.map GSign.c u2.gList), aI (wr.i64 (u2.gAt + 2)), .bool u2.gBad, aI u2.gDeep, .slx] (GL06Read.h4_9f u2))], []⟩ ?_
            apply Wc.seq
            obtain ⟨u6p, h555, h⟩ := obind h
            obtain ⟨uag, h556, h⟩ := obind h
            refine Wc.draw hmix [{}, {}, {}, {}, {}, {}, {}, {}, {}, { v := some (.vptr (GSign.q u6p)) }, {}, {}, {}, { r := some (.v (.agg (GTerm.q uag)) [(3, .app 41)]) }, { tk := [64] }] [] [4, 5] [4, 1000000] [] ⟨[tP 4 4, tI 5 0], [(4, .cells (GTerm.q uag) [(3, .app 41)]), (1000000, .cells [.sl (List.map GSign.c u2.gList), aI (wr.i64 (u2.gAt + 2)), .bool u2.gBad, aI u2.gDeep, .slx] (GL06Read.h4_9f u2))], []⟩ _ (by kernel_rfl) (fun X => by kernel_rfl) (.cons (at_obl (c := GSign.c) (GSign.c_eq u6p) GSign.c_len h555) (.cons (len_ok 1 [aI u6p.gNum, aI u6p.gAt, .bool u6p.gNear]) (.cons (cspec_l03Num h556) .nil))) ?_
            refine Wc.fx [.un (.b 4 3)] ⟨[tP 4 4, tI 5 0], [bC 4 (GTerm.q uag), (1000000, .cells [.sl (List.map GSign.c u2.gList), aI (wr.i64 (u2.gAt + 2)), .bool u2.gBad, aI u2.gDeep, .slx] (GL06Read.h4_9f u2))], []⟩ ?_
            obtain rfl := Option.some.inj h; exact Wc.ret dn
          · refine Wc.cF h554 ?_
            refine Wc.fx [] ⟨[tP 0 1000000, tI 1 u09, tP 4 4, tP 6 6], [(4, .cells GTerm.z [(3, .app 41)]), bC 6 (GSign.q uy), (1000000, .cells (GL06Read.k2 u2) (GL06Read.h4_9f u2))], []⟩ ?_
            refine Wc.skip ?_
            apply Wc.seq
            obtain ⟨zg, h557, h⟩ := obind h
            refine Wc.r2 [{}, {}, { r := some (.v (.tup [.agg (GOp.q zg.1), .bool zg.2]) []) }] ⟨[tP 0 1000000, tI 1 u09, tP 4 4, tP 6 6, tP 7 7, tB 8 zg.2], [(4, .cells GTerm.z [(3, .app 41)]), bC 6 (GSign.q uy), bC 7 (GOp.q zg.1), (1000000, .cells (GL06Read.k2 u2) (GL06Read.h4_9f u2))], []⟩ (.cons (cspec_PrefixOf h557) .nil) ?_
            apply Wc.seq
            refine Wc.seqJ (fun st => ∃ (uae : Bool), st = ⟨[tP 0 1000000, tP 4 4, tP 6 6, tP 7 7, tB 8 zg.2, tB 77 uae], [(4, .cells GTerm.z [(3, .app 41)]), bC 6 (GSign.q uy), bC 7 (GOp.q zg.1), (1000000, .cells (GL06Read.k2 u2) (GL06Read.h4_9f u2))], []⟩ ∧ pspec_l06Read_atom_J2 k (pspec_l06Read_atom k) (pspec_l06Read_primary k) (pspec_l06Read_round k) (pspec_l06Read_row k) (pspec_l06Read_some k) (pspec_l06Read_term k) u2 zg uy uae = some r) ?_ ?_
            · rcases oif h with ⟨h564, h⟩ | ⟨h564, h⟩
              · refine Wc.r2 [{}, { re := some (.bool true) }] ⟨[tP 0 1000000, tP 4 4, tP 6 6, tP 7 7, tB 8 zg.2, tB 77 (decide (zg.1.gPrio ≤ u09))], [(4, .cells GTerm.z [(3, .app 41)]), bC 6 (GSign.q uy), bC 7 (GOp.q zg.1), (1000000, .cells (GL06Read.k2 u2) (GL06Read.h4_9f u2))], []⟩ (.cons (congrArg AV.bool h564) .nil) ?_
                exact ⟨_, rfl, h⟩
              · refine Wc.r2 [{}, { re := some (.bool false) }] ⟨[tP 0 1000000, tP 4 4, tP 6 6, tP 7 7, tB 8 zg.2, tB 77 false], [(4, .cells GTerm.z [(3, .app 41)]), bC 6 (GSign.q uy), bC 7 (GOp.q zg.1), (1000000, .cells (GL06Read.k2 u2) (GL06Read.h4_9f u2))], []⟩ (.cons (congrArg AV.bool h564) .nil) ?_
                exact ⟨_, rfl, h⟩
            · rintro st ⟨uae, rfl, h⟩
              rcases oif h with ⟨h558, h⟩ | ⟨h558, h⟩
              · refine Wc.cT h558 ?_
                apply Wc.seq
                refine Wc.r0 ⟨[tP 0 1000000, tP 4 4, tP 6 6, tP 7 7], [(4, .cells GTerm.z [(3, .app 41)]), bC 6 (GSign.q uy), bC 7 (GOp.q zg.1), (1000000, .cells [.sl (List.map GSign.c u2.gList), aI (wr.i64 (u2.gAt + 1)), .bool u2.gBad, aI u2.gDeep, .slx] (GL06Read.h4_9f u2))], []⟩ ?_
                apply Wc.seq
                obtain ⟨z2, h559, h⟩ := obind h
                refine Wc.r2 [{}, {}, {}, { r := some (.v (.agg (GTerm.q z2.2)) []), outs := [(0, .p (GL06Read.k2 z2.1) (GL06Read.h4_9f z2.1))] }] ⟨[tP 4 4, tP 6 6, tP 7 7, tP 9 9], [(4, .cells GTerm.z [(3, .app 41)]), bC 6 (GSign.q uy), bC 7 (GOp.q zg.1), bC 9 (GTerm.q z2.2), (1000000, .cells (GL06Read.k2 z2.1) (GL06Read.h4_9f z2.1))], []⟩ (.cons (ih_pspec_l06Read_term h559) .nil) ?_
                apply Wc.seq
                refine Wc.draw hmix [{}, {}, {}, { c := some (List.map GTerm.c [z2.2]) }, { tk := [93] }, {}, {}, { tk := [94] }] [] [4, 5] [4, 1000000] [] ⟨[tP 4 4, tI 5 zg.1.gPrio], [(4, .cells [aI 4, .str uy.gText, aI 0, .sl (List.map GTerm.c [z2.2])] [(3, .app 41)]), (1000000, .cells (GL06Read.k2 z2.1) (GL06Read.h4_9f z2.1))], []⟩ _ (by kernel_rfl) (fun X => by kernel_rfl) (.cons (cl_cons (c := GTerm.c) (x := z2.2) (GTerm.c_eq z2.2) (cl_nil GTerm.c)) .nil) ?_
                refine Wc.fx [.un (.b 4 3)] ⟨[tP 4 4, tI 5 zg.1.gPrio], [bC 4 [aI 4, .str uy.gText, aI 0, .sl (List.map GTerm.c [z2.2])], (1000000, .cells (GL06Read.k2 z2.1) (GL06Read.h4_9f z2.1))], []⟩ ?_
                obtain rfl := Option.some.inj h; exact Wc.ret dn
              · refine Wc.cF h558 ?_
                refine Wc.fx [] ⟨[tP 0 1000000, tP 4 4, tP 6 6, tB 8 zg.2], [(4, .cells GTerm.z [(3, .app 41)]), bC 6 (GSign.q uy), (1000000, .cells (GL06Read.k2 u2) (GL06Read.h4_9f u2))], []⟩ ?_
                refine Wc.skip ?_
                apply Wc.seq
                obtain ⟨u81, h560, h⟩ := obind h
                refine Wc.r2 [{}, {}, { r := some (.v (.tup [.agg (GOp.q u81.1), .bool u81.2]) []) }] ⟨[tP 0 1000000, tP 4 4, tP 6 6, tB 8 zg.2, tB 11 u81.2], [(4, .cells GTerm.z [(3, .app 41)]), bC 6 (GSign.q uy), (1000000, .cells (GL06Read.k2 u2) (GL06Read.h4_9f u2))], []⟩ (.cons (cspec_InfixOf h560) .nil) ?_
                apply Wc.seq
                refine Wc.seqJ (fun st => ∃ (uac : Bool), st = ⟨[tP 0 1000000, tP 4 4, tP 6 6, tB 106 uac], [(4, .cells GTerm.z [(3, .app 41)]), bC 6 (GSign.q uy), (1000000, .cells (GL06Read.k2 u2) (GL06Read.h4_9f u2))], []⟩ ∧ pspec_l06Read_atom_J3 k (pspec_l06Read_atom k) (pspec_l06Read_primary k) (pspec_l06Read_round k) (pspec_l06Read_row k) (pspec_l06Read_some k) (pspec_l06Read_term k) u2 uy uac = some r) ?_ ?_
                · rcases oif h with ⟨h563, h⟩ | ⟨h563, h⟩
                  · refine Wc.r2 [{}, { re := some (.bool true) }] ⟨[tP 0 1000000, tP 4 4, tP 6 6, tB 106 true], [(4, .cells GTerm.z [(3, .app 41)]), bC 6 (GSign.q uy), (1000000, .cells (GL06Read.k2 u2) (GL06Read.h4_9f u2))], []⟩ (.cons (congrArg AV.bool h563) .nil) ?_
                    exact ⟨_, rfl, h⟩
                  · refine Wc.r2 [{}, { re := some (.bool false) }] ⟨[tP 0 1000000, tP 4 4, tP 6 6, tB 106 u81.2], [(4, .cells GTerm.z [(3, .app 41)]), bC 6 (GSign.q uy), (1000000, .cells (GL06Read.k2 u2) (GL06Read.h4_9f u2))], []⟩ (.cons (congrArg AV.bool h563) .nil) ?_
                    exact ⟨_, rfl, h⟩
                · rintro st ⟨uac, rfl, h⟩
                  rcases oif h with ⟨h561, h⟩ | ⟨h561, h⟩
                  · refine Wc.cT h561 ?_
                    apply Wc.seq
                    refine Wc.r0 ⟨[tP 4 4], [(4, .cells GTerm.z [(3, .app 41)]), (1000000, .cells [.sl (List.map GSign.c u2.gList), aI u2.gAt, .bool true, aI u2.gDeep, .slx] (GL06Read.h4_9f u2))], []⟩ ?_
                    apply Wc.seq
                    refine Wc.r1 [{}, { tk := [110] }] ⟨[tP 4 4, tI 5 0], [(4, .cells GTerm.z [(3, .app 41)]), (1000000, .cells [.sl (List.map GSign.c u2.gList), aI u2.gAt, .bool true, aI u2.gDeep, .slx] (GL06Read.h4_9f u2))], []⟩ ?_
                    refine Wc.fx [.un (.b 4 3)] ⟨[tP 4 4, tI 5 0], [bC 4 GTerm.z, (1000000, .cells [.sl (List.map GSign.c u2.gList), aI u2.gAt, .bool true, aI u2.gDeep, .slx] (GL06Read.h4_9f u2))], []⟩ ?_
                    obtain rfl := Option.some.inj h; exact Wc.ret dn
                  · refine Wc.cF h561 ?_
                    refine Wc.fx [] ⟨[tP 0 1000000, tP 4 4, tP 6 6], [(4, .cells GTerm.z [(3, .app 41)]), bC 6 (GSign.q uy), (1000000, .cells (GL06Read.k2 u2) (GL06Read.h4_9f u2))], []⟩ ?_
                    refine Wc.skip ?_
                    apply Wc.seq
                    refine Wc.r0 ⟨[tP 4 4, tP 6 6], [(4, .cells GTerm.z [(3, .app 41)]), bC 6 (GSign.q uy), (1000000, .cells [.sl (List.map GSign.c u2.gList), aI (wr.i64 (u2.gAt + 1)), .bool u2.gBad, aI u2.gDeep, .slx] (GL06Read.h4_9f u2))], []⟩ ?_
                    apply Wc.seq
                    obtain ⟨uad, h562, h⟩ := obind h
                    refine Wc.r2 [{}, {}, { r := some (.v (.agg (GTerm.q uad)) [(3, .app 41)]) }, { tk := [121] }] ⟨[tP 4 4, tI 5 0], [(4, .cells (GTerm.q uad) [(3, .app 41)]), (1000000, .cells [.sl (List.map GSign.c u2.gList), aI (wr.i64 (u2.gAt + 1)), .bool u2.gBad, aI u2.gDeep, .slx] (GL06Read.h4_9f u2))], []⟩ (.cons (cspec_l03Atom h562) .nil) ?_
                    refine Wc.fx [.un (.b 4 3)] ⟨[tP 4 4, tI 5 0], [bC 4 (GTerm.q uad), (1000000, .cells [.sl (List.map GSign.c u2.gList), aI (wr.i64 (u2.gAt + 1)), .bool u2.gBad, aI u2.gDeep, .slx] (GL06Read.h4_9f u2))], []⟩ ?_
                    obtain rfl := Option.some.inj h; exact Wc.ret dn
    · intro u0j u4d r h
      rw [pspec_l06Read_primary] at h
      refine FnO.o2 Try.func179 (rfl : Try.f179.body = some _) ?_
      intro w0 X0 Fin pv0 pb
      apply Wc.seq
      refine Wc.r0 ⟨[tP 0 1000000, tI 1 u4d, tP 4 4], [(4, .cells GTerm.z [(3, .app 41)]), (1000000, .cells (GL06Read.k2 u0j) (GL06Read.h4_9f u0j))], []⟩ ?_
      apply Wc.seq
      refine Wc.block ?_
      apply Wc.seq
      obtain ⟨u2h, h567, h⟩ := obind h
      refine Wc.r2 [{}, { r := some (.v (.bool u2h.2) []), outs := [(0, .p (GL06Read.k2 u2h.1) (GL06Read.h4_9f u2h.1))] }] ⟨[tP 0 1000000, tI 1 u4d, tP 4 4, tB 6 u2h.2], [(4, .cells GTerm.z [(3, .app 41)]), (1000000, .cells (GL06Read.k2 u2h.1) (GL06Read.h4_9f u2h.1))], []⟩ (.cons (cspec_l06Read_is h567) .nil) ?_
      rcases oif h with ⟨h568, h⟩ | ⟨h568, h⟩
      · refine Wc.cT h568 ?_
        apply Wc.seq
        obtain ⟨u1t, h569, h⟩ := obind h
        refine Wc.r2 [{}, {}, { r := some (.v (.tup [.agg (GTerm.q u1t.2.1), aI u1t.2.2]) []), outs := [(0, .p (GL06Read.k2 u1t.1) (GL06Read.h4_9f u1t.1))] }] ⟨[tP 4 4, tI 5 u1t.2.2], [bC 4 (GTerm.q u1t.2.1), (1000000, .cells (GL06Read.k2 u1t.1) (GL06Read.h4_9f u1t.1))], []⟩ (.cons (ih_pspec_l06Read_atom h569) .nil) ?_
        obtain rfl := Option.some.inj h; exact Wc.ret dn
      · refine Wc.cF h568 ?_
        apply Wc.seq
        obtain ⟨u2i, h570, h⟩ := obind h
        refine Wc.r2 [{}, { r := some (.v (.bool u2i.2) []), outs := [(0, .p (GL06Read.k2 u2i.1) (GL06Read.h4_9f u2i.1))] }] ⟨[tP 0 1000000, tP 4 4, tB 14 u2i.2], [(4, .cells GTerm.z [(3, .app 41)]), (1000000, .cells (GL06Read.k2 u2i.1) (GL06Read.h4_9f u2i.1))], []⟩ (.cons (cspec_l06Read_mark h570) .nil) ?_
        rcases oif h with ⟨h571, h⟩ | ⟨h571, h⟩
        · refine Wc.cT h571 ?_
          apply Wc.seq
          obtain ⟨u2s, h572, h⟩ := obind h
          refine Wc.r2 [{}, { r := some (.v (.agg (GTerm.q u2s.2)) []), outs := [(0, .p (GL06Read.k2 u2s.1) (GL06Read.h4_9f u2s.1))] }] ⟨[tP 4 4, tI 5 0], [bC 4 (GTerm.q u2s.2), (1000000, .cells (GL06Read.k2 u2s.1) (GL06Read.h4_9f u2s.1))], []⟩ (.cons (ih_pspec_l06Read_round h572) .nil) ?_
          obtain rfl := Option.some.inj h; exact Wc.ret dn
        · refine Wc.cF h571 ?_
          apply Wc.seq
          obtain ⟨u2j, h573, h⟩ := obind h
          refine Wc.r2 [{}, { r := some (.v (.bool u2j.2) []), outs := [(0, .p (GL06Read.k2 u2j.1) (GL06Read.h4_9f u2j.1))] }] ⟨[tP 0 1000000, tP 4 4, tB 19 u2j.2], [(4, .cells GTerm.z [(3, .app 41)]), (1000000, .cells (GL06Read.k2 u2j.1) (GL06Read.h4_9f u2j.1))], []⟩ (.cons (cspec_l06Read_mark h573) .nil) ?_
          rcases oif h with ⟨h574, h⟩ | ⟨h574, h⟩
          · refine Wc.cT h574 ?_
            apply Wc.seq
            obtain ⟨u2t, h575, h⟩ := obind h
            refine Wc.r2 [{}, { r := some (.v (.agg (GTerm.q u2t.2)) []), outs := [(0, .p (GL06Read.k2 u2t.1) (GL06Read.h4_9f u2t.1))] }] ⟨[tP 4 4, tI 5 0], [bC 4 (GTerm.q u2t.2), (1000000, .cells (GL06Read.k2 u2t.1) (GL06Read.h4_9f u2t.1))], []⟩ (.cons (ih_pspec_l06Read_row h575) .nil) ?_
            obtain rfl := Option.some.inj h; exact Wc.ret dn
          · refine Wc.cF h574 ?_
            apply Wc.seq
            obtain ⟨vg, h576, h⟩ := obind h
            refine Wc.r2 [{}, { r := some (.v (.bool vg.2) []), outs := [(0, .p (GL06Read.k2 vg.1) (GL06Read.h4_9f vg.1))] }] ⟨[tP 0 1000000, tP 4 4, tB 24 vg.2], [(4, .cells GTerm.z [(3, .app 41)]), (1000000, .cells (GL06Read.k2 vg.1) (GL06Read.h4_9f vg.1))], []⟩ (.cons (cspec_l06Read_is h576) .nil) ?_
            rcases oif h with ⟨h577, h⟩ | ⟨h577, h⟩
            · refine Wc.cT h577 ?_
              apply Wc.seq
              refine Wc.r0 ⟨[tP 0 1000000, tP 4 4], [(4, .cells GTerm.z [(3, .app 41)]), (1000000, .cells [.sl (List.map GSign.c vg.1.gList), aI (wr.i64 (vg.1.gAt + 1)), .bool vg.1.gBad, aI vg.1.gDeep, .slx] (GL06Read.h4_9f vg.1))], []⟩ ?_
              apply Wc.seq
              obtain ⟨u6r, h578, h⟩ := obind h
              obtain ⟨uan, h579, h⟩ := obind h
              refine Wc.draw hmix [{}, {}, {}, {}, {}, {}, {}, {}, {}, { v := some (.vptr (GSign.q u6r)) }, {}, {}, { r := some (.v (.agg (GTerm.q uan)) [(3, .app 41)]) }, { tk := [47] }] [] [4, 5] [4, 1000000] [] ⟨[tP 4 4, tI 5 0], [(4, .cells (GTerm.q uan) [(3, .app 41)]), (1000000, .cells [.sl (List.map GSign.c vg.1.gList), aI (wr.i64 (vg.1.gAt + 1)), .bool vg.1.gBad, aI vg.1.gDeep, .slx] (GL06Read.h4_9f vg.1))], []⟩ _ (by kernel_rfl) (fun X => by kernel_rfl) (.cons (at_obl (c := GSign.c) (GSign.c_eq u6r) GSign.c_len h578) (.cons (len_ok 1 [aI u6r.gNum, aI u6r.gAt, .bool u6r.gNear]) (.cons (cspec_l03Num h579) .nil))) ?_
              refine Wc.fx [.un (.b 4 3)] ⟨[tP 4 4, tI 5 0], [bC 4 (GTerm.q uan), (1000000, .cells [.sl (List.map GSign.c vg.1.gList), aI (wr.i64 (vg.1.gAt + 1)), .bool vg.1.gBad, aI vg.1.gDeep, .slx] (GL06Read.h4_9f vg.1))], []⟩ ?_
              obtain rfl := Option.some.inj h; exact Wc.ret dn
            · refine Wc.cF h577 ?_
              apply Wc.seq
              obtain ⟨uz, h580, h⟩ := obind h
              refine Wc.r2 [{}, { r := some (.v (.bool uz.2) []), outs := [(0, .p (GL06Read.k2 uz.1) (GL06Read.h4_9f uz.1))] }] ⟨[tP 0 1000000, tP 4 4, tB 48 uz.2], [(4, .cells GTerm.z [(3, .app 41)]), (1000000, .cells (GL06Read.k2 uz.1) (GL06Read.h4_9f uz.1))], []⟩ (.cons (cspec_l06Read_is h580) .nil) ?_
              rcases oif h with ⟨h581, h⟩ | ⟨h581, h⟩
              · refine Wc.cT h581 ?_
                apply Wc.seq
                refine Wc.r0 ⟨[tP 0 1000000, tP 4 4], [(4, .cells GTerm.z [(3, .app 41)]), (1000000, .cells [.sl (List.map GSign.c uz.1.gList), aI (wr.i64 (uz.1.gAt + 1)), .bool uz.1.gBad, aI uz.1.gDeep, .slx] (GL06Read.h4_9f uz.1))], []⟩ ?_
                apply Wc.seq
                obtain ⟨u62, h582, h⟩ := obind h
                obtain ⟨u0v, h583, h⟩ := obind h
                refine Wc.draw hmix [{}, {}, {}, {}, {}, {}, {}, {}, {}, {}, { v := some (.vptr (GSign.q u62)) }, {}, {}, { r := some (.v (.agg (GTerm.q u0v.2)) [(3, .app 41)]), outs := [(0, .p (GL06Read.k2 u0v.1) (GL06Read.h4_9f u0v.1))] }, { tk := [72] }] [] [4, 5] [4, 1000000] [] ⟨[tP 4 4, tI 5 0], [(4, .cells (GTerm.q u0v.2) [(3, .app 41)]), (1000000, .cells (GL06Read.k2 u0v.1) (GL06Read.h4_9f u0v.1))], []⟩ _ (by kernel_rfl) (fun X => by kernel_rfl) (.cons (at_obl (c := GSign.c) (GSign.c_eq u62) GSign.c_len h582) (.cons (len_ok 1 [.str u62.gText, aI u62.gNum, aI u62.gAt, .bool u62.gNear]) (.cons (cspec_l06Read_variable h583) .nil))) ?_
                refine Wc.fx [.un (.b 4 3)] ⟨[tP 4 4, tI 5 0], [bC 4 (GTerm.q u0v.2), (1000000, .cells (GL06Read.k2 u0v.1) (GL06Read.h4_9f u0v.1))], []⟩ ?_
                obtain rfl := Option.some.inj h; exact Wc.ret dn
              · refine Wc.cF h581 ?_
                refine Wc.fx [] ⟨[tP 0 1000000, tP 4 4], [(4, .cells GTerm.z [(3, .app 41)]), (1000000, .cells (GL06Read.k2 uz.1) (GL06Read.h4_9f uz.1))], []⟩ ?_
                refine Wc.skip ?_
                apply Wc.seq
                refine Wc.r0 ⟨[tP 4 4], [(4, .cells GTerm.z [(3, .app 41)]), (1000000, .cells [.sl (List.map GSign.c uz.1.gList), aI uz.1.gAt, .bool true, aI uz.1.gDeep, .slx] (GL06Read.h4_9f uz.1))], []⟩ ?_
                apply Wc.seq
                refine Wc.r1 [{}, { tk := [76] }] ⟨[tP 4 4, tI 5 0], [(4, .cells GTerm.z [(3, .app 41)]), (1000000, .cells [.sl (List.map GSign.c uz.1.gList), aI uz.1.gAt, .bool true, aI uz.1.gDeep, .slx] (GL06Read.h4_9f uz.1))], []⟩ ?_
                refine Wc.fx [.un (.b 4 3)] ⟨[tP 4 4, tI 5 0], [bC 4 GTerm.z, (1000000, .cells [.sl (List.map GSign.c uz.1.gList), aI uz.1.gAt, .bool true, aI uz.1.gDeep, .slx] (GL06Read.h4_9f uz.1))], []⟩ ?_
                obtain rfl := Option.some.inj h; exact Wc.ret dn
    · intro u0k r h
      rw [pspec_l06Read_round] at h
      refine FnO.o2 Try.func189 (rfl : Try.f189.body = some _) ?_
      intro w0 X0 Fin pv0 pb
      apply Wc.seq
      refine Wc.r0 ⟨[tP 0 1000000, tP 2 2], [(2, .cells GTerm.z [(3, .app 41)]), (1000000, .cells (GL06Read.k2 u0k) (GL06Read.h4_9f u0k))], []⟩ ?_
      apply Wc.seq
      refine Wc.seqJ (fun st => ∃ (uah : Bool) (vi : GL06Read), st = ⟨[tP 0 1000000, tP 2 2, tB 48 uah], [(2, .cells GTerm.z [(3, .app 41)]), (1000000, .cells (GL06Read.k2 vi) (GL06Read.h4_9f vi))], []⟩ ∧ pspec_l06Read_round_J1 k (pspec_l06Read_atom k) (pspec_l06Read_primary k) (pspec_l06Read_round k) (pspec_l06Read_row k) (pspec_l06Read_some k) (pspec_l06Read_term k) uah vi = some r) ?_ ?_
      · obtain ⟨ui, h589, h⟩ := obind h
        rcases oif h with ⟨h590, h⟩ | ⟨h590, h⟩
        · rcases oif h with ⟨h591, h⟩ | ⟨h591, h⟩
          · obtain ⟨u63, h592, h⟩ := obind h
            rcases oif h with ⟨h593, h⟩ | ⟨h593, h⟩
            · obtain ⟨u5e, h594, h⟩ := obind h
              refine Wc.draw hmix [{}, { r := some (.v (.bool ui.2) []), outs := [(0, .p (GL06Read.k2 ui.1) (GL06Read.h4_9f ui.1))] }, { re := some (.bool true) }, {}, {}, {}, {}, {}, {}, {}, {}, {}, { v := some (aI (ui.1.gList.length : Int)) }, {}, {}, { re := some (.bool true) }, {}, {}, {}, {}, {}, {}, {}, {}, {}, { v := some (.vptr (GSign.q u63)) }, {}, {}, {}, {}, { re := some (.bool true) }, {}, {}, {}, {}, {}, {}, {}, {}, {}, { v := some (.vptr (GSign.q u5e)) }] [] [0, 2, 48] [2, 1000000] [] ⟨[tP 0 1000000, tP 2 2, tB 48 (sEq u5e.gText (bs [41]))], [(2, .cells GTerm.z [(3, .app 41)]), (1000000, .cells (GL06Read.k2 ui.1) (GL06Read.h4_9f ui.1))], []⟩ _ (by kernel_rfl) (fun X => by kernel_rfl) (.cons (cspec_l06Read_is h589) (.cons (congrArg AV.bool h590) (.cons (len_obl GSign.c ui.1.gList) (.cons (congrArg AV.bool h591) (.cons (at_obl (c := GSign.c) (GSign.c_eq u63) GSign.c_len h592) (.cons (len_ok 1 (GSign.q u63)) (.cons (congrArg AV.bool h593) (.cons (at_obl (c := GSign.c) (GSign.c_eq u5e) GSign.c_len h594) (.cons (len_ok 1 [.str u5e.gText, aI u5e.gNum, aI u5e.gAt, .bool u5e.gNear]) .nil))))))))) ?_
              exact ⟨_, _, rfl, h⟩
            · refine Wc.draw hmix [{}, { r := some (.v (.bool ui.2) []), outs := [(0, .p (GL06Read.k2 ui.1) (GL06Read.h4_9f ui.1))] }, { re := some (.bool true) }, {}, {}, {}, {}, {}, {}, {}, {}, {}, { v := some (aI (ui.1.gList.length : Int)) }, {}, {}, { re := some (.bool true) }, {}, {}, {}, {}, {}, {}, {}, {}, {}, { v := some (.vptr (GSign.q u63)) }, {}, {}, {}, {}, { re := some (.bool false) }] [] [0, 2, 48] [2, 1000000] [] ⟨[tP 0 1000000, tP 2 2, tB 48 false], [(2, .cells GTerm.z [(3, .app 41)]), (1000000, .cells (GL06Read.k2 ui.1) (GL06Read.h4_9f ui.1))], []⟩ _ (by kernel_rfl) (fun X => by kernel_rfl) (.cons (cspec_l06Read_is h589) (.cons (congrArg AV.bool h590) (.cons (len_obl GSign.c ui.1.gList) (.cons (congrArg AV.bool h591) (.cons (at_obl (c := GSign.c) (GSign.c_eq u63) GSign.c_len h592) (.cons (len_ok 1 (GSign.q u63)) (.cons (congrArg AV.bool h593) .nil))))))) ?_
              exact ⟨_, _, rfl, h⟩
          · refine Wc.draw hmix [{}, { r := some (.v (.bool ui.2) []), outs := [(0, .p (GL06Read.k2 ui.1) (GL06Read.h4_9f ui.1))] }, { re := some (.bool true) }, {}, {}, {}, {}, {}, {}, {}, {}, {}, { v := some (aI (ui.1.gList.length : Int)) }, {}, {}, { re := some (.bool false) }] [] [0, 2, 48] [2, 1000000] [] ⟨[tP 0 1000000, tP 2 2, tB 48 false], [(2, .cells GTerm.z [(3, .app 41)]), (1000000, .cells (GL06Read.k2 ui.1) (GL06Read.h4_9f ui.1))], []⟩ _ (by kernel_rfl) (fun X => by kernel_rfl) (.cons (cspec_l06Read_is h589) (.cons (congrArg AV.bool h590) (.cons (len_obl GSign.c ui.1.gList) (.cons (congrArg AV.bool h591) .nil)))) ?_
            exact ⟨_, _, rfl, h⟩
        · refine Wc.draw hmix [{}, { r := some (.v (.bool ui.2) []), outs := [(0, .p (GL06Read.k2 ui.1) (GL06Read.h4_9f ui.1))] }, { re := some (.bool false) }] [] [0, 2, 48] [2, 1000000] [] ⟨[tP 0 1000000, tP 2 2, tB 48 false], [(2, .cells GTerm.z [(3, .app 41)]), (1000000, .cells (GL06Read.k2 ui.1) (GL06Read.h4_9f ui.1))], []⟩ _ (by kernel_rfl) (fun X => by kernel_rfl) (.cons (cspec_l06Read_is h589) (.cons (congrArg AV.bool h590) .nil)) ?_
          exact ⟨_, _, rfl, h⟩
      · rintro st ⟨uah, vi, rfl, h⟩
        rcases oif h with ⟨h584, h⟩ | ⟨h584, h⟩
        · refine Wc.cT h584 ?_
          apply Wc.seq
          refine Wc.r0 ⟨[tP 0 1000000, tP 2 2], [(2, .cells GTerm.z [(3, .app 41)]), (1000000, .cells [.sl (List.map GSign.c vi.gList), aI (wr.i64 (vi.gAt + 2)), .bool vi.gBad, aI vi.gDeep, .slx] (GL06Read.h4_9f vi))], []⟩ ?_
          apply Wc.seq
          obtain ⟨u61, h585, h⟩ := obind h
          obtain ⟨uai, h586, h⟩ := obind h
          refine Wc.draw hmix [{}, {}, {}, {}, {}, {}, {}, {}, {}, { v := some (.vptr (GSign.q u61)) }, {}, {}, { r := some (.v (.agg (GTerm.q uai)) [(3, .app 41)]) }, { tk := [69] }] [] [2] [2, 1000000] [] ⟨[tP 2 2], [(2, .cells (GTerm.q uai) [(3, .app 41)]), (1000000, .cells [.sl (List.map GSign.c vi.gList), aI (wr.i64 (vi.gAt + 2)), .bool vi.gBad, aI vi.gDeep, .slx] (GL06Read.h4_9f vi))], []⟩ _ (by kernel_rfl) (fun X => by kernel_rfl) (.cons (at_obl (c := GSign.c) (GSign.c_eq u61) GSign.c_len h585) (.cons (len_ok 1 [.str u61.gText, aI u61.gNum, aI u61.gAt, .bool u61.gNear]) (.cons (cspec_l03Atom h586) .nil))) ?_
          refine Wc.fx [.un (.b 2 3)] ⟨[tP 2 2], [bC 2 (GTerm.q uai), (1000000, .cells [.sl (List.map GSign.c vi.gList), aI (wr.i64 (vi.gAt + 2)), .bool vi.gBad, aI vi.gDeep, .slx] (GL06Read.h4_9f vi))], []⟩ ?_
          obtain rfl := Option.some.inj h; exact Wc.ret dn
        · refine Wc.cF h584 ?_
          refine Wc.fx [] ⟨[tP 0 1000000, tP 2 2], [(2, .cells GTerm.z [(3, .app 41)]), (1000000, .cells (GL06Read.k2 vi) (GL06Read.h4_9f vi))], []⟩ ?_
          refine Wc.skip ?_
          apply Wc.seq
          obtain ⟨u21, h587, h⟩ := obind h
          refine Wc.r2 [{}, { r := some (.v (.agg (GTerm.q u21.2)) []), outs := [(0, .p (GL06Read.k2 u21.1) (GL06Read.h4_9f u21.1))] }] ⟨[tP 0 1000000, tP 2 2, tP 3 3], [(2, .cells GTerm.z [(3, .app 41)]), bC 3 (GTerm.q u21.2), (1000000, .cells (GL06Read.k2 u21.1) (GL06Read.h4_9f u21.1))], []⟩ (.cons (ih_pspec_l06Read_term h587) .nil) ?_
          apply Wc.seq
          obtain ⟨u22, h588, h⟩ := obind h
          refine Wc.r2 [{}, { r := some (.v (.tup []) []), outs := [(0, .p (GL06Read.k2 u22) (GL06Read.h4_9f u22))] }] ⟨[tP 2 2, tP 3 3], [(2, .cells GTerm.z [(3, .app 41)]), bC 3 (GTerm.q u21.2), (1000000, .cells (GL06Read.k2 u22) (GL06Read.h4_9f u22))], []⟩ (.cons (cspec_l06Read_wants h588) .nil) ?_
          apply Wc.seq
          refine Wc.r0 ⟨[tP 2 2], [bC 2 (GTerm.q u21.2), (1000000, .cells (GL06Read.k2 u22) (GL06Read.h4_9f u22))], []⟩ ?_
          obtain rfl := Option.some.inj h; exact Wc.ret dn
    · intro u0l r h
      rw [pspec_l06Read_row] at h
      refine FnO.o2 Try.func190 (rfl : Try.f190.body = some _) ?_
      intro w0 X0 Fin pv0 pb
      apply Wc.seq
      refine Wc.r0 ⟨[tP 0 1000000, tP 2 2], [(2, .cells GTerm.z [(3, .app 41)]), (1000000, .cells (GL06Read.k2 u0l) (GL06Read.h4_9f u0l))], []⟩ ?_
      apply Wc.seq
      apply Wc.seq
      obtain ⟨v9, h595, h⟩ := obind h
      refine Wc.r2 [{}, { r := some (.v (.bool v9.2) []), outs := [(0, .p (GL06Read.k2 v9.1) (GL06Read.h4_9f v9.1))] }] ⟨[tP 0 1000000, tP 2 2, tB 7 v9.2], [(2, .cells GTerm.z [(3, .app 41)]), (1000000, .cells (GL06Read.k2 v9.1) (GL06Read.h4_9f v9.1))], []⟩ (.cons (cspec_l06Read_mark h595) .nil) ?_
      rcases oif h with ⟨h596, h⟩ | ⟨h596, h⟩
      · refine Wc.cT h596 ?_
        apply Wc.seq
        obtain ⟨uao, h597, h⟩ := obind h
        refine Wc.r2 [{ r := some (.v (.agg (GTerm.q uao)) [(3, .app 41)]) }, { tk := [8] }] ⟨[tP 2 2], [(2, .cells (GTerm.q uao) [(3, .app 41)]), (1000000, .cells (GL06Read.k2 v9.1) (GL06Read.h4_9f v9.1))], []⟩ (.cons (cspec_l03Atom h597) .nil) ?_
        refine Wc.fx [.un (.b 2 3)] ⟨[tP 2 2], [bC 2 (GTerm.q uao), (1000000, .cells (GL06Read.k2 v9.1) (GL06Read.h4_9f v9.1))], []⟩ ?_
        obtain rfl := Option.some.inj h; exact Wc.ret dn
      · refine Wc.cF h596 ?_
        refine Wc.fx [] ⟨[tP 0 1000000, tP 2 2], [(2, .cells GTerm.z [(3, .app 41)]), (1000000, .cells (GL06Read.k2 v9.1) (GL06Read.h4_9f v9.1))], []⟩ ?_
        refine Wc.skip ?_
        apply Wc.seq
        refine Wc.r2 [{ c := some (List.map GTerm.c []) }, { tk := [9] }] ⟨[tP 0 1000000, tP 2 2, (3, (.v (.sl (List.map GTerm.c [])), [(0, .app 41)]))], [(2, .cells GTerm.z [(3, .app 41)]), (1000000, .cells (GL06Read.k2 v9.1) (GL06Read.h4_9f v9.1))], []⟩ (.cons (cl_nil GTerm.c) .nil) ?_
        apply Wc.seq
        obtain ⟨u18, h598, h⟩ := obind h
        refine Wc.r2 [{ r := some (.v (.agg (GTerm.q u18)) [(3, .app 41)]) }, {}, { tk := [10] }] ⟨[tP 0 1000000, tP 2 2, (3, (.v (.sl (List.map GTerm.c [])), [(0, .app 41)])), tP 4 4], [(2, .cells GTerm.z [(3, .app 41)]), (4, .cells (GTerm.q u18) [(3, .app 41)]), (1000000, .cells (GL06Read.k2 v9.1) (GL06Read.h4_9f v9.1))], []⟩ (.cons (cspec_l03Atom h598) .nil) ?_
        obtain ⟨out1, h599, h⟩ := obind h
        refine Wc.seqJ (fun st => ∃ (u1h : List GTerm) (u82 : GTerm) (uq : GL06Read), out1 = .done (u1h, u82, uq) ∧ st = ⟨[tP 2 2, (3, (.v (.sl (List.map GTerm.c u1h)), [(0, .app 41)])), tP 4 4], [(2, .cells GTerm.z [(3, .app 41)]), bC 4 (GTerm.q u82), (1000000, .cells (GL06Read.k2 uq) (GL06Read.h4_9f uq))], []⟩) ?_ ?_
        · refine Wc.block ?_
          refine Wc.loop (fun m st => ∃ (u06 : List GTerm) (zh : GL06Read), st = ⟨[tP 0 1000000, tP 2 2, (3, (.v (.sl (List.map GTerm.c u06)), [(0, .app 41)])), tP 4 4], [(2, .cells GTerm.z [(3, .app 41)]), (4, .cells (GTerm.q u18) [(3, .app 41)]), (1000000, .cells (GL06Read.k2 zh) (GL06Read.h4_9f zh))], []⟩ ∧ pspec_l06Read_row_L1 k (pspec_l06Read_atom k) (pspec_l06Read_primary k) (pspec_l06Read_round k) (pspec_l06Read_row k) (pspec_l06Read_some k) (pspec_l06Read_term k) u18 m u06 zh = some out1) ?_ k ⟨_, _, rfl, h599⟩
          rintro m st ⟨u06, zh, rfl, h599⟩
          cases m with
          | zero => exact (onone h599).elim
          | succ m =>
            apply Wc.seq
            apply Wc.seq
            refine Wc.r0 ⟨[tP 0 1000000, tP 2 2, (3, (.v (.sl (List.map GTerm.c u06)), [(0, .app 41)])), tP 4 4, tB 15 (!zh.gBad)], [(2, .cells GTerm.z [(3, .app 41)]), (4, .cells (GTerm.q u18) [(3, .app 41)]), (1000000, .cells (GL06Read.k2 zh) (GL06Read.h4_9f zh))], []⟩ ?_
            rcases oif h599 with ⟨h600, h599⟩ | ⟨h600, h599⟩
            · refine Wc.cT h600 ?_
              refine Wc.fx [] ⟨[tP 0 1000000, tP 2 2, (3, (.v (.sl (List.map GTerm.c u06)), [(0, .app 41)])), tP 4 4], [(2, .cells GTerm.z [(3, .app 41)]), (4, .cells (GTerm.q u18) [(3, .app 41)]), (1000000, .cells (GL06Read.k2 zh) (GL06Read.h4_9f zh))], []⟩ ?_
              refine Wc.skip ?_
              refine Wc.block ?_
              apply Wc.seq
              obtain ⟨vp, h601, h599⟩ := obind h599
              obtain ⟨h602, h599⟩ := oguard h599
              refine Wc.r2 [{ tk := [3] }, {}, { r := some (.v (.agg (GTerm.q vp.2)) []), outs := [(0, .p (GL06Read.k2 vp.1) (GL06Read.h4_9f vp.1))] }, { c := some (List.map GTerm.c [vp.2]) }, { c := some (List.map GTerm.c (u06 ++ [vp.2])), tk := [16] }, { tk := [20] }] ⟨[tP 0 1000000, tP 2 2, (3, (.v (.sl (List.map GTerm.c (u06 ++ [vp.2]))), [(0, .app 41)])), tP 4 4], [(2, .cells GTerm.z [(3, .app 41)]), (4, .cells (GTerm.q u18) [(3, .app 41)]), (1000000, .cells (GL06Read.k2 vp.1) (GL06Read.h4_9f vp.1))], []⟩ (.cons (ih_pspec_l06Read_term h601) (.cons (cl_cons (c := GTerm.c) (x := vp.2) (GTerm.c_eq vp.2) (cl_nil GTerm.c)) (.cons (app_re2 GTerm.c u06 [vp.2]) (.cons (app_leaf (c := GTerm.c) (ys := [vp.2]) GTerm.c_leaf) (.cons (app_obl2 (c := GTerm.c) (xs := u06) (ys := [vp.2]) GTerm.c_len h602) .nil))))) ?_
              apply Wc.seq
              apply Wc.seq
              obtain ⟨zp, h603, h599⟩ := obind h599
              refine Wc.r2 [{}, { r := some (.v (.bool zp.2) []), outs := [(0, .p (GL06Read.k2 zp.1) (GL06Read.h4_9f zp.1))] }] ⟨[tP 0 1000000, tP 2 2, (3, (.v (.sl (List.map GTerm.c (u06 ++ [vp.2]))), [(0, .app 41)])), tP 4 4, tB 22 zp.2], [(2, .cells GTerm.z [(3, .app 41)]), (4, .cells (GTerm.q u18) [(3, .app 41)]), (1000000, .cells (GL06Read.k2 zp.1) (GL06Read.h4_9f zp.1))], []⟩ (.cons (cspec_l06Read_mark h603) .nil) ?_
              rcases oif h599 with ⟨h604, h599⟩ | ⟨h604, h599⟩
              · refine Wc.cT h604 ?_
                refine Wc.fx [.un (.b 4 3)] ⟨[tP 2 2, (3, (.v (.sl (List.map GTerm.c (u06 ++ [vp.2]))), [(0, .app 41)])), tP 4 4], [(2, .cells GTerm.z [(3, .app 41)]), bC 4 (GTerm.q u18), (1000000, .cells (GL06Read.k2 zp.1) (GL06Read.h4_9f zp.1))], []⟩ ?_
                refine Wc.exit ?_
                obtain rfl := Option.some.inj h599
                exact ⟨_, _, _, rfl, rfl⟩
              · refine Wc.cF h604 ?_
                refine Wc.fx [] ⟨[tP 0 1000000, tP 2 2, (3, (.v (.sl (List.map GTerm.c (u06 ++ [vp.2]))), [(0, .app 41)])), tP 4 4], [(2, .cells GTerm.z [(3, .app 41)]), (4, .cells (GTerm.q u18) [(3, .app 41)]), (1000000, .cells (GL06Read.k2 zp.1) (GL06Read.h4_9f zp.1))], []⟩ ?_
                refine Wc.skip ?_
                apply Wc.seq
                apply Wc.seq
                obtain ⟨u0t, h605, h599⟩ := obind h599
                refine Wc.r2 [{}, { r := some (.v (.bool u0t.2) []), outs := [(0, .p (GL06Read.k2 u0t.1) (GL06Read.h4_9f u0t.1))] }] ⟨[tP 0 1000000, tP 2 2, (3, (.v (.sl (List.map GTerm.c (u06 ++ [vp.2]))), [(0, .app 41)])), tP 4 4, tB 24 u0t.2], [(2, .cells GTerm.z [(3, .app 41)]), (4, .cells (GTerm.q u18) [(3, .app 41)]), (1000000, .cells (GL06Read.k2 u0t.1) (GL06Read.h4_9f u0t.1))], []⟩ (.cons (cspec_l06Read_mark h605) .nil) ?_
                rcases oif h599 with ⟨h606, h599⟩ | ⟨h606, h599⟩
                · refine Wc.cT h606 ?_
                  apply Wc.seq
                  obtain ⟨u2g, h607, h599⟩ := obind h599
                  refine Wc.r2 [{}, { r := some (.v (.agg (GTerm.q u2g.2)) []), outs := [(0, .p (GL06Read.k2 u2g.1) (GL06Read.h4_9f u2g.1))] }] ⟨[tP 0 1000000, tP 2 2, (3, (.v (.sl (List.map GTerm.c (u06 ++ [vp.2]))), [(0, .app 41)])), tP 4 4], [(2, .cells GTerm.z [(3, .app 41)]), bC 4 (GTerm.q u2g.2), (1000000, .cells (GL06Read.k2 u2g.1) (GL06Read.h4_9f u2g.1))], []⟩ (.cons (ih_pspec_l06Read_term h607) .nil) ?_
                  apply Wc.seq
                  obtain ⟨u3u, h608, h599⟩ := obind h599
                  refine Wc.r2 [{}, { r := some (.v (.tup []) []), outs := [(0, .p (GL06Read.k2 u3u) (GL06Read.h4_9f u3u))] }] ⟨[tP 2 2, (3, (.v (.sl (List.map GTerm.c (u06 ++ [vp.2]))), [(0, .app 41)])), tP 4 4], [(2, .cells GTerm.z [(3, .app 41)]), bC 4 (GTerm.q u2g.2), (1000000, .cells (GL06Read.k2 u3u) (GL06Read.h4_9f u3u))], []⟩ (.cons (cspec_l06Read_wants h608) .nil) ?_
                  refine Wc.exit ?_
                  obtain rfl := Option.some.inj h599
                  exact ⟨_, _, _, rfl, rfl⟩
                · refine Wc.cF h606 ?_
                  refine Wc.fx [] ⟨[tP 0 1000000, tP 2 2, (3, (.v (.sl (List.map GTerm.c (u06 ++ [vp.2]))), [(0, .app 41)])), tP 4 4], [(2, .cells GTerm.z [(3, .app 41)]), (4, .cells (GTerm.q u18) [(3, .app 41)]), (1000000, .cells (GL06Read.k2 u0t.1) (GL06Read.h4_9f u0t.1))], []⟩ ?_
                  refine Wc.skip ?_
                  obtain ⟨u3v, h609, h599⟩ := obind h599
                  refine Wc.r2 [{}, { r := some (.v (.tup []) []), outs := [(0, .p (GL06Read.k2 u3v) (GL06Read.h4_9f u3v))] }] ⟨[tP 0 1000000, tP 2 2, (3, (.v (.sl (List.map GTerm.c (u06 ++ [vp.2]))), [(0, .app 41)])), tP 4 4], [(2, .cells GTerm.z [(3, .app 41)]), (4, .cells (GTerm.q u18) [(3, .app 41)]), (1000000, .cells (GL06Read.k2 u3v) (GL06Read.h4_9f u3v))], []⟩ (.cons (cspec_l06Read_wants h609) .nil) ?_
                  exact ⟨_, Nat.lt_succ_self _, _, _, rfl, h599⟩
            · refine Wc.cF h600 ?_
              refine Wc.fx [.un (.b 4 3)] ⟨[tP 2 2, (3, (.v (.sl (List.map GTerm.c u06)), [(0, .app 41)])), tP 4 4], [(2, .cells GTerm.z [(3, .app 41)]), bC 4 (GTerm.q u18), (1000000, .cells (GL06Read.k2 zh) (GL06Read.h4_9f zh))], []⟩ ?_
              refine Wc.exit ?_
              obtain rfl := Option.some.inj h599
              exact ⟨_, _, _, rfl, rfl⟩
        · rintro st ⟨u1h, u82, uq, rfl, rfl⟩
          apply Wc.seq
          apply Wc.seq
          refine Wc.r2 [{}, { v := some (aI (u1h.length : Int)) }] ⟨[tP 2 2, (3, (.v (.sl (List.map GTerm.c u1h)), [(0, .app 41)])), tP 4 4, tI 5 (wr.i64 ((u1h.length : Int) - 1))], [(2, .cells GTerm.z [(3, .app 41)]), bC 4 (GTerm.q u82), (1000000, .cells (GL06Read.k2 uq) (GL06Read.h4_9f uq))], []⟩ (.cons (len_obl GTerm.c u1h) .nil) ?_
          obtain ⟨out2, h610, h⟩ := obind h
          refine Wc.lastJ (fun st => ∃ (u83 : GTerm), out2 = .done u83 ∧ st = ⟨[tP 2 2, tP 4 4], [(2, .cells GTerm.z [(3, .app 41)]), bC 4 (GTerm.q u83), (1000000, .cells (GL06Read.k2 uq) (GL06Read.h4_9f uq))], []⟩) ?_ ?_
          · refine Wc.block ?_
            refine Wc.loop (fun m st => ∃ (u3w : Int) (u5c : GTerm), st = ⟨[tP 2 2, (3, (.v (.sl (List.map GTerm.c u1h)), [(0, .app 41)])), tP 4 4, tI 5 u3w], [(2, .cells GTerm.z [(3, .app 41)]), bC 4 (GTerm.q u5c), (1000000, .cells (GL06Read.k2 uq) (GL06Read.h4_9f uq))], []⟩ ∧ pspec_l06Read_row_L2 k (pspec_l06Read_atom k) (pspec_l06Read_primary k) (pspec_l06Read_round k) (pspec_l06Read_row k) (pspec_l06Read_some k) (pspec_l06Read_term k) u1h m u3w u5c = some out2) ?_ k ⟨_, _, rfl, h610⟩
            rintro m st ⟨u3w, u5c, rfl, h610⟩
            cases m with
            | zero => exact (onone h610).elim
            | succ m =>
              apply Wc.seq
              apply Wc.seq
              refine Wc.r0 ⟨[tP 2 2, (3, (.v (.sl (List.map GTerm.c u1h)), [(0, .app 41)])), tP 4 4, tI 5 u3w, tB 35 (decide (u3w ≥ 0))], [(2, .cells GTerm.z [(3, .app 41)]), bC 4 (GTerm.q u5c), (1000000, .cells (GL06Read.k2 uq) (GL06Read.h4_9f uq))], []⟩ ?_
              rcases oif h610 with ⟨h611, h610⟩ | ⟨h611, h610⟩
              · refine Wc.cT h611 ?_
                refine Wc.fx [] ⟨[tP 2 2, (3, (.v (.sl (List.map GTerm.c u1h)), [(0, .app 41)])), tP 4 4, tI 5 u3w], [(2, .cells GTerm.z [(3, .app 41)]), bC 4 (GTerm.q u5c), (1000000, .cells (GL06Read.k2 uq) (GL06Read.h4_9f uq))], []⟩ ?_
                refine Wc.skip ?_
                apply Wc.seq
                refine Wc.block ?_
                obtain ⟨uaj, h612, h610⟩ := obind h610
                obtain ⟨uak, h613, h610⟩ := obind h610
                refine Wc.draw hmix [{}, {}, { v := some (.vptr (GTerm.q uaj)) }, {}, {}, { r := some (.v (.agg (GTerm.q uak)) [(3, .app 41)]) }, { tk := [43] }] [] [2, 3, 4, 5] [2, 4, 1000000] [] ⟨[tP 2 2, (3, (.v (.sl (List.map GTerm.c u1h)), [(0, .app 41)])), tP 4 4, tI 5 u3w], [(2, .cells GTerm.z [(3, .app 41)]), (4, .cells (GTerm.q uak) [(3, .app 41)]), (1000000, .cells (GL06Read.k2 uq) (GL06Read.h4_9f uq))], []⟩ _ (by kernel_rfl) (fun X => by kernel_rfl) (.cons (at_obl (c := GTerm.c) (GTerm.c_eq uaj) GTerm.c_len h612) (.cons (len_ok 4 (GTerm.q uaj)) (.cons (cspec_l03Two h613) .nil))) ?_
                refine Wc.r3 [] [.un (.b 4 3)] ⟨[tP 2 2, (3, (.v (.sl (List.map GTerm.c u1h)), [(0, .app 41)])), tP 4 4, tI 5 (wr.i64 (u3w - 1))], [(2, .cells GTerm.z [(3, .app 41)]), bC 4 (GTerm.q uak), (1000000, .cells (GL06Read.k2 uq) (GL06Read.h4_9f uq))], []⟩ .nil ?_
                exact ⟨_, Nat.lt_succ_self _, _, _, rfl, h610⟩
              · refine Wc.cF h611 ?_
                refine Wc.fx [] ⟨[tP 2 2, tP 4 4], [(2, .cells GTerm.z [(3, .app 41)]), bC 4 (GTerm.q u5c), (1000000, .cells (GL06Read.k2 uq) (GL06Read.h4_9f uq))], []⟩ ?_
                refine Wc.exit ?_
                obtain rfl := Option.some.inj h610
                exact ⟨_, rfl, rfl⟩
          · rintro st ⟨u83, rfl, rfl⟩
            apply Wc.seq
            refine Wc.r0 ⟨[tP 2 2], [bC 2 (GTerm.q u83), (1000000, .cells (GL06Read.k2 uq) (GL06Read.h4_9f uq))], []⟩ ?_
            obtain rfl := Option.some.inj h; exact Wc.ret dn
    · intro zk u4e r h
      rw [pspec_l06Read_some] at h
      refine FnO.o2 Try.func196 (rfl : Try.f196.body = some _) ?_
      intro w0 X0 Fin pv0 pb
      apply Wc.seq
      refine Wc.r0 ⟨[tP 0 1000000, tS 1 u4e, tP 4 4], [(4, .cells GTerm.z [(3, .app 41)]), (1000000, .cells (GL06Read.k2 zk) (GL06Read.h4_9f zk))], []⟩ ?_
      apply Wc.seq
      refine Wc.r1 [{}, {}, {}, { tk := [8] }] ⟨[tP 0 1000000, tP 4 4, tP 5 5], [(4, .cells GTerm.z [(3, .app 41)]), (5, .cells [aI 4, .str u4e, aI 0, .sl (List.map GTerm.c [])] [(3, .app 41)]), (1000000, .cells (GL06Read.k2 zk) (GL06Read.h4_9f zk))], []⟩ ?_
      obtain ⟨out1, h614, h⟩ := obind h
      refine Wc.seqJ (fun st => ∃ (u84 : GTerm) (u37 : GL06Read), out1 = .done (u84, u37) ∧ st = ⟨[tP 4 4, tP 5 5], [(4, .cells GTerm.z [(3, .app 41)]), (5, .cells (GTerm.q u84) [(3, .app 41)]), (1000000, .cells (GL06Read.k2 u37) (GL06Read.h4_9f u37))], []⟩) ?_ ?_
      · refine Wc.block ?_
        refine Wc.loop (fun m st => ∃ (uu : GTerm) (zi : GL06Read), st = ⟨[tP 0 1000000, tP 4 4, tP 5 5], [(4, .cells GTerm.z [(3, .app 41)]), (5, .cells (GTerm.q uu) [(3, .app 41)]), (1000000, .cells (GL06Read.k2 zi) (GL06Read.h4_9f zi))], []⟩ ∧ pspec_l06Read_some_L1 k (pspec_l06Read_atom k) (pspec_l06Read_primary k) (pspec_l06Read_round k) (pspec_l06Read_row k) (pspec_l06Read_some k) (pspec_l06Read_term k) m uu zi = some out1) ?_ k ⟨_, _, rfl, h614⟩
        rintro m st ⟨uu, zi, rfl, h614⟩
        cases m with
        | zero => exact (onone h614).elim
        | succ m =>
          apply Wc.seq
          apply Wc.seq
          refine Wc.r0 ⟨[tP 0 1000000, tP 4 4, tP 5 5, tB 13 (!zi.gBad)], [(4, .cells GTerm.z [(3, .app 41)]), (5, .cells (GTerm.q uu) [(3, .app 41)]), (1000000, .cells (GL06Read.k2 zi) (GL06Read.h4_9f zi))], []⟩ ?_
          rcases oif h614 with ⟨h615, h614⟩ | ⟨h615, h614⟩
          · refine Wc.cT h615 ?_
            refine Wc.fx [] ⟨[tP 0 1000000, tP 4 4, tP 5 5], [(4, .cells GTerm.z [(3, .app 41)]), (5, .cells (GTerm.q uu) [(3, .app 41)]), (1000000, .cells (GL06Read.k2 zi) (GL06Read.h4_9f zi))], []⟩ ?_
            refine Wc.skip ?_
            refine Wc.block ?_
            apply Wc.seq
            obtain ⟨up, h616, h614⟩ := obind h614
            refine Wc.r2 [{}, { r := some (.v (.agg (GTerm.q up.2)) []), outs := [(0, .p (GL06Read.k2 up.1) (GL06Read.h4_9f up.1))] }] ⟨[tP 0 1000000, tP 4 4, tP 5 5, tP 6 6], [(4, .cells GTerm.z [(3, .app 41)]), (5, .cells (GTerm.q uu) [(3, .app 41)]), bC 6 (GTerm.q up.2), (1000000, .cells (GL06Read.k2 up.1) (GL06Read.h4_9f up.1))], []⟩ (.cons (ih_pspec_l06Read_term h616) .nil) ?_
            apply Wc.seq
            apply Wc.seq
            refine Wc.r2 [{}, {}, { v := some (aI (uu.gKids.length : Int)) }] ⟨[tP 0 1000000, tP 4 4, tP 5 5, tP 6 6, tB 19 (decide ((uu.gKids.length : Int) ≥ 5))], [(4, .cells GTerm.z [(3, .app 41)]), (5, .cells (GTerm.q uu) [(3, .app 41)]), bC 6 (GTerm.q up.2), (1000000, .cells (GL06Read.k2 up.1) (GL06Read.h4_9f up.1))], []⟩ (.cons (len_obl GTerm.c uu.gKids) .nil) ?_
            rcases oif h614 with ⟨h617, h614⟩ | ⟨h617, h614⟩
            · refine Wc.cT h617 ?_
              apply Wc.seq
              refine Wc.r0 ⟨[tP 4 4, tP 5 5], [(4, .cells GTerm.z [(3, .app 41)]), (5, .cells (GTerm.q uu) [(3, .app 41)]), (1000000, .cells [.sl (List.map GSign.c up.1.gList), aI up.1.gAt, .bool true, aI up.1.gDeep, .slx] (GL06Read.h4_9f up.1))], []⟩ ?_
              refine Wc.exit ?_
              obtain rfl := Option.some.inj h614
              exact ⟨_, _, rfl, rfl⟩
            · refine Wc.cF h617 ?_
              refine Wc.fx [] ⟨[tP 0 1000000, tP 4 4, tP 5 5, tP 6 6], [(4, .cells GTerm.z [(3, .app 41)]), (5, .cells (GTerm.q uu) [(3, .app 41)]), bC 6 (GTerm.q up.2), (1000000, .cells (GL06Read.k2 up.1) (GL06Read.h4_9f up.1))], []⟩ ?_
              refine Wc.skip ?_
              apply Wc.seq
              obtain ⟨h618, h614⟩ := oguard h614
              refine Wc.r2 [{}, { md := 1 }, {}, { c := some (List.map GTerm.c [up.2]) }, { c := some (List.map GTerm.c (uu.gKids ++ [up.2])), tk := [24] }, {}, { tk := [27] }] ⟨[tP 0 1000000, tP 4 4, tP 5 5], [(4, .cells GTerm.z [(3, .app 41)]), (5, .cells [aI uu.gKind, .str uu.gName, aI uu.gNum, .sl (List.map GTerm.c (uu.gKids ++ [up.2]))] [(3, .app 41)]), (1000000, .cells (GL06Read.k2 up.1) (GL06Read.h4_9f up.1))], []⟩ (.cons (cl_cons (c := GTerm.c) (x := up.2) (GTerm.c_eq up.2) (cl_nil GTerm.c)) (.cons (app_re2 GTerm.c uu.gKids [up.2]) (.cons (app_leaf (c := GTerm.c) (ys := [up.2]) GTerm.c_leaf) (.cons (app_obl2 (c := GTerm.c) (xs := uu.gKids) (ys := [up.2]) GTerm.c_len h618) .nil)))) ?_
              apply Wc.seq
              apply Wc.seq
              obtain ⟨zq, h619, h614⟩ := obind h614
              refine Wc.r2 [{}, { r := some (.v (.bool zq.2) []), outs := [(0, .p (GL06Read.k2 zq.1) (GL06Read.h4_9f zq.1))] }] ⟨[tP 0 1000000, tP 4 4, tP 5 5, tB 30 zq.2], [(4, .cells GTerm.z [(3, .app 41)]), (5, .cells [aI uu.gKind, .str uu.gName, aI uu.gNum, .sl (List.map GTerm.c (uu.gKids ++ [up.2]))] [(3, .app 41)]), (1000000, .cells (GL06Read.k2 zq.1) (GL06Read.h4_9f zq.1))], []⟩ (.cons (cspec_l06Read_mark h619) .nil) ?_
              rcases oif h614 with ⟨h620, h614⟩ | ⟨h620, h614⟩
              · refine Wc.cT h620 ?_
                refine Wc.fx [] ⟨[tP 4 4, tP 5 5], [(4, .cells GTerm.z [(3, .app 41)]), (5, .cells [aI uu.gKind, .str uu.gName, aI uu.gNum, .sl (List.map GTerm.c (uu.gKids ++ [up.2]))] [(3, .app 41)]), (1000000, .cells (GL06Read.k2 zq.1) (GL06Read.h4_9f zq.1))], []⟩ ?_
                refine Wc.exit ?_
                obtain rfl := Option.some.inj h614
                exact ⟨_, _, rfl, rfl⟩
              · refine Wc.cF h620 ?_
                refine Wc.fx [] ⟨[tP 0 1000000, tP 4 4, tP 5 5], [(4, .cells GTerm.z [(3, .app 41)]), (5, .cells [aI uu.gKind, .str uu.gName, aI uu.gNum, .sl (List.map GTerm.c (uu.gKids ++ [up.2]))] [(3, .app 41)]), (1000000, .cells (GL06Read.k2 zq.1) (GL06Read.h4_9f zq.1))], []⟩ ?_
                refine Wc.skip ?_
                obtain ⟨u3x, h621, h614⟩ := obind h614
                refine Wc.r2 [{}, { r := some (.v (.tup []) []), outs := [(0, .p (GL06Read.k2 u3x) (GL06Read.h4_9f u3x))] }] ⟨[tP 0 1000000, tP 4 4, tP 5 5], [(4, .cells GTerm.z [(3, .app 41)]), (5, .cells [aI uu.gKind, .str uu.gName, aI uu.gNum, .sl (List.map GTerm.c (uu.gKids ++ [up.2]))] [(3, .app 41)]), (1000000, .cells (GL06Read.k2 u3x) (GL06Read.h4_9f u3x))], []⟩ (.cons (cspec_l06Read_wants h621) .nil) ?_
                exact ⟨_, Nat.lt_succ_self _, _, _, rfl, h614⟩
          · refine Wc.cF h615 ?_
            refine Wc.fx [] ⟨[tP 4 4, tP 5 5], [(4, .cells GTerm.z [(3, .app 41)]), (5, .cells (GTerm.q uu) [(3, .app 41)]), (1000000, .cells (GL06Read.k2 zi) (GL06Read.h4_9f zi))], []⟩ ?_
            refine Wc.exit ?_
            obtain rfl := Option.some.inj h614
            exact ⟨_, _, rfl, rfl⟩
      · rintro st ⟨u84, u37, rfl, rfl⟩
        apply Wc.seq
        refine Wc.r1 [{ md := 1 }, { tk := [33] }] ⟨[tP 4 4], [(4, .cells (GTerm.q u84) [(3, .app 41)]), (1000000, .cells (GL06Read.k2 u37) (GL06Read.h4_9f u37))], []⟩ ?_
        obtain rfl := Option.some.inj h; exact Wc.ret dn
    · intro uf vf r h
      rw [pspec_l06Read_term] at h
      refine FnO.o2 Try.func164 (rfl : Try.f164.body = some _) ?_
      intro w0 X0 Fin pv0 pb
      apply Wc.seq
      refine Wc.r0 ⟨[tP 0 1000000, tI 1 vf, tP 4 4], [(4, .cells GTerm.z [(3, .app 41)]), (1000000, .cells (GL06Read.k2 uf) (GL06Read.h4_9f uf))], []⟩ ?_
      apply Wc.seq
      refine Wc.r0 ⟨[tP 0 1000000, tI 1 vf, tP 4 4], [(4, .cells GTerm.z [(3, .app 41)]), (1000000, .cells [.sl (List.map GSign.c uf.gList), aI uf.gAt, .bool uf.gBad, aI (wr.i64 (uf.gDeep + 1)), .slx] (GL06Read.h4_9f uf))], []⟩ ?_
      apply Wc.seq
      refine Wc.seqJ (fun st => ∃ (uam : Bool), st = ⟨[tP 0 1000000, tI 1 vf, tP 4 4, tB 28 uam], [(4, .cells GTerm.z [(3, .app 41)]), (1000000, .cells [.sl (List.map GSign.c uf.gList), aI uf.gAt, .bool uf.gBad, aI (wr.i64 (uf.gDeep + 1)), .slx] (GL06Read.h4_9f uf))], []⟩ ∧ pspec_l06Read_term_J1 k (pspec_l06Read_atom k) (pspec_l06Read_primary k) (pspec_l06Read_round k) (pspec_l06Read_row k) (pspec_l06Read_some k) (pspec_l06Read_term k) uf vf uam = some r) ?_ ?_
      · rcases oif h with ⟨h632, h⟩ | ⟨h632, h⟩
        · refine Wc.r2 [{}, {}, {}, {}, { re := some (.bool true) }] ⟨[tP 0 1000000, tI 1 vf, tP 4 4, tB 28 true], [(4, .cells GTerm.z [(3, .app 41)]), (1000000, .cells [.sl (List.map GSign.c uf.gList), aI uf.gAt, .bool uf.gBad, aI (wr.i64 (uf.gDeep + 1)), .slx] (GL06Read.h4_9f uf))], []⟩ (.cons (congrArg AV.bool h632) .nil) ?_
          exact ⟨_, rfl, h⟩
        · refine Wc.r2 [{}, {}, {}, {}, { re := some (.bool false) }] ⟨[tP 0 1000000, tI 1 vf, tP 4 4, tB 28 (decide ((wr.i64 (uf.gDeep + 1)) > 130))], [(4, .cells GTerm.z [(3, .app 41)]), (1000000, .cells [.sl (List.map GSign.c uf.gList), aI uf.gAt, .bool uf.gBad, aI (wr.i64 (uf.gDeep + 1)), .slx] (GL06Read.h4_9f uf))], []⟩ (.cons (congrArg AV.bool h632) .nil) ?_
          exact ⟨_, rfl, h⟩
      · rintro st ⟨uam, rfl, h⟩
        rcases oif h with ⟨h622, h⟩ | ⟨h622, h⟩
        · refine Wc.cT h622 ?_
          apply Wc.seq
          refine Wc.r0 ⟨[tP 4 4], [(4, .cells GTerm.z [(3, .app 41)]), (1000000, .cells [.sl (List.map GSign.c uf.gList), aI uf.gAt, .bool true, aI (wr.i64 (uf.gDeep + 1)), .slx] (GL06Read.h4_9f uf))], []⟩ ?_
          apply Wc.seq
          refine Wc.r1 [{}, { tk := [32] }] ⟨[tP 4 4], [(4, .cells GTerm.z [(3, .app 41)]), (1000000, .cells [.sl (List.map GSign.c uf.gList), aI uf.gAt, .bool true, aI (wr.i64 (uf.gDeep + 1)), .slx] (GL06Read.h4_9f uf))], []⟩ ?_
          refine Wc.fx [.un (.b 4 3)] ⟨[tP 4 4], [bC 4 GTerm.z, (1000000, .cells [.sl (List.map GSign.c uf.gList), aI uf.gAt, .bool true, aI (wr.i64 (uf.gDeep + 1)), .slx] (GL06Read.h4_9f uf))], []⟩ ?_
          obtain rfl := Option.some.inj h; exact Wc.ret dn
        · refine Wc.cF h622 ?_
          refine Wc.fx [] ⟨[tP 0 1000000, tI 1 vf, tP 4 4], [(4, .cells GTerm.z [(3, .app 41)]), (1000000, .cells [.sl (List.map GSign.c uf.gList), aI uf.gAt, .bool uf.gBad, aI (wr.i64 (uf.gDeep + 1)), .slx] (GL06Read.h4_9f uf))], []⟩ ?_
          refine Wc.skip ?_
          apply Wc.seq
          obtain ⟨u1s, h623, h⟩ := obind h
          refine Wc.r2 [{}, {}, { r := some (.v (.tup [.agg (GTerm.q u1s.2.1), aI u1s.2.2]) []), outs := [(0, .p (GL06Read.k2 u1s.1) (GL06Read.h4_9f u1s.1))] }] ⟨[tP 0 1000000, tI 1 vf, tP 4 4, tP 5 5, tI 6 u1s.2.2], [(4, .cells GTerm.z [(3, .app 41)]), bC 5 (GTerm.q u1s.2.1), (1000000, .cells (GL06Read.k2 u1s.1) (GL06Read.h4_9f u1s.1))], []⟩ (.cons (ih_pspec_l06Read_primary h623) .nil) ?_
          obtain ⟨out2, h624, h⟩ := obind h
          refine Wc.seqJ (fun st => ∃ (u6q : GTerm) (u0a : GL06Read), out2 = .done (u6q, u0a) ∧ st = ⟨[tP 0 1000000, tP 4 4, tP 5 5], [(4, .cells GTerm.z [(3, .app 41)]), bC 5 (GTerm.q u6q), (1000000, .cells (GL06Read.k2 u0a) (GL06Read.h4_9f u0a))], []⟩) ?_ ?_
          · refine Wc.block ?_
            refine Wc.loop (fun m st => ∃ (u5d : Int) (u0i : GTerm) (zj : GL06Read), st = ⟨[tP 0 1000000, tI 1 vf, tP 4 4, tP 5 5, tI 6 u5d], [(4, .cells GTerm.z [(3, .app 41)]), bC 5 (GTerm.q u0i), (1000000, .cells (GL06Read.k2 zj) (GL06Read.h4_9f zj))], []⟩ ∧ pspec_l06Read_term_L2 k (pspec_l06Read_atom k) (pspec_l06Read_primary k) (pspec_l06Read_round k) (pspec_l06Read_row k) (pspec_l06Read_some k) (pspec_l06Read_term k) vf m u5d u0i zj = some out2) ?_ k ⟨_, _, _, rfl, h624⟩
            rintro m st ⟨u5d, u0i, zj, rfl, h624⟩
            cases m with
            | zero => exact (onone h624).elim
            | succ m =>
              apply Wc.seq
              apply Wc.seq
              refine Wc.r0 ⟨[tP 0 1000000, tI 1 vf, tP 4 4, tP 5 5, tI 6 u5d, tB 43 (!zj.gBad)], [(4, .cells GTerm.z [(3, .app 41)]), bC 5 (GTerm.q u0i), (1000000, .cells (GL06Read.k2 zj) (GL06Read.h4_9f zj))], []⟩ ?_
              rcases oif h624 with ⟨h625, h624⟩ | ⟨h625, h624⟩
              · refine Wc.cT h625 ?_
                refine Wc.fx [] ⟨[tP 0 1000000, tI 1 vf, tP 4 4, tP 5 5, tI 6 u5d], [(4, .cells GTerm.z [(3, .app 41)]), bC 5 (GTerm.q u0i), (1000000, .cells (GL06Read.k2 zj) (GL06Read.h4_9f zj))], []⟩ ?_
                refine Wc.skip ?_
                refine Wc.block ?_
                apply Wc.seq
                obtain ⟨ud, h626, h624⟩ := obind h624
                refine Wc.r2 [{}, { r := some (.v (.tup [.agg (GOp.q ud.2.1), .bool ud.2.2]) []), outs := [(0, .p (GL06Read.k2 ud.1) (GL06Read.h4_9f ud.1))] }] ⟨[tP 0 1000000, tI 1 vf, tP 4 4, tP 5 5, tI 6 u5d, tP 7 7, tB 8 ud.2.2], [(4, .cells GTerm.z [(3, .app 41)]), bC 5 (GTerm.q u0i), bC 7 (GOp.q ud.2.1), (1000000, .cells (GL06Read.k2 ud.1) (GL06Read.h4_9f ud.1))], []⟩ (.cons (cspec_l06Read_infix h626) .nil) ?_
                apply Wc.seq
                apply Wc.seq
                rcases oif h624 with ⟨h627, h624⟩ | ⟨h627, h624⟩
                · refine Wc.r2 [{}, {}, { re := some (.bool true) }] ⟨[tP 0 1000000, tI 1 vf, tP 4 4, tP 5 5, tP 7 7, tB 62 true], [(4, .cells GTerm.z [(3, .app 41)]), bC 5 (GTerm.q u0i), bC 7 (GOp.q ud.2.1), (1000000, .cells (GL06Read.k2 ud.1) (GL06Read.h4_9f ud.1))], []⟩ (.cons (congrArg AV.bool h627) .nil) ?_
                  refine Wc.cT rfl ?_
                  refine Wc.fx [] ⟨[tP 0 1000000, tP 4 4, tP 5 5], [(4, .cells GTerm.z [(3, .app 41)]), bC 5 (GTerm.q u0i), (1000000, .cells (GL06Read.k2 ud.1) (GL06Read.h4_9f ud.1))], []⟩ ?_
                  refine Wc.exit ?_
                  obtain rfl := Option.some.inj h624
                  exact ⟨_, _, rfl, rfl⟩
                · rcases oif h624 with ⟨h628, h624⟩ | ⟨h628, h624⟩
                  · refine Wc.r2 [{}, {}, { re := some (.bool false) }, {}, {}, {}, {}, {}, { re := some (.bool true) }] ⟨[tP 0 1000000, tI 1 vf, tP 4 4, tP 5 5, tP 7 7, tB 62 true], [(4, .cells GTerm.z [(3, .app 41)]), bC 5 (GTerm.q u0i), bC 7 (GOp.q ud.2.1), (1000000, .cells (GL06Read.k2 ud.1) (GL06Read.h4_9f ud.1))], []⟩ (.cons (congrArg AV.bool h627) (.cons (congrArg AV.bool h628) .nil)) ?_
                    refine Wc.cT rfl ?_
                    refine Wc.fx [] ⟨[tP 0 1000000, tP 4 4, tP 5 5], [(4, .cells GTerm.z [(3, .app 41)]), bC 5 (GTerm.q u0i), (1000000, .cells (GL06Read.k2 ud.1) (GL06Read.h4_9f ud.1))], []⟩ ?_
                    refine Wc.exit ?_
                    obtain rfl := Option.some.inj h624
                    exact ⟨_, _, rfl, rfl⟩
                  · refine Wc.r2 [{}, {}, { re := some (.bool false) }, {}, {}, {}, {}, {}, { re := some (.bool false) }] ⟨[tP 0 1000000, tI 1 vf, tP 4 4, tP 5 5, tP 7 7, tB 62 (decide (ud.2.1.gLeft < u5d))], [(4, .cells GTerm.z [(3, .app 41)]), bC 5 (GTerm.q u0i), bC 7 (GOp.q ud.2.1), (1000000, .cells (GL06Read.k2 ud.1) (GL06Read.h4_9f ud.1))], []⟩ (.cons (congrArg AV.bool h627) (.cons (congrArg AV.bool h628) .nil)) ?_
                    rcases oif h624 with ⟨h629, h624⟩ | ⟨h629, h624⟩
                    · refine Wc.cT h629 ?_
                      refine Wc.fx [] ⟨[tP 0 1000000, tP 4 4, tP 5 5], [(4, .cells GTerm.z [(3, .app 41)]), bC 5 (GTerm.q u0i), (1000000, .cells (GL06Read.k2 ud.1) (GL06Read.h4_9f ud.1))], []⟩ ?_
                      refine Wc.exit ?_
                      obtain rfl := Option.some.inj h624
                      exact ⟨_, _, rfl, rfl⟩
                    · refine Wc.cF h629 ?_
                      refine Wc.fx [] ⟨[tP 0 1000000, tI 1 vf, tP 4 4, tP 5 5, tP 7 7], [(4, .cells GTerm.z [(3, .app 41)]), bC 5 (GTerm.q u0i), bC 7 (GOp.q ud.2.1), (1000000, .cells (GL06Read.k2 ud.1) (GL06Read.h4_9f ud.1))], []⟩ ?_
                      refine Wc.skip ?_
                      apply Wc.seq
                      refine Wc.r0 ⟨[tP 0 1000000, tI 1 vf, tP 4 4, tP 5 5, tP 7 7], [(4, .cells GTerm.z [(3, .app 41)]), bC 5 (GTerm.q u0i), bC 7 (GOp.q ud.2.1), (1000000, .cells [.sl (List.map GSign.c ud.1.gList), aI (wr.i64 (ud.1.gAt + 1)), .bool ud.1.gBad, aI ud.1.gDeep, .slx] (GL06Read.h4_9f ud.1))], []⟩ ?_
                      apply Wc.seq
                      obtain ⟨zy, h630, h624⟩ := obind h624
                      refine Wc.r2 [{}, {}, {}, { r := some (.v (.agg (GTerm.q zy.2)) []), outs := [(0, .p (GL06Read.k2 zy.1) (GL06Read.h4_9f zy.1))] }] ⟨[tP 0 1000000, tI 1 vf, tP 4 4, tP 5 5, tP 7 7, tP 9 9], [(4, .cells GTerm.z [(3, .app 41)]), bC 5 (GTerm.q u0i), bC 7 (GOp.q ud.2.1), bC 9 (GTerm.q zy.2), (1000000, .cells (GL06Read.k2 zy.1) (GL06Read.h4_9f zy.1))], []⟩ (.cons (ih_pspec_l06Read_term h630) .nil) ?_
                      apply Wc.seq
                      obtain ⟨ual, h631, h624⟩ := obind h624
                      refine Wc.r2 [{}, {}, {}, {}, { r := some (.v (.agg (GTerm.q ual)) [(3, .app 41)]) }, { tk := [79] }] ⟨[tP 0 1000000, tI 1 vf, tP 4 4, tP 5 5, tP 7 7], [(4, .cells GTerm.z [(3, .app 41)]), (5, .cells (GTerm.q ual) [(3, .app 41)]), bC 7 (GOp.q ud.2.1), (1000000, .cells (GL06Read.k2 zy.1) (GL06Read.h4_9f zy.1))], []⟩ (.cons (cspec_l03Two h631) .nil) ?_
                      refine Wc.r3 [] [.un (.b 5 3)] ⟨[tP 0 1000000, tI 1 vf, tP 4 4, tP 5 5, tI 6 ud.2.1.gPrio], [(4, .cells GTerm.z [(3, .app 41)]), bC 5 (GTerm.q ual), (1000000, .cells (GL06Read.k2 zy.1) (GL06Read.h4_9f zy.1))], []⟩ .nil ?_
                      exact ⟨_, Nat.lt_succ_self _, _, _, _, rfl, h624⟩
              · refine Wc.cF h625 ?_
                refine Wc.fx [] ⟨[tP 0 1000000, tP 4 4, tP 5 5], [(4, .cells GTerm.z [(3, .app 41)]), bC 5 (GTerm.q u0i), (1000000, .cells (GL06Read.k2 zj) (GL06Read.h4_9f zj))], []⟩ ?_
                refine Wc.exit ?_
                obtain rfl := Option.some.inj h624
                exact ⟨_, _, rfl, rfl⟩
          · rintro st ⟨u6q, u0a, rfl, rfl⟩
            apply Wc.seq
            refine Wc.r0 ⟨[tP 4 4, tP 5 5], [(4, .cells GTerm.z [(3, .app 41)]), bC 5 (GTerm.q u6q), (1000000, .cells [.sl (List.map GSign.c u0a.gList), aI u0a.gAt, .bool u0a.gBad, aI (wr.i64 (u0a.gDeep - 1)), .slx] (GL06Read.h4_9f u0a))], []⟩ ?_
            apply Wc.seq
            refine Wc.r0 ⟨[tP 4 4], [bC 4 (GTerm.q u6q), (1000000, .cells [.sl (List.map GSign.c u0a.gList), aI u0a.gAt, .bool u0a.gBad, aI (wr.i64 (u0a.gDeep - 1)), .slx] (GL06Read.h4_9f u0a))], []⟩ ?_
            obtain rfl := Option.some.inj h; exact Wc.ret dn
theorem cspec_l06Read_term {k : Nat} {uf : GL06Read} {vf : Int} {r : GL06Read × GTerm} (h : pspec_l06Read_term k uf vf = some r) : FnO Try.prog 164 [.p (GL06Read.k2 uf) (GL06Read.h4_9f uf), .v (aI vf) []] (.v (.agg (GTerm.q r.2)) []) [(0, .p (GL06Read.k2 r.1) (GL06Read.h4_9f r.1))] := (all_pspec_l06Read_atom k).2.2.2.2.2 h

def pspec_ReadSigns_J1 (k : Nat) (u19 : Int) (zz : GL06Read × GTerm) (uap : Bool) (u0m : GL06Read) : Option (GTerm × (List ByteArray) × Int × Bool) :=
  if uap = true then
    some (GTerm.mk 0 (bs []) 0 [], [], u19, false)
  else
    if ([] : List ByteArray).length + u0m.gNames.length ≤ 1073741824 then
      some (zz.2, u0m.gNames, wr.i64 (u0m.gAt + 1), true)
    else none
def pspec_ReadSigns (k : Nat) (u3i : List GSign) (u4f : Int) : Option (GTerm × (List ByteArray) × Int × Bool) :=
  (pspec_l06Behind k u3i u4f).bind fun u19 =>
  (pspec_l01In k u4f 0 (wr.i64 ((u3i.length : Int) - 1))).bind fun ucw =>
  if (!ucw) = true then
    some (GTerm.mk 0 (bs []) 0 [], [], u19, false)
  else
    (pspec_l06Read_term k (GL06Read.mk u3i u4f false 0 []) 1200).bind fun zz =>
    (pspec_l06Read_is k zz.1 5 (bs [])).bind fun zr =>
    if (!zr.2) = true then
      pspec_ReadSigns_J1 k u19 zz true zr.1
    else
      (pspec_TermOk k zz.2).bind fun ucx =>
      pspec_ReadSigns_J1 k u19 zz (!ucx) zr.1
theorem cspec_ReadSigns {k : Nat} {u3i : List GSign} {u4f : Int} {r : GTerm × (List ByteArray) × Int × Bool} (h : pspec_ReadSigns k u3i u4f = some r) : FnO Try.prog 137 [.v (.sl (List.map GSign.c u3i)) [], .v (aI u4f) []] (.v (.tup [.agg (GTerm.q r.1), .sl (List.map cS r.2.1), aI r.2.2.1, .bool r.2.2.2]) [(4, .app 9)]) [] := by
  refine FnO.o2 Try.func137 (rfl : Try.f137.body = some _) ?_
  intro w0 X0 Fin pv0 pb
  unfold pspec_ReadSigns at h
  apply Wc.seq
  refine Wc.r0 ⟨[tV 0 (.sl (List.map GSign.c u3i)), tI 1 u4f, tP 4 4], [(4, .cells GTerm.z [(3, .app 41)])], []⟩ ?_
  apply Wc.seq
  obtain ⟨u19, h642, h⟩ := obind h
  refine Wc.r2 [{}, {}, { r := some (.v (aI u19) []) }] ⟨[tV 0 (.sl (List.map GSign.c u3i)), tI 1 u4f, tP 4 4, tI 8 u19], [(4, .cells GTerm.z [(3, .app 41)])], []⟩ (.cons (cspec_l06Behind h642) .nil) ?_
  apply Wc.seq
  apply Wc.seq
  obtain ⟨ucw, h643, h⟩ := obind h
  refine Wc.r2 [{}, {}, { v := some (aI (u3i.length : Int)) }, {}, { r := some (.v (.bool ucw) []) }] ⟨[tV 0 (.sl (List.map GSign.c u3i)), tI 1 u4f, tP 4 4, tI 8 u19, tB 19 (!ucw)], [(4, .cells GTerm.z [(3, .app 41)])], []⟩ (.cons (len_obl GSign.c u3i) (.cons (cspec_l01In h643) .nil)) ?_
  rcases oif h with ⟨h644, h⟩ | ⟨h644, h⟩
  · refine Wc.cT h644 ?_
    apply Wc.seq
    refine Wc.r2 [{}, { c := some (List.map cS []) }, {}, { tk := [20] }, { tk := [21] }] ⟨[tP 4 4, (5, (.v (.sl (List.map cS [])), [(0, .app 9)])), tI 6 u19, tB 7 false], [(4, .cells GTerm.z [(3, .app 41)])], []⟩ (.cons (cl_nil cS) .nil) ?_
    refine Wc.fx [.un (.b 4 3)] ⟨[tP 4 4, (5, (.v (.sl (List.map cS [])), [(0, .app 9)])), tI 6 u19, tB 7 false], [bC 4 GTerm.z], []⟩ ?_
    obtain rfl := Option.some.inj h; exact Wc.ret dn
  · refine Wc.cF h644 ?_
    refine Wc.fx [] ⟨[tV 0 (.sl (List.map GSign.c u3i)), tI 1 u4f, tP 4 4, tI 8 u19], [(4, .cells GTerm.z [(3, .app 41)])], []⟩ ?_
    refine Wc.skip ?_
    apply Wc.seq
    refine Wc.r1 [{}, {}, {}, { tk := [25] }] ⟨[tP 4 4, tI 8 u19, tP 9 26], [(4, .cells GTerm.z [(3, .app 41)]), (26, .cells [.sl (List.map GSign.c u3i), aI u4f, .bool false, aI 0, .sl (List.map cS [])] [(4, .app 9)])], []⟩ ?_
    apply Wc.seq
    obtain ⟨zz, h645, h⟩ := obind h
    refine Wc.r2 [{}, { r := some (.v (.agg (GTerm.q zz.2)) []), outs := [(0, .p (GL06Read.k2 zz.1) (GL06Read.h4_9f zz.1))], fx := [.ow (.b 26 4) false] }] ⟨[tP 4 4, tI 8 u19, tP 9 26, tP 10 10], [(4, .cells GTerm.z [(3, .app 41)]), bC 10 (GTerm.q zz.2), (26, .cells (GL06Read.k2 zz.1) (GL06Read.h4_9f zz.1))], []⟩ (.cons (cspec_l06Read_term h645) .nil) ?_
    apply Wc.seq
    refine Wc.seqJ (fun st => ∃ (uap : Bool) (u0m : GL06Read), st = ⟨[tP 4 4, tI 8 u19, tP 9 26, tP 10 10, tB 36 uap], [(4, .cells GTerm.z [(3, .app 41)]), bC 10 (GTerm.q zz.2), (26, .cells (GL06Read.k2 u0m) (GL06Read.h4_9f u0m))], []⟩ ∧ pspec_ReadSigns_J1 k u19 zz uap u0m = some r) ?_ ?_
    · obtain ⟨zr, h648, h⟩ := obind h
      rcases oif h with ⟨h649, h⟩ | ⟨h649, h⟩
      · refine Wc.r2 [{}, { r := some (.v (.bool zr.2) []), outs := [(0, .p (GL06Read.k2 zr.1) (GL06Read.h4_9f zr.1))] }, {}, { re := some (.bool true) }] ⟨[tP 4 4, tI 8 u19, tP 9 26, tP 10 10, tB 36 true], [(4, .cells GTerm.z [(3, .app 41)]), bC 10 (GTerm.q zz.2), (26, .cells (GL06Read.k2 zr.1) (GL06Read.h4_9f zr.1))], []⟩ (.cons (cspec_l06Read_is h648) (.cons (congrArg AV.bool h649) .nil)) ?_
        exact ⟨_, _, rfl, h⟩
      · obtain ⟨ucx, h650, h⟩ := obind h
        refine Wc.r2 [{}, { r := some (.v (.bool zr.2) []), outs := [(0, .p (GL06Read.k2 zr.1) (GL06Read.h4_9f zr.1))] }, {}, { re := some (.bool false) }, {}, { r := some (.v (.bool ucx) []) }] ⟨[tP 4 4, tI 8 u19, tP 9 26, tP 10 10, tB 36 (!ucx)], [(4, .cells GTerm.z [(3, .app 41)]), bC 10 (GTerm.q zz.2), (26, .cells (GL06Read.k2 zr.1) (GL06Read.h4_9f zr.1))], []⟩ (.cons (cspec_l06Read_is h648) (.cons (congrArg AV.bool h649) (.cons (cspec_TermOk h650) .nil))) ?_
        exact ⟨_, _, rfl, h⟩
    · rintro st ⟨uap, u0m, rfl, h⟩
      rcases oif h with ⟨h646, h⟩ | ⟨h646, h⟩
      · refine Wc.cT h646 ?_
        apply Wc.seq
        refine Wc.r2 [{}, { c := some (List.map cS []) }, {}, { tk := [37] }, { tk := [38] }] ⟨[tP 4 4, (5, (.v (.sl (List.map cS [])), [(0, .app 9)])), tI 6 u19, tB 7 false], [(4, .cells GTerm.z [(3, .app 41)])], []⟩ (.cons (cl_nil cS) .nil) ?_
        refine Wc.fx [.un (.b 4 3)] ⟨[tP 4 4, (5, (.v (.sl (List.map cS [])), [(0, .app 9)])), tI 6 u19, tB 7 false], [bC 4 GTerm.z], []⟩ ?_
        obtain rfl := Option.some.inj h; exact Wc.ret dn
      · refine Wc.cF h646 ?_
        refine Wc.fx [] ⟨[tP 4 4, tP 9 26, tP 10 10], [(4, .cells GTerm.z [(3, .app 41)]), bC 10 (GTerm.q zz.2), (26, .cells (GL06Read.k2 u0m) (GL06Read.h4_9f u0m))], []⟩ ?_
        refine Wc.skip ?_
        apply Wc.seq
        obtain ⟨h647, h⟩ := oguard h
        refine Wc.draw hmix [{}, { c := some (List.map cS []) }, {}, {}, {}, {}, { c := some (List.map cS u0m.gNames), tk := [41] }, {}, {}, {}, {}, {}, {}, { tk := [46] }] [] [4, 5, 6, 7] [4] [] ⟨[tP 4 4, (5, (.v (.sl (List.map cS u0m.gNames)), [(0, .app 9)])), tI 6 (wr.i64 (u0m.gAt + 1)), tB 7 true], [bC 4 (GTerm.q zz.2)], []⟩ _ (by kernel_rfl) (fun X => by kernel_rfl) (.cons (cl_nil cS) (.cons (app_re0 cS u0m.gNames) (.cons (app_leaf (c := cS) (ys := u0m.gNames) cS_leaf) (.cons (app_obl2 (c := cS) (xs := []) (ys := u0m.gNames) cS_len h647) .nil)))) ?_
        obtain rfl := Option.some.inj h; exact Wc.ret dn

def pspec_ReadTerm_J1 (k : Nat) (zb : GTerm × (List ByteArray) × Int × Bool) (uaq : Bool) : Option (GTerm × (List ByteArray) × Bool) :=
  if uaq = true then
    some (GTerm.mk 0 (bs []) 0 [], [], false)
  else
    some (zb.1, zb.2.1, true)
def pspec_ReadTerm (k : Nat) (uar : ByteArray) : Option (GTerm × (List ByteArray) × Bool) :=
  (pspec_SignsOf k uar).bind fun u4t =>
  (pspec_ReadSigns k u4t.1 0).bind fun zb =>
  if (!zb.2.2.2) = true then
    pspec_ReadTerm_J1 k zb true
  else
    pspec_ReadTerm_J1 k zb (zb.2.2.1 != (u4t.1.length : Int))
theorem cspec_ReadTerm {k : Nat} {uar : ByteArray} {r : GTerm × (List ByteArray) × Bool} (h : pspec_ReadTerm k uar = some r) : FnO Try.prog 86 [.v (.str uar) []] (.v (.tup [.agg (GTerm.q r.1), .sl (List.map cS r.2.1), .bool r.2.2]) [(4, .app 9)]) [] := by
  refine FnO.o2 Try.func86 (rfl : Try.f86.body = some _) ?_
  intro w0 X0 Fin pv0 pb
  unfold pspec_ReadTerm at h
  apply Wc.seq
  refine Wc.r0 ⟨[tS 0 uar, tP 2 2], [(2, .cells GTerm.z [(3, .app 41)])], []⟩ ?_
  apply Wc.seq
  obtain ⟨u4t, h655, h⟩ := obind h
  refine Wc.r2 [{}, { r := some (.v (.tup [.sl (List.map GSign.c u4t.1), .bool u4t.2]) [(0, .app 174)]) }, { tk := [13] }, { tk := [11] }, {}, { tk := [14] }] ⟨[tP 2 2, (5, (.v (.sl (List.map GSign.c u4t.1)), [(0, .app 174)]))], [(2, .cells GTerm.z [(3, .app 41)])], []⟩ (.cons (cspec_SignsOf h655) .nil) ?_
  apply Wc.seq
  obtain ⟨zb, h656, h⟩ := obind h
  refine Wc.r2 [{}, { r := some (.v (.tup [.agg (GTerm.q zb.1), .sl (List.map cS zb.2.1), aI zb.2.2.1, .bool zb.2.2.2]) [(4, .app 9)]) }, { tk := [18] }, {}, { tk := [16] }, {}, {}, {}, {}, { tk := [20] }] ⟨[tP 2 2, (5, (.v (.sl (List.map GSign.c u4t.1)), [(0, .app 174)])), tP 7 7, (8, (.v (.sl (List.map cS zb.2.1)), [(0, .app 9)])), tI 9 zb.2.2.1, tB 10 zb.2.2.2], [(2, .cells GTerm.z [(3, .app 41)]), bC 7 (GTerm.q zb.1)], []⟩ (.cons (cspec_ReadSigns h656) .nil) ?_
  apply Wc.seq
  refine Wc.seqJ (fun st => ∃ (uaq : Bool), st = ⟨[tP 2 2, tP 7 7, (8, (.v (.sl (List.map cS zb.2.1)), [(0, .app 9)])), tB 30 uaq], [(2, .cells GTerm.z [(3, .app 41)]), bC 7 (GTerm.q zb.1)], []⟩ ∧ pspec_ReadTerm_J1 k zb uaq = some r) ?_ ?_
  · rcases oif h with ⟨h658, h⟩ | ⟨h658, h⟩
    · refine Wc.r2 [{}, {}, { re := some (.bool true) }] ⟨[tP 2 2, tP 7 7, (8, (.v (.sl (List.map cS zb.2.1)), [(0, .app 9)])), tB 30 true], [(2, .cells GTerm.z [(3, .app 41)]), bC 7 (GTerm.q zb.1)], []⟩ (.cons (congrArg AV.bool h658) .nil) ?_
      exact ⟨_, rfl, h⟩
    · refine Wc.r2 [{}, {}, { re := some (.bool false) }, {}, { tk := [5] }, { v := some (aI (u4t.1.length : Int)) }] ⟨[tP 2 2, tP 7 7, (8, (.v (.sl (List.map cS zb.2.1)), [(0, .app 9)])), tB 30 (zb.2.2.1 != (u4t.1.length : Int))], [(2, .cells GTerm.z [(3, .app 41)]), bC 7 (GTerm.q zb.1)], []⟩ (.cons (congrArg AV.bool h658) (.cons (len_obl GSign.c u4t.1) .nil)) ?_
      exact ⟨_, rfl, h⟩
  · rintro st ⟨uaq, rfl, h⟩
    rcases oif h with ⟨h657, h⟩ | ⟨h657, h⟩
    · refine Wc.cT h657 ?_
      apply Wc.seq
      refine Wc.r2 [{}, { c := some (List.map cS []) }, { tk := [31] }, { tk := [32] }] ⟨[tP 2 2, (3, (.v (.sl (List.map cS [])), [(0, .app 9)])), tB 4 false], [(2, .cells GTerm.z [(3, .app 41)])], []⟩ (.cons (cl_nil cS) .nil) ?_
      refine Wc.fx [.un (.b 2 3)] ⟨[tP 2 2, (3, (.v (.sl (List.map cS [])), [(0, .app 9)])), tB 4 false], [bC 2 GTerm.z], []⟩ ?_
      obtain rfl := Option.some.inj h; exact Wc.ret dn
    · refine Wc.cF h657 ?_
      refine Wc.fx [] ⟨[tP 2 2, tP 7 7, (8, (.v (.sl (List.map cS zb.2.1)), [(0, .app 9)]))], [(2, .cells GTerm.z [(3, .app 41)]), bC 7 (GTerm.q zb.1)], []⟩ ?_
      refine Wc.skip ?_
      apply Wc.seq
      refine Wc.r1 [{}, { tk := [8] }, {}, { tk := [34] }] ⟨[tP 2 2, (3, (.v (.sl (List.map cS zb.2.1)), [(0, .app 9)])), tB 4 true], [bC 2 (GTerm.q zb.1)], []⟩ ?_
      obtain rfl := Option.some.inj h; exact Wc.ret dn

def pspec_l08Lines (k : Nat) : Option (List ByteArray) :=
  some [(bs [112, 40, 97, 41]), (bs [112, 40, 98, 41]), (bs [112, 40, 99, 41]), (bs [113, 40, 88, 41, 32, 58, 45, 32, 112, 40, 88, 41]), (bs [113, 40, 122, 41]), (bs [114, 40, 88, 44, 32, 89, 41, 32, 58, 45, 32, 112, 40, 88, 41, 44, 32, 113, 40, 89, 41]), (bs [97, 112, 112, 40, 91, 93, 44, 32, 76, 44, 32, 76, 41]), (bs [97, 112, 112, 40, 91, 72, 124, 84, 93, 44, 32, 76, 44, 32, 91, 72, 124, 82, 93, 41, 32, 58, 45, 32, 97, 112, 112, 40, 84, 44, 32, 76, 44, 32, 82, 41]), (bs [108, 101, 110, 40, 91, 93, 44, 32, 48, 41]), (bs [108, 101, 110, 40, 91, 95, 124, 84, 93, 44, 32, 78, 41, 32, 58, 45, 32, 108, 101, 110, 40, 84, 44, 32, 77, 41, 44, 32, 78, 32, 105, 115, 32, 77, 32, 43, 32, 49]), (bs [115, 40, 88, 41, 32, 58, 45, 32, 112, 40, 88, 41, 44, 32, 33]), (bs [115, 40, 122, 41]), (bs [116, 40, 88, 41, 32, 58, 45, 32, 40, 112, 40, 88, 41, 32, 45, 62, 32, 116, 114, 117, 101, 32, 59, 32, 88, 32, 61, 32, 110, 111, 110, 101, 41]), (bs [117, 40, 88, 41, 32, 58, 45, 32, 92, 43, 32, 112, 40, 88, 41]), (bs [119, 40, 88, 41, 32, 58, 45, 32, 112, 40, 88, 41, 44, 32, 119, 114, 105, 116, 101, 40, 88, 41]), (bs [99, 40, 88, 41, 32, 58, 45, 32, 99, 97, 116, 99, 104, 40, 112, 40, 88, 41, 44, 32, 95, 44, 32, 116, 114, 117, 101, 41]), (bs [101, 40, 88, 41, 32, 58, 45, 32, 99, 97, 116, 99, 104, 40, 116, 104, 114, 111, 119, 40, 88, 41, 44, 32, 89, 44, 32, 119, 114, 105, 116, 101, 40, 89, 41, 41]), (bs [110, 40, 88, 41, 32, 58, 45, 32, 88, 32, 105, 115, 32, 51, 32, 47, 47, 32, 48]), (bs [109, 40, 88, 41, 32, 58, 45, 32, 99, 97, 116, 99, 104, 40, 110, 40, 88, 41, 44, 32, 101, 114, 114, 111, 114, 40, 69, 44, 32, 95, 41, 44, 32, 40, 88, 32, 61, 32, 69, 41, 41]), (bs [97, 100, 100, 40, 88, 41, 32, 58, 45, 32, 97, 115, 115, 101, 114, 116, 122, 40, 112, 40, 88, 41, 41]), (bs [100, 101, 108, 40, 88, 41, 32, 58, 45, 32, 114, 101, 116, 114, 97, 99, 116, 40, 112, 40, 88, 41, 41]), (bs [108, 111, 111, 112, 32, 58, 45, 32, 108, 111, 111, 112]), (bs [118, 40, 88, 41, 32, 58, 45, 32, 99, 97, 108, 108, 40, 112, 44, 32, 88, 41]), (bs [100, 40, 88, 44, 32, 89, 41, 32, 58, 45, 32, 88, 32, 61, 32, 89, 32, 59, 32, 89, 32, 61, 32, 98]), (bs [103, 40, 102, 40, 88, 41, 44, 32, 88, 41]), (bs [103, 40, 104, 40, 88, 41, 44, 32, 88, 41]), (bs [103, 40, 49, 44, 32, 111, 110, 101, 41]), (bs [107, 40, 88, 41, 32, 58, 45, 32, 117, 110, 107, 110, 111, 119, 110, 40, 88, 41]), (bs [121, 40, 88, 41, 32, 58, 45, 32, 112, 40, 88, 41, 44, 32, 97, 115, 115, 101, 114, 116, 122, 40, 112, 40, 100, 41, 41, 44, 32, 88, 32, 61, 32, 98])]
theorem cspec_l08Lines {k : Nat} {r : (List ByteArray)} (h : pspec_l08Lines k = some r) : FnO Try.prog 159 [] (.v (.sl (List.map cS r)) [(0, .app 9)]) [] := by
  refine FnO.o2 Try.func159 (rfl : Try.f159.body = some _) ?_
  intro w0 X0 Fin pv0 pb
  unfold pspec_l08Lines at h
  apply Wc.seq
  refine Wc.r0 ⟨[], [], []⟩ ?_
  apply Wc.seq
  refine Wc.r2 [{ c := some (List.map cS [(bs [112, 40, 97, 41]), (bs [112, 40, 98, 41]), (bs [112, 40, 99, 41]), (bs [113, 40, 88, 41, 32, 58, 45, 32, 112, 40, 88, 41]), (bs [113, 40, 122, 41]), (bs [114, 40, 88, 44, 32, 89, 41, 32, 58, 45, 32, 112, 40, 88, 41, 44, 32, 113, 40, 89, 41]), (bs [97, 112, 112, 40, 91, 93, 44, 32, 76, 44, 32, 76, 41]), (bs [97, 112, 112, 40, 91, 72, 124, 84, 93, 44, 32, 76, 44, 32, 91, 72, 124, 82, 93, 41, 32, 58, 45, 32, 97, 112, 112, 40, 84, 44, 32, 76, 44, 32, 82, 41]), (bs [108, 101, 110, 40, 91, 93, 44, 32, 48, 41]), (bs [108, 101, 110, 40, 91, 95, 124, 84, 93, 44, 32, 78, 41, 32, 58, 45, 32, 108, 101, 110, 40, 84, 44, 32, 77, 41, 44, 32, 78, 32, 105, 115, 32, 77, 32, 43, 32, 49]), (bs [115, 40, 88, 41, 32, 58, 45, 32, 112, 40, 88, 41, 44, 32, 33]), (bs [115, 40, 122, 41]), (bs [116, 40, 88, 41, 32, 58, 45, 32, 40, 112, 40, 88, 41, 32, 45, 62, 32, 116, 114, 117, 101, 32, 59, 32, 88, 32, 61, 32, 110, 111, 110, 101, 41]), (bs [117, 40, 88, 41, 32, 58, 45, 32, 92, 43, 32, 112, 40, 88, 41]), (bs [119, 40, 88, 41, 32, 58, 45, 32, 112, 40, 88, 41, 44, 32, 119, 114, 105, 116, 101, 40, 88, 41]), (bs [99, 40, 88, 41, 32, 58, 45, 32, 99, 97, 116, 99, 104, 40, 112, 40, 88, 41, 44, 32, 95, 44, 32, 116, 114, 117, 101, 41]), (bs [101, 40, 88, 41, 32, 58, 45, 32, 99, 97, 116, 99, 104, 40, 116, 104, 114, 111, 119, 40, 88, 41, 44, 32, 89, 44, 32, 119, 114, 105, 116, 101, 40, 89, 41, 41]), (bs [110, 40, 88, 41, 32, 58, 45, 32, 88, 32, 105, 115, 32, 51, 32, 47, 47, 32, 48]), (bs [109, 40, 88, 41, 32, 58, 45, 32, 99, 97, 116, 99, 104, 40, 110, 40, 88, 41, 44, 32, 101, 114, 114, 111, 114, 40, 69, 44, 32, 95, 41, 44, 32, 40, 88, 32, 61, 32, 69, 41, 41]), (bs [97, 100, 100, 40, 88, 41, 32, 58, 45, 32, 97, 115, 115, 101, 114, 116, 122, 40, 112, 40, 88, 41, 41]), (bs [100, 101, 108, 40, 88, 41, 32, 58, 45, 32, 114, 101, 116, 114, 97, 99, 116, 40, 112, 40, 88, 41, 41]), (bs [108, 111, 111, 112, 32, 58, 45, 32, 108, 111, 111, 112]), (bs [118, 40, 88, 41, 32, 58, 45, 32, 99, 97, 108, 108, 40, 112, 44, 32, 88, 41]), (bs [100, 40, 88, 44, 32, 89, 41, 32, 58, 45, 32, 88, 32, 61, 32, 89, 32, 59, 32, 89, 32, 61, 32, 98]), (bs [103, 40, 102, 40, 88, 41, 44, 32, 88, 41]), (bs [103, 40, 104, 40, 88, 41, 44, 32, 88, 41]), (bs [103, 40, 49, 44, 32, 111, 110, 101, 41]), (bs [107, 40, 88, 41, 32, 58, 45, 32, 117, 110, 107, 110, 111, 119, 110, 40, 88, 41]), (bs [121, 40, 88, 41, 32, 58, 45, 32, 112, 40, 88, 41, 44, 32, 97, 115, 115, 101, 114, 116, 122, 40, 112, 40, 100, 41, 41, 44, 32, 88, 32, 61, 32, 98])]) }, { tk := [1] }] ⟨[(0, (.v (.sl (List.map cS [(bs [112, 40, 97, 41]), (bs [112, 40, 98, 41]), (bs [112, 40, 99, 41]), (bs [113, 40, 88, 41, 32, 58, 45, 32, 112, 40, 88, 41]), (bs [113, 40, 122, 41]), (bs [114, 40, 88, 44, 32, 89, 41, 32, 58, 45, 32, 112, 40, 88, 41, 44, 32, 113, 40, 89, 41]), (bs [97, 112, 112, 40, 91, 93, 44, 32, 76, 44, 32, 76, 41]), (bs [97, 112, 112, 40, 91, 72, 124, 84, 93, 44, 32, 76, 44, 32, 91, 72, 124, 82, 93, 41, 32, 58, 45, 32, 97, 112, 112, 40, 84, 44, 32, 76, 44, 32, 82, 41]), (bs [108, 101, 110, 40, 91, 93, 44, 32, 48, 41]), (bs [108, 101, 110, 40, 91, 95, 124, 84, 93, 44, 32, 78, 41, 32, 58, 45, 32, 108, 101, 110, 40, 84, 44, 32, 77, 41, 44, 32, 78, 32, 105, 115, 32, 77, 32, 43, 32, 49]), (bs [115, 40, 88, 41, 32, 58, 45, 32, 112, 40, 88, 41, 44, 32, 33]), (bs [115, 40, 122, 41]), (bs [116, 40, 88, 41, 32, 58, 45, 32, 40, 112, 40, 88, 41, 32, 45, 62, 32, 116, 114, 117, 101, 32, 59, 32, 88, 32, 61, 32, 110, 111, 110, 101, 41]), (bs [117, 40, 88, 41, 32, 58, 45, 32, 92, 43, 32, 112, 40, 88, 41]), (bs [119, 40, 88, 41, 32, 58, 45, 32, 112, 40, 88, 41, 44, 32, 119, 114, 105, 116, 101, 40, 88, 41]), (bs [99, 40, 88, 41, 32, 58, 45, 32, 99, 97, 116, 99, 104, 40, 112, 40, 88, 41, 44, 32, 95, 44, 32, 116, 114, 117, 101, 41]), (bs [101, 40, 88, 41, 32, 58, 45, 32, 99, 97, 116, 99, 104, 40, 116, 104, 114, 111, 119, 40, 88, 41, 44, 32, 89, 44, 32, 119, 114, 105, 116, 101, 40, 89, 41, 41]), (bs [110, 40, 88, 41, 32, 58, 45, 32, 88, 32, 105, 115, 32, 51, 32, 47, 47, 32, 48]), (bs [109, 40, 88, 41, 32, 58, 45, 32, 99, 97, 116, 99, 104, 40, 110, 40, 88, 41, 44, 32, 101, 114, 114, 111, 114, 40, 69, 44, 32, 95, 41, 44, 32, 40, 88, 32, 61, 32, 69, 41, 41]), (bs [97, 100, 100, 40, 88, 41, 32, 58, 45, 32, 97, 115, 115, 101, 114, 116, 122, 40, 112, 40, 88, 41, 41]), (bs [100, 101, 108, 40, 88, 41, 32, 58, 45, 32, 114, 101, 116, 114, 97, 99, 116, 40, 112, 40, 88, 41, 41]), (bs [108, 111, 111, 112, 32, 58, 45, 32, 108, 111, 111, 112]), (bs [118, 40, 88, 41, 32, 58, 45, 32, 99, 97, 108, 108, 40, 112, 44, 32, 88, 41]), (bs [100, 40, 88, 44, 32, 89, 41, 32, 58, 45, 32, 88, 32, 61, 32, 89, 32, 59, 32, 89, 32, 61, 32, 98]), (bs [103, 40, 102, 40, 88, 41, 44, 32, 88, 41]), (bs [103, 40, 104, 40, 88, 41, 44, 32, 88, 41]), (bs [103, 40, 49, 44, 32, 111, 110, 101, 41]), (bs [107, 40, 88, 41, 32, 58, 45, 32, 117, 110, 107, 110, 111, 119, 110, 40, 88, 41]), (bs [121, 40, 88, 41, 32, 58, 45, 32, 112, 40, 88, 41, 44, 32, 97, 115, 115, 101, 114, 116, 122, 40, 112, 40, 100, 41, 41, 44, 32, 88, 32, 61, 32, 98])])), [(0, .app 9)]))], [], []⟩ (.cons (cl_cons (c := cS) (x := (bs [112, 40, 97, 41])) rfl (cl_cons (c := cS) (x := (bs [112, 40, 98, 41])) rfl (cl_cons (c := cS) (x := (bs [112, 40, 99, 41])) rfl (cl_cons (c := cS) (x := (bs [113, 40, 88, 41, 32, 58, 45, 32, 112, 40, 88, 41])) rfl (cl_cons (c := cS) (x := (bs [113, 40, 122, 41])) rfl (cl_cons (c := cS) (x := (bs [114, 40, 88, 44, 32, 89, 41, 32, 58, 45, 32, 112, 40, 88, 41, 44, 32, 113, 40, 89, 41])) rfl (cl_cons (c := cS) (x := (bs [97, 112, 112, 40, 91, 93, 44, 32, 76, 44, 32, 76, 41])) rfl (cl_cons (c := cS) (x := (bs [97, 112, 112, 40, 91, 72, 124, 84, 93, 44, 32, 76, 44, 32, 91, 72, 124, 82, 93, 41, 32, 58, 45, 32, 97, 112, 112, 40, 84, 44, 32, 76, 44, 32, 82, 41])) rfl (cl_cons (c := cS) (x := (bs [108, 101, 110, 40, 91, 93, 44, 32, 48, 41])) rfl (cl_cons (c := cS) (x := (bs [108, 101, 110, 40, 91, 95, 124, 84, 93, 44, 32, 78, 41, 32, 58, 45, 32, 108, 101, 110, 40, 84, 44, 32, 77, 41, 44, 32, 78, 32, 105, 115, 32, 77, 32, 43, 32, 49])) rfl (cl_cons (c := cS) (x := (bs [115, 40, 88, 41, 32, 58, 45, 32, 112, 40, 88, 41, 44, 32, 33])) rfl (cl_cons (c := cS) (x := (bs [115, 40, 122, 41])) rfl (cl_cons (c := cS) (x := (bs [116, 40, 88, 41, 32, 58, 45, 32, 40, 112, 40, 88, 41, 32, 45, 62, 32, 116, 114, 117, 101, 32, 59, 32, 88, 32, 61, 32, 110, 111, 110, 101, 41])) rfl (cl_cons (c := cS) (x := (bs [117, 40, 88, 41, 32, 58, 45, 32, 92, 43, 32, 112, 40, 88, 41])) rfl (cl_cons (c := cS) (x := (bs [119, 40, 88, 41, 32, 58, 45, 32, 112, 40, 88, 41, 44, 32, 119, 114, 105, 116, 101, 40, 88, 41])) rfl (cl_cons (c := cS) (x := (bs [99, 40, 88, 41, 32, 58, 45, 32, 99, 97, 116, 99, 104, 40, 112, 40, 88, 41, 44, 32, 95, 44, 32, 116, 114, 117, 101, 41])) rfl (cl_cons (c := cS) (x := (bs [101, 40, 88, 41, 32, 58, 45, 32, 99, 97, 116, 99, 104, 40, 116, 104, 114, 111, 119, 40, 88, 41, 44, 32, 89, 44, 32, 119, 114, 105, 116, 101, 40, 89, 41, 41])) rfl (cl_cons (c := cS) (x := (bs [110, 40, 88, 41, 32, 58, 45, 32, 88, 32, 105, 115, 32, 51, 32, 47, 47, 32, 48])) rfl (cl_cons (c := cS) (x := (bs [109, 40, 88, 41, 32, 58, 45, 32, 99, 97, 116, 99, 104, 40, 110, 40, 88, 41, 44, 32, 101, 114, 114, 111, 114, 40, 69, 44, 32, 95, 41, 44, 32, 40, 88, 32, 61, 32, 69, 41, 41])) rfl (cl_cons (c := cS) (x := (bs [97, 100, 100, 40, 88, 41, 32, 58, 45, 32, 97, 115, 115, 101, 114, 116, 122, 40, 112, 40, 88, 41, 41])) rfl (cl_cons (c := cS) (x := (bs [100, 101, 108, 40, 88, 41, 32, 58, 45, 32, 114, 101, 116, 114, 97, 99, 116, 40, 112, 40, 88, 41, 41])) rfl (cl_cons (c := cS) (x := (bs [108, 111, 111, 112, 32, 58, 45, 32, 108, 111, 111, 112])) rfl (cl_cons (c := cS) (x := (bs [118, 40, 88, 41, 32, 58, 45, 32, 99, 97, 108, 108, 40, 112, 44, 32, 88, 41])) rfl (cl_cons (c := cS) (x := (bs [100, 40, 88, 44, 32, 89, 41, 32, 58, 45, 32, 88, 32, 61, 32, 89, 32, 59, 32, 89, 32, 61, 32, 98])) rfl (cl_cons (c := cS) (x := (bs [103, 40, 102, 40, 88, 41, 44, 32, 88, 41])) rfl (cl_cons (c := cS) (x := (bs [103, 40, 104, 40, 88, 41, 44, 32, 88, 41])) rfl (cl_cons (c := cS) (x := (bs [103, 40, 49, 44, 32, 111, 110, 101, 41])) rfl (cl_cons (c := cS) (x := (bs [107, 40, 88, 41, 32, 58, 45, 32, 117, 110, 107, 110, 111, 119, 110, 40, 88, 41])) rfl (cl_cons (c := cS) (x := (bs [121, 40, 88, 41, 32, 58, 45, 32, 112, 40, 88, 41, 44, 32, 97, 115, 115, 101, 114, 116, 122, 40, 112, 40, 100, 41, 41, 44, 32, 88, 32, 61, 32, 98])) rfl (cl_nil cS)))))))))))))))))))))))))))))) .nil) ?_
  obtain rfl := Option.some.inj h; exact Wc.ret dn

def pspec_DrawClauseOf (k : Nat) (uas : List Int) : Option (GTerm × ByteArray) :=
  (pspec_l01New k uas).bind fun ucy =>
  (pspec_l01Below k ucy 4).bind fun u3j =>
  (pspec_l08Lines k).bind fun ue2 =>
  (pspec_l01Pick k u3j.1 ue2).bind fun u4g =>
  if sumOk u4g.2 (bs [32, 46]) then
    (pspec_ReadTerm k (u4g.2 ++ (bs [32, 46]))).bind fun u4h =>
    if (u3j.2 == 0) = true then
      (pspec_l03Any k u4g.1).bind fun u6s =>
      some (u6s.2, (bs [111, 110, 101]))
    else
      if (u3j.2 == 1) = true then
        (pspec_l03Term k u4g.1).bind fun uat =>
        (pspec_l03Term k uat.1).bind fun ucz =>
        (pspec_l03Two k (bs [58, 45]) uat.2 ucz.2).bind fun u85 =>
        some (u85, (bs [111, 110, 101]))
      else
        some (u4h.1, (bs [111, 110, 101]))
  else none
theorem cspec_DrawClauseOf {k : Nat} {uas : List Int} {r : GTerm × ByteArray} (h : pspec_DrawClauseOf k uas = some r) : FnO Try.prog 149 [.v (.sl (List.map cI.u8 uas)) []] (.v (.tup [.agg (GTerm.q r.1), .str r.2]) []) [] := by
  refine FnO.o2 Try.func149 (rfl : Try.f149.body = some _) ?_
  intro w0 X0 Fin pv0 pb
  unfold pspec_DrawClauseOf at h
  apply Wc.seq
  refine Wc.r0 ⟨[tV 0 (.sl (List.map cI.u8 uas)), tP 2 2], [(2, .cells GTerm.z [(3, .app 41)])], []⟩ ?_
  apply Wc.seq
  obtain ⟨ucy, h671, h⟩ := obind h
  refine Wc.r2 [{}, { r := some (.p (GL01Cur.q ucy) []) }] ⟨[tP 2 2, tP 4 10], [(2, .cells GTerm.z [(3, .app 41)]), bC 10 (GL01Cur.q ucy)], []⟩ (.cons (cspec_l01New h671) .nil) ?_
  apply Wc.seq
  obtain ⟨u3j, h672, h⟩ := obind h
  refine Wc.r2 [{}, { r := some (.v (aI u3j.2) []), outs := [(0, .p (GL01Cur.q u3j.1) [])] }] ⟨[tP 2 2, tP 4 10, tI 5 u3j.2], [(2, .cells GTerm.z [(3, .app 41)]), bC 10 (GL01Cur.q u3j.1)], []⟩ (.cons (cspec_l01Below h672) .nil) ?_
  apply Wc.seq
  obtain ⟨ue2, h673, h⟩ := obind h
  obtain ⟨u4g, h674, h⟩ := obind h
  obtain ⟨h675, h⟩ := oguard h
  obtain ⟨u4h, h676, h⟩ := obind h
  refine Wc.r2 [{}, { r := some (.v (.sl (List.map cS ue2)) [(0, .app 9)]) }, { r := some (.v (.str u4g.2) []), outs := [(0, .p (GL01Cur.q u4g.1) [])] }, {}, { r := some (.v (.tup [.agg (GTerm.q u4h.1), .sl (List.map cS u4h.2.1), .bool u4h.2.2]) [(4, .app 9)]) }, { tk := [18] }, {}, { tk := [13] }, {}, {}, {}, { tk := [20] }] ⟨[tP 2 2, tP 4 10, tI 5 u3j.2, tP 6 6], [(2, .cells GTerm.z [(3, .app 41)]), bC 6 (GTerm.q u4h.1), bC 10 (GL01Cur.q u4g.1)], []⟩ (.cons (cspec_l08Lines h673) (.cons (cspec_l01Pick h674) (.cons h675 (.cons (cspec_ReadTerm h676) .nil)))) ?_
  apply Wc.seq
  apply Wc.seq
  refine Wc.r0 ⟨[tP 2 2, tP 4 10, tP 6 6, tI 22 u3j.2], [(2, .cells GTerm.z [(3, .app 41)]), bC 6 (GTerm.q u4h.1), bC 10 (GL01Cur.q u4g.1)], []⟩ ?_
  refine Wc.block ?_
  apply Wc.seq
  refine Wc.r0 ⟨[tP 2 2, tP 4 10, tP 6 6, tI 22 u3j.2, tB 23 (u3j.2 == 0)], [(2, .cells GTerm.z [(3, .app 41)]), bC 6 (GTerm.q u4h.1), bC 10 (GL01Cur.q u4g.1)], []⟩ ?_
  rcases oif h with ⟨h677, h⟩ | ⟨h677, h⟩
  · refine Wc.cT h677 ?_
    obtain ⟨u6s, h678, h⟩ := obind h
    refine Wc.r2 [{}, { r := some (.v (.agg (GTerm.q u6s.2)) [(3, .app 41)]), outs := [(0, .p (GL01Cur.q u6s.1) [])] }, { tk := [26] }] ⟨[tP 2 2, tP 6 6], [(2, .cells GTerm.z [(3, .app 41)]), (6, .cells (GTerm.q u6s.2) [(3, .app 41)])], []⟩ (.cons (cspec_l03Any h678) .nil) ?_
    apply Wc.seq
    refine Wc.r1 [{ md := 1 }, { tk := [34] }] ⟨[tP 2 2, tS 3 (bs [111, 110, 101])], [(2, .cells (GTerm.q u6s.2) [(3, .app 41)])], []⟩ ?_
    refine Wc.fx [.un (.b 2 3)] ⟨[tP 2 2, tS 3 (bs [111, 110, 101])], [bC 2 (GTerm.q u6s.2)], []⟩ ?_
    obtain rfl := Option.some.inj h; exact Wc.ret dn
  · refine Wc.cF h677 ?_
    apply Wc.seq
    refine Wc.r0 ⟨[tP 2 2, tP 4 10, tP 6 6, tB 27 (u3j.2 == 1)], [(2, .cells GTerm.z [(3, .app 41)]), bC 6 (GTerm.q u4h.1), bC 10 (GL01Cur.q u4g.1)], []⟩ ?_
    rcases oif h with ⟨h679, h⟩ | ⟨h679, h⟩
    · refine Wc.cT h679 ?_
      obtain ⟨uat, h680, h⟩ := obind h
      obtain ⟨ucz, h681, h⟩ := obind h
      obtain ⟨u85, h682, h⟩ := obind h
      refine Wc.r2 [{}, { r := some (.v (.agg (GTerm.q uat.2)) [(3, .app 41)]), outs := [(0, .p (GL01Cur.q uat.1) [])] }, {}, { r := some (.v (.agg (GTerm.q ucz.2)) [(3, .app 41)]), outs := [(0, .p (GL01Cur.q ucz.1) [])] }, { r := some (.v (.agg (GTerm.q u85)) [(3, .app 41)]) }, { tk := [33] }] ⟨[tP 2 2, tP 6 6], [(2, .cells GTerm.z [(3, .app 41)]), (6, .cells (GTerm.q u85) [(3, .app 41)])], []⟩ (.cons (cspec_l03Term h680) (.cons (cspec_l03Term h681) (.cons (cspec_l03Two h682) .nil))) ?_
      apply Wc.seq
      refine Wc.r1 [{ md := 1 }, { tk := [34] }] ⟨[tP 2 2, tS 3 (bs [111, 110, 101])], [(2, .cells (GTerm.q u85) [(3, .app 41)])], []⟩ ?_
      refine Wc.fx [.un (.b 2 3)] ⟨[tP 2 2, tS 3 (bs [111, 110, 101])], [bC 2 (GTerm.q u85)], []⟩ ?_
      obtain rfl := Option.some.inj h; exact Wc.ret dn
    · refine Wc.cF h679 ?_
      refine Wc.fx [] ⟨[tP 2 2, tP 6 6], [(2, .cells GTerm.z [(3, .app 41)]), bC 6 (GTerm.q u4h.1)], []⟩ ?_
      refine Wc.skip ?_
      apply Wc.seq
      refine Wc.r0 ⟨[tP 2 2, tS 3 (bs [111, 110, 101])], [bC 2 (GTerm.q u4h.1)], []⟩ ?_
      obtain rfl := Option.some.inj h; exact Wc.ret dn

def pspec_l03Is (k : Nat) (u4u : GTerm) (uau : ByteArray) (u86 : Int) : Option Bool :=
  if (u4u.gKind == 4) = true then
    if (sEq u4u.gName uau) = true then
      some ((u4u.gKids.length : Int) == u86)
    else
      some false
  else
    some false
theorem cspec_l03Is {k : Nat} {u4u : GTerm} {uau : ByteArray} {u86 : Int} {r : Bool} (h : pspec_l03Is k u4u uau u86 = some r) : FnO Try.prog 143 [.v (.agg (GTerm.q u4u)) [], .v (.str uau) [], .v (aI u86) []] (.v (.bool r) []) [] := by
  refine FnO.o2 Try.func143 (rfl : Try.f143.body = some _) ?_
  intro w0 X0 Fin pv0 pb
  unfold pspec_l03Is at h
  apply Wc.seq
  refine Wc.r0 ⟨[tS 1 uau, tI 2 u86, tP 3 3], [bC 3 (GTerm.q u4u)], []⟩ ?_
  apply Wc.seq
  rcases oif h with ⟨h683, h⟩ | ⟨h683, h⟩
  · rcases oif h with ⟨h684, h⟩ | ⟨h684, h⟩
    · refine Wc.r2 [{}, {}, {}, { re := some (.bool true) }, {}, {}, {}, {}, {}, { re := some (.bool true) }, {}, {}, { v := some (aI (u4u.gKids.length : Int)) }] ⟨[tB 6 ((u4u.gKids.length : Int) == u86)], [], []⟩ (.cons (congrArg AV.bool h683) (.cons (congrArg AV.bool h684) (.cons (len_obl GTerm.c u4u.gKids) .nil))) ?_
      obtain rfl := Option.some.inj h; exact Wc.ret dn
    · refine Wc.r2 [{}, {}, {}, { re := some (.bool true) }, {}, {}, {}, {}, {}, { re := some (.bool false) }] ⟨[tB 6 false], [], []⟩ (.cons (congrArg AV.bool h683) (.cons (congrArg AV.bool h684) .nil)) ?_
      obtain rfl := Option.some.inj h; exact Wc.ret dn
  · refine Wc.r2 [{}, {}, {}, { re := some (.bool false) }] ⟨[tB 6 false], [], []⟩ (.cons (congrArg AV.bool h683) .nil) ?_
    obtain rfl := Option.some.inj h; exact Wc.ret dn

def pspec_l01Figure (k : Nat) (u3y : Int) : Option Int :=
  if (decide (u3y < 10)) = true then
    some (wr.u8 (wr.i64 (48 + u3y)))
  else
    some (wr.u8 (wr.i64 ((wr.i64 (97 + u3y)) - 10)))
theorem cspec_l01Figure {k : Nat} {u3y : Int} {r : Int} (h : pspec_l01Figure k u3y = some r) : FnO Try.prog 204 [.v (aI u3y) []] (.v (.int .u8 r) []) [] := by
  refine FnO.o2 Try.func204 (rfl : Try.f204.body = some _) ?_
  intro w0 X0 Fin pv0 pb
  unfold pspec_l01Figure at h
  apply Wc.seq
  refine Wc.r0 ⟨[tI 0 u3y], [], []⟩ ?_
  apply Wc.seq
  apply Wc.seq
  refine Wc.r0 ⟨[tI 0 u3y, tB 4 (decide (u3y < 10))], [], []⟩ ?_
  rcases oif h with ⟨h685, h⟩ | ⟨h685, h⟩
  · refine Wc.cT h685 ?_
    apply Wc.seq
    refine Wc.r0 ⟨[tV 2 (.int .u8 (wr.u8 (wr.i64 (48 + u3y))))], [], []⟩ ?_
    obtain rfl := Option.some.inj h; exact Wc.ret dn
  · refine Wc.cF h685 ?_
    refine Wc.fx [] ⟨[tI 0 u3y], [], []⟩ ?_
    refine Wc.skip ?_
    apply Wc.seq
    refine Wc.r0 ⟨[tV 2 (.int .u8 (wr.u8 (wr.i64 ((wr.i64 (97 + u3y)) - 10))))], [], []⟩ ?_
    obtain rfl := Option.some.inj h; exact Wc.ret dn

def pspec_Decimal_J2 (k : Nat) (bk_ : Int → ByteArray → Option (Out ByteArray ByteArray)) (u0w : ByteArray) (zc : Int) (uav : Int) : Option (Out ByteArray ByteArray) :=
  (pspec_l01Figure k uav).bind fun u4v =>
  if sumOk (strOfNums [u4v]) u0w then
    if (10 : Int) ≠ 0 then
      bk_ (wr.i64 (Int.tdiv zc 10)) ((strOfNums [u4v]) ++ u0w)
    else none
  else none
def pspec_Decimal_L1 (k : Nat) : Nat → Int → ByteArray → Option (Out ByteArray ByteArray)
  | 0, _, _ => none
  | m + 1, zc, u0w =>
    if (zc != 0) = true then
      if (10 : Int) ≠ 0 then
        if (decide ((Int.tmod zc 10) < 0)) = true then
          pspec_Decimal_J2 k (pspec_Decimal_L1 k m) u0w zc (wr.i64 (0 - (Int.tmod zc 10)))
        else
          pspec_Decimal_J2 k (pspec_Decimal_L1 k m) u0w zc (Int.tmod zc 10)
      else none
    else
      some (.done u0w)
def pspec_Decimal (k : Nat) (zl : Int) : Option ByteArray :=
  if (zl == 0) = true then
    some (bs [48])
  else
    (pspec_Decimal_L1 k k zl (bs [])).bind fun out1 => match out1 with
    | .ret r => some r
    | .done u4i =>
      if (decide (zl < 0)) = true then
        if sumOk (bs [45]) u4i then
          some ((bs [45]) ++ u4i)
        else none
      else
        some u4i
theorem cspec_Decimal {k : Nat} {zl : Int} {r : ByteArray} (h : pspec_Decimal k zl = some r) : FnO Try.prog 201 [.v (aI zl) []] (.v (.str r) []) [] := by
  refine FnO.o2 Try.func201 (rfl : Try.f201.body = some _) ?_
  intro w0 X0 Fin pv0 pb
  unfold pspec_Decimal at h
  apply Wc.seq
  refine Wc.r0 ⟨[tI 0 zl], [], []⟩ ?_
  apply Wc.seq
  apply Wc.seq
  refine Wc.r0 ⟨[tI 0 zl, tB 7 (zl == 0)], [], []⟩ ?_
  rcases oif h with ⟨h686, h⟩ | ⟨h686, h⟩
  · refine Wc.cT h686 ?_
    apply Wc.seq
    refine Wc.r0 ⟨[tS 2 (bs [48])], [], []⟩ ?_
    obtain rfl := Option.some.inj h; exact Wc.ret dn
  · refine Wc.cF h686 ?_
    refine Wc.fx [] ⟨[tI 0 zl], [], []⟩ ?_
    refine Wc.skip ?_
    apply Wc.seq
    refine Wc.r0 ⟨[tI 0 zl, tB 3 (decide (zl < 0))], [], []⟩ ?_
    apply Wc.seq
    refine Wc.r0 ⟨[tI 0 zl, tB 3 (decide (zl < 0)), tS 4 (bs [])], [], []⟩ ?_
    obtain ⟨out1, h687, h⟩ := obind h
    refine Wc.seqJ (fun st => ∃ (u4i : ByteArray), out1 = .done u4i ∧ st = ⟨[tB 3 (decide (zl < 0)), tS 4 u4i], [], []⟩) ?_ ?_
    · refine Wc.block ?_
      refine Wc.loop (fun m st => ∃ (zc : Int) (u0w : ByteArray), st = ⟨[tI 0 zc, tB 3 (decide (zl < 0)), tS 4 u0w], [], []⟩ ∧ pspec_Decimal_L1 k m zc u0w = some out1) ?_ k ⟨_, _, rfl, h687⟩
      rintro m st ⟨zc, u0w, rfl, h687⟩
      cases m with
      | zero => exact (onone h687).elim
      | succ m =>
        apply Wc.seq
        apply Wc.seq
        refine Wc.r0 ⟨[tI 0 zc, tB 3 (decide (zl < 0)), tS 4 u0w, tB 11 (zc != 0)], [], []⟩ ?_
        rcases oif h687 with ⟨h688, h687⟩ | ⟨h688, h687⟩
        · refine Wc.cT h688 ?_
          refine Wc.fx [] ⟨[tI 0 zc, tB 3 (decide (zl < 0)), tS 4 u0w], [], []⟩ ?_
          refine Wc.skip ?_
          refine Wc.block ?_
          apply Wc.seq
          obtain ⟨h689, h687⟩ := oguard h687
          refine Wc.r2 [] ⟨[tI 0 zc, tB 3 (decide (zl < 0)), tS 4 u0w, tI 5 (Int.tmod zc 10)], [], []⟩ (.cons h689 .nil) ?_
          refine Wc.seqJ (fun st => ∃ (uav : Int), st = ⟨[tI 0 zc, tB 3 (decide (zl < 0)), tS 4 u0w, tI 5 uav], [], []⟩ ∧ pspec_Decimal_J2 k (pspec_Decimal_L1 k m) u0w zc uav = some out1) ?_ ?_
          · apply Wc.seq
            refine Wc.r0 ⟨[tI 0 zc, tB 3 (decide (zl < 0)), tS 4 u0w, tI 5 (Int.tmod zc 10), tB 15 (decide ((Int.tmod zc 10) < 0))], [], []⟩ ?_
            rcases oif h687 with ⟨h693, h687⟩ | ⟨h693, h687⟩
            · refine Wc.cT h693 ?_
              refine Wc.r0 ⟨[tI 0 zc, tB 3 (decide (zl < 0)), tS 4 u0w, tI 5 (wr.i64 (0 - (Int.tmod zc 10)))], [], []⟩ ?_
              exact ⟨_, rfl, h687⟩
            · refine Wc.cF h693 ?_
              refine Wc.fx [] ⟨[tI 0 zc, tB 3 (decide (zl < 0)), tS 4 u0w, tI 5 (Int.tmod zc 10)], [], []⟩ ?_
              refine Wc.skip ?_
              exact ⟨_, rfl, h687⟩
          · rintro st ⟨uav, rfl, h687⟩
            apply Wc.seq
            obtain ⟨u4v, h690, h687⟩ := obind h687
            obtain ⟨h691, h687⟩ := oguard h687
            refine Wc.r2 [{}, { r := some (.v (.int .u8 u4v) []) }, { c := some (List.map cI.u8 [u4v]) }, { v := some (.str (strOfNums [u4v])) }] ⟨[tI 0 zc, tB 3 (decide (zl < 0)), tS 4 ((strOfNums [u4v]) ++ u0w)], [], []⟩ (.cons (cspec_l01Figure h690) (.cons (cl_cons (c := cI.u8) (x := u4v) rfl (cl_nil cI.u8)) (.cons (bytes_obl [u4v]) (.cons h691 .nil)))) ?_
            obtain ⟨h692, h687⟩ := oguard h687
            refine Wc.r2 [] ⟨[tI 0 (wr.i64 (Int.tdiv zc 10)), tB 3 (decide (zl < 0)), tS 4 ((strOfNums [u4v]) ++ u0w)], [], []⟩ (.cons h692 .nil) ?_
            exact ⟨_, Nat.lt_succ_self _, _, _, rfl, h687⟩
        · refine Wc.cF h688 ?_
          refine Wc.fx [] ⟨[tB 3 (decide (zl < 0)), tS 4 u0w], [], []⟩ ?_
          refine Wc.exit ?_
          obtain rfl := Option.some.inj h687
          exact ⟨_, rfl, rfl⟩
    · rintro st ⟨u4i, rfl, rfl⟩
      apply Wc.seq
      apply Wc.seq
      refine Wc.r0 ⟨[tS 4 u4i, tB 26 (decide (zl < 0))], [], []⟩ ?_
      rcases oif h with ⟨h694, h⟩ | ⟨h694, h⟩
      · refine Wc.cT h694 ?_
        apply Wc.seq
        obtain ⟨h695, h⟩ := oguard h
        refine Wc.r2 [] ⟨[tS 2 ((bs [45]) ++ u4i)], [], []⟩ (.cons h695 .nil) ?_
        obtain rfl := Option.some.inj h; exact Wc.ret dn
      · refine Wc.cF h694 ?_
        refine Wc.fx [] ⟨[tS 4 u4i], [], []⟩ ?_
        refine Wc.skip ?_
        apply Wc.seq
        refine Wc.r0 ⟨[tS 2 u4i], [], []⟩ ?_
        obtain rfl := Option.some.inj h; exact Wc.ret dn

def pspec_PredOf_J1 (k : Nat) (u0b : GTerm) : Option ByteArray :=
  if sumOk u0b.gName (bs [47]) then
    (pspec_Decimal k (u0b.gKids.length : Int)).bind fun uaw =>
    if sumOk (u0b.gName ++ (bs [47])) uaw then
      some ((u0b.gName ++ (bs [47])) ++ uaw)
    else none
  else none
def pspec_PredOf (k : Nat) (u0b : GTerm) : Option ByteArray :=
  if (u0b.gKind != 2) = true then
    if (u0b.gKind != 4) = true then
      some (bs [])
    else
      pspec_PredOf_J1 k u0b
  else
    pspec_PredOf_J1 k u0b
theorem cspec_PredOf {k : Nat} {u0b : GTerm} {r : ByteArray} (h : pspec_PredOf k u0b = some r) : FnO Try.prog 194 [.v (.agg (GTerm.q u0b)) []] (.v (.str r) []) [] := by
  refine FnO.o2 Try.func194 (rfl : Try.f194.body = some _) ?_
  intro w0 X0 Fin pv0 pb
  unfold pspec_PredOf at h
  apply Wc.seq
  refine Wc.r0 ⟨[tP 1 1], [bC 1 (GTerm.q u0b)], []⟩ ?_
  refine Wc.seqJ (fun st => st = ⟨[tP 1 1], [bC 1 (GTerm.q u0b)], []⟩ ∧ pspec_PredOf_J1 k u0b = some r) ?_ ?_
  · apply Wc.seq
    rcases oif h with ⟨h699, h⟩ | ⟨h699, h⟩
    · refine Wc.r2 [{}, {}, {}, { re := some (.bool true) }] ⟨[tP 1 1, tB 10 (u0b.gKind != 4)], [bC 1 (GTerm.q u0b)], []⟩ (.cons (congrArg AV.bool h699) .nil) ?_
      rcases oif h with ⟨h700, h⟩ | ⟨h700, h⟩
      · refine Wc.cT h700 ?_
        apply Wc.seq
        refine Wc.r0 ⟨[tS 2 (bs [])], [], []⟩ ?_
        obtain rfl := Option.some.inj h; exact Wc.ret dn
      · refine Wc.cF h700 ?_
        refine Wc.fx [] ⟨[tP 1 1], [bC 1 (GTerm.q u0b)], []⟩ ?_
        refine Wc.skip ?_
        exact ⟨rfl, h⟩
    · refine Wc.r2 [{}, {}, {}, { re := some (.bool false) }] ⟨[tP 1 1, tB 10 false], [bC 1 (GTerm.q u0b)], []⟩ (.cons (congrArg AV.bool h699) .nil) ?_
      refine Wc.cF rfl ?_
      refine Wc.fx [] ⟨[tP 1 1], [bC 1 (GTerm.q u0b)], []⟩ ?_
      refine Wc.skip ?_
      exact ⟨rfl, h⟩
  · rintro st ⟨rfl, h⟩
    apply Wc.seq
    obtain ⟨h696, h⟩ := oguard h
    obtain ⟨uaw, h697, h⟩ := obind h
    obtain ⟨h698, h⟩ := oguard h
    refine Wc.draw hmix [{}, {}, {}, {}, {}, { v := some (aI (u0b.gKids.length : Int)) }, { r := some (.v (.str uaw) []) }] [] [2] [] [] ⟨[tS 2 ((u0b.gName ++ (bs [47])) ++ uaw)], [], []⟩ _ (by kernel_rfl) (fun X => by kernel_rfl) (.cons h696 (.cons (len_obl GTerm.c u0b.gKids) (.cons (cspec_Decimal h697) (.cons h698 .nil)))) ?_
    obtain rfl := Option.some.inj h; exact Wc.ret dn

def pspec_Control_J1 (k : Nat) (u3 : ByteArray) (uax : Bool) : Option Bool :=
  if uax = true then
    some true
  else
    if (sEq u3 (bs [61, 47, 50])) = true then
      if (sEq u3 (bs [61, 47, 50])) = true then
        some true
      else
        some false
    else
      if (sEq u3 (bs [92, 61, 47, 50])) = true then
        if (sEq u3 (bs [92, 61, 47, 50])) = true then
          some true
        else
          some false
      else
        if (sEq u3 (bs [61, 61, 47, 50])) = true then
          if (sEq u3 (bs [61, 61, 47, 50])) = true then
            some true
          else
            some false
        else
          if (sEq u3 (bs [105, 115, 47, 50])) = true then
            if (sEq u3 (bs [105, 115, 47, 50])) = true then
              some true
            else
              some false
          else
            if (sEq u3 (bs [60, 47, 50])) = true then
              if (sEq u3 (bs [60, 47, 50])) = true then
                some true
              else
                some false
            else
              if (sEq u3 (bs [61, 58, 61, 47, 50])) = true then
                if (sEq u3 (bs [61, 58, 61, 47, 50])) = true then
                  some true
                else
                  some false
              else
                if (sEq u3 (bs [118, 97, 114, 47, 49])) = true then
                  if (sEq u3 (bs [118, 97, 114, 47, 49])) = true then
                    some true
                  else
                    some false
                else
                  if (sEq u3 (bs [97, 116, 111, 109, 47, 49])) = true then
                    if (sEq u3 (bs [97, 116, 111, 109, 47, 49])) = true then
                      some true
                    else
                      some false
                  else
                    if (sEq u3 (bs [119, 114, 105, 116, 101, 47, 49])) = true then
                      if (sEq u3 (bs [119, 114, 105, 116, 101, 47, 49])) = true then
                        some true
                      else
                        some false
                    else
                      if (sEq u3 (bs [97, 115, 115, 101, 114, 116, 122, 47, 49])) = true then
                        if (sEq u3 (bs [97, 115, 115, 101, 114, 116, 122, 47, 49])) = true then
                          some true
                        else
                          some false
                      else
                        if (sEq u3 (bs [114, 101, 116, 114, 97, 99, 116, 47, 49])) = true then
                          if (sEq u3 (bs [114, 101, 116, 114, 97, 99, 116, 47, 49])) = true then
                            some true
                          else
                            some false
                        else
                          if (sEq u3 (bs [58, 45, 47, 50])) = true then
                            if (sEq u3 (bs [58, 45, 47, 50])) = true then
                              some true
                            else
                              some false
                          else
                            if (sEq u3 (bs [58, 45, 47, 49])) = true then
                              if (sEq u3 (bs [58, 45, 47, 49])) = true then
                                some true
                              else
                                some false
                            else
                              if (sEq u3 (bs [45, 45, 62, 47, 50])) = true then
                                some true
                              else
                                some false
def pspec_Control (k : Nat) (u3 : ByteArray) : Option Bool :=
  if (sEq u3 (bs [116, 114, 117, 101, 47, 48])) = true then
    pspec_Control_J1 k u3 (sEq u3 (bs [116, 114, 117, 101, 47, 48]))
  else
    if (sEq u3 (bs [102, 97, 105, 108, 47, 48])) = true then
      pspec_Control_J1 k u3 (sEq u3 (bs [102, 97, 105, 108, 47, 48]))
    else
      if (sEq u3 (bs [33, 47, 48])) = true then
        pspec_Control_J1 k u3 (sEq u3 (bs [33, 47, 48]))
      else
        if (sEq u3 (bs [44, 47, 50])) = true then
          pspec_Control_J1 k u3 (sEq u3 (bs [44, 47, 50]))
        else
          if (sEq u3 (bs [59, 47, 50])) = true then
            pspec_Control_J1 k u3 (sEq u3 (bs [59, 47, 50]))
          else
            if (sEq u3 (bs [45, 62, 47, 50])) = true then
              pspec_Control_J1 k u3 (sEq u3 (bs [45, 62, 47, 50]))
            else
              if (sEq u3 (bs [92, 43, 47, 49])) = true then
                pspec_Control_J1 k u3 (sEq u3 (bs [92, 43, 47, 49]))
              else
                if (sEq u3 (bs [99, 97, 108, 108, 47, 49])) = true then
                  pspec_Control_J1 k u3 (sEq u3 (bs [99, 97, 108, 108, 47, 49]))
                else
                  if (sEq u3 (bs [99, 97, 108, 108, 47, 50])) = true then
                    pspec_Control_J1 k u3 (sEq u3 (bs [99, 97, 108, 108, 47, 50]))
                  else
                    if (sEq u3 (bs [99, 97, 108, 108, 47, 51])) = true then
                      pspec_Control_J1 k u3 (sEq u3 (bs [99, 97, 108, 108, 47, 51]))
                    else
                      if (sEq u3 (bs [99, 97, 116, 99, 104, 47, 51])) = true then
                        pspec_Control_J1 k u3 (sEq u3 (bs [99, 97, 116, 99, 104, 47, 51]))
                      else
                        pspec_Control_J1 k u3 (sEq u3 (bs [116, 104, 114, 111, 119, 47, 49]))
set_option maxHeartbeats 4000000 in
theorem cspec_Control {k : Nat} {u3 : ByteArray} {r : Bool} (h : pspec_Control k u3 = some r) : FnO Try.prog 195 [.v (.str u3) []] (.v (.bool r) []) [] := by
  refine FnO.o2 Try.func195 (rfl : Try.f195.body = some _) ?_
  intro w0 X0 Fin pv0 pb
  unfold pspec_Control at h
  apply Wc.seq
  refine Wc.r0 ⟨[tS 0 u3], [], []⟩ ?_
  apply Wc.seq
  apply Wc.seq
  refine Wc.r0 ⟨[tS 3 u3], [], []⟩ ?_
  refine Wc.block ?_
  refine Wc.seqJ (fun st => ∃ (uax : Bool), st = ⟨[tS 3 u3, tB 4 uax], [], []⟩ ∧ pspec_Control_J1 k u3 uax = some r) ?_ ?_
  · apply Wc.seq
    refine Wc.r0 ⟨[tS 3 u3, tB 4 (sEq u3 (bs [116, 114, 117, 101, 47, 48]))], [], []⟩ ?_
    rcases oif h with ⟨h729, h⟩ | ⟨h729, h⟩
    · refine Wc.cT h729 ?_
      refine Wc.skip ?_
      exact ⟨_, rfl, h⟩
    · refine Wc.cF h729 ?_
      apply Wc.seq
      refine Wc.r0 ⟨[tS 3 u3, tB 4 (sEq u3 (bs [102, 97, 105, 108, 47, 48]))], [], []⟩ ?_
      rcases oif h with ⟨h730, h⟩ | ⟨h730, h⟩
      · refine Wc.cT h730 ?_
        refine Wc.skip ?_
        exact ⟨_, rfl, h⟩
      · refine Wc.cF h730 ?_
        apply Wc.seq
        refine Wc.r0 ⟨[tS 3 u3, tB 4 (sEq u3 (bs [33, 47, 48]))], [], []⟩ ?_
        rcases oif h with ⟨h731, h⟩ | ⟨h731, h⟩
        · refine Wc.cT h731 ?_
          refine Wc.skip ?_
          exact ⟨_, rfl, h⟩
        · refine Wc.cF h731 ?_
          apply Wc.seq
          refine Wc.r0 ⟨[tS 3 u3, tB 4 (sEq u3 (bs [44, 47, 50]))], [], []⟩ ?_
          rcases oif h with ⟨h732, h⟩ | ⟨h732, h⟩
          · refine Wc.cT h732 ?_
            refine Wc.skip ?_
            exact ⟨_, rfl, h⟩
          · refine Wc.cF h732 ?_
            apply Wc.seq
            refine Wc.r0 ⟨[tS 3 u3, tB 4 (sEq u3 (bs [59, 47, 50]))], [], []⟩ ?_
            rcases oif h with ⟨h733, h⟩ | ⟨h733, h⟩
            · refine Wc.cT h733 ?_
              refine Wc.skip ?_
              exact ⟨_, rfl, h⟩
            · refine Wc.cF h733 ?_
              apply Wc.seq
              refine Wc.r0 ⟨[tS 3 u3, tB 4 (sEq u3 (bs [45, 62, 47, 50]))], [], []⟩ ?_
              rcases oif h with ⟨h734, h⟩ | ⟨h734, h⟩
              · refine Wc.cT h734 ?_
                refine Wc.skip ?_
                exact ⟨_, rfl, h⟩
              · refine Wc.cF h734 ?_
                apply Wc.seq
                refine Wc.r0 ⟨[tS 3 u3, tB 4 (sEq u3 (bs [92, 43, 47, 49]))], [], []⟩ ?_
                rcases oif h with ⟨h735, h⟩ | ⟨h735, h⟩
                · refine Wc.cT h735 ?_
                  refine Wc.skip ?_
                  exact ⟨_, rfl, h⟩
                · refine Wc.cF h735 ?_
                  apply Wc.seq
                  refine Wc.r0 ⟨[tS 3 u3, tB 4 (sEq u3 (bs [99, 97, 108, 108, 47, 49]))], [], []⟩ ?_
                  rcases oif h with ⟨h736, h⟩ | ⟨h736, h⟩
                  · refine Wc.cT h736 ?_
                    refine Wc.skip ?_
                    exact ⟨_, rfl, h⟩
                  · refine Wc.cF h736 ?_
                    apply Wc.seq
                    refine Wc.r0 ⟨[tS 3 u3, tB 4 (sEq u3 (bs [99, 97, 108, 108, 47, 50]))], [], []⟩ ?_
                    rcases oif h with ⟨h737, h⟩ | ⟨h737, h⟩
                    · refine Wc.cT h737 ?_
                      refine Wc.skip ?_
                      exact ⟨_, rfl, h⟩
                    · refine Wc.cF h737 ?_
                      apply Wc.seq
                      refine Wc.r0 ⟨[tS 3 u3, tB 4 (sEq u3 (bs [99, 97, 108, 108, 47, 51]))], [], []⟩ ?_
                      rcases oif h with ⟨h738, h⟩ | ⟨h738, h⟩
                      · refine Wc.cT h738 ?_
                        refine Wc.skip ?_
                        exact ⟨_, rfl, h⟩
                      · refine Wc.cF h738 ?_
                        apply Wc.seq
                        refine Wc.r0 ⟨[tS 3 u3, tB 4 (sEq u3 (bs [99, 97, 116, 99, 104, 47, 51]))], [], []⟩ ?_
                        rcases oif h with ⟨h739, h⟩ | ⟨h739, h⟩
                        · refine Wc.cT h739 ?_
                          refine Wc.skip ?_
                          exact ⟨_, rfl, h⟩
                        · refine Wc.cF h739 ?_
                          refine Wc.r0 ⟨[tS 3 u3, tB 4 (sEq u3 (bs [116, 104, 114, 111, 119, 47, 49]))], [], []⟩ ?_
                          exact ⟨_, rfl, h⟩
  · rintro st ⟨uax, rfl, h⟩
    rcases oif h with ⟨h701, h⟩ | ⟨h701, h⟩
    · refine Wc.cT h701 ?_
      apply Wc.seq
      refine Wc.r0 ⟨[tB 2 true], [], []⟩ ?_
      obtain rfl := Option.some.inj h; exact Wc.ret dn
    · refine Wc.cF h701 ?_
      apply Wc.seq
      apply Wc.seq
      refine Wc.r0 ⟨[tS 3 u3, tB 17 (sEq u3 (bs [61, 47, 50]))], [], []⟩ ?_
      rcases oif h with ⟨h702, h⟩ | ⟨h702, h⟩
      · refine Wc.cT h702 ?_
        refine Wc.fx [] ⟨[tB 17 (sEq u3 (bs [61, 47, 50]))], [], []⟩ ?_
        refine Wc.skip ?_
        rcases oif h with ⟨h703, h⟩ | ⟨h703, h⟩
        · refine Wc.cT h703 ?_
          apply Wc.seq
          refine Wc.r0 ⟨[tB 2 true], [], []⟩ ?_
          obtain rfl := Option.some.inj h; exact Wc.ret dn
        · refine Wc.cF h703 ?_
          refine Wc.fx [] ⟨[], [], []⟩ ?_
          refine Wc.skip ?_
          apply Wc.seq
          refine Wc.r0 ⟨[tB 2 false], [], []⟩ ?_
          obtain rfl := Option.some.inj h; exact Wc.ret dn
      · refine Wc.cF h702 ?_
        apply Wc.seq
        refine Wc.r0 ⟨[tS 3 u3, tB 17 (sEq u3 (bs [92, 61, 47, 50]))], [], []⟩ ?_
        rcases oif h with ⟨h704, h⟩ | ⟨h704, h⟩
        · refine Wc.cT h704 ?_
          refine Wc.fx [] ⟨[tB 17 (sEq u3 (bs [92, 61, 47, 50]))], [], []⟩ ?_
          refine Wc.skip ?_
          rcases oif h with ⟨h705, h⟩ | ⟨h705, h⟩
          · refine Wc.cT h705 ?_
            apply Wc.seq
            refine Wc.r0 ⟨[tB 2 true], [], []⟩ ?_
            obtain rfl := Option.some.inj h; exact Wc.ret dn
          · refine Wc.cF h705 ?_
            refine Wc.fx [] ⟨[], [], []⟩ ?_
            refine Wc.skip ?_
            apply Wc.seq
            refine Wc.r0 ⟨[tB 2 false], [], []⟩ ?_
            obtain rfl := Option.some.inj h; exact Wc.ret dn
        · refine Wc.cF h704 ?_
          apply Wc.seq
          refine Wc.r0 ⟨[tS 3 u3, tB 17 (sEq u3 (bs [61, 61, 47, 50]))], [], []⟩ ?_
          rcases oif h with ⟨h706, h⟩ | ⟨h706, h⟩
          · refine Wc.cT h706 ?_
            refine Wc.fx [] ⟨[tB 17 (sEq u3 (bs [61, 61, 47, 50]))], [], []⟩ ?_
            refine Wc.skip ?_
            rcases oif h with ⟨h707, h⟩ | ⟨h707, h⟩
            · refine Wc.cT h707 ?_
              apply Wc.seq
              refine Wc.r0 ⟨[tB 2 true], [], []⟩ ?_
              obtain rfl := Option.some.inj h; exact Wc.ret dn
            · refine Wc.cF h707 ?_
              refine Wc.fx [] ⟨[], [], []⟩ ?_
              refine Wc.skip ?_
              apply Wc.seq
              refine Wc.r0 ⟨[tB 2 false], [], []⟩ ?_
              obtain rfl := Option.some.inj h; exact Wc.ret dn
          · refine Wc.cF h706 ?_
            apply Wc.seq
            refine Wc.r0 ⟨[tS 3 u3, tB 17 (sEq u3 (bs [105, 115, 47, 50]))], [], []⟩ ?_
            rcases oif h with ⟨h708, h⟩ | ⟨h708, h⟩
            · refine Wc.cT h708 ?_
              refine Wc.fx [] ⟨[tB 17 (sEq u3 (bs [105, 115, 47, 50]))], [], []⟩ ?_
              refine Wc.skip ?_
              rcases oif h with ⟨h709, h⟩ | ⟨h709, h⟩
              · refine Wc.cT h709 ?_
                apply Wc.seq
                refine Wc.r0 ⟨[tB 2 true], [], []⟩ ?_
                obtain rfl := Option.some.inj h; exact Wc.ret dn
              · refine Wc.cF h709 ?_
                refine Wc.fx [] ⟨[], [], []⟩ ?_
                refine Wc.skip ?_
                apply Wc.seq
                refine Wc.r0 ⟨[tB 2 false], [], []⟩ ?_
                obtain rfl := Option.some.inj h; exact Wc.ret dn
            · refine Wc.cF h708 ?_
              apply Wc.seq
              refine Wc.r0 ⟨[tS 3 u3, tB 17 (sEq u3 (bs [60, 47, 50]))], [], []⟩ ?_
              rcases oif h with ⟨h710, h⟩ | ⟨h710, h⟩
              · refine Wc.cT h710 ?_
                refine Wc.fx [] ⟨[tB 17 (sEq u3 (bs [60, 47, 50]))], [], []⟩ ?_
                refine Wc.skip ?_
                rcases oif h with ⟨h711, h⟩ | ⟨h711, h⟩
                · refine Wc.cT h711 ?_
                  apply Wc.seq
                  refine Wc.r0 ⟨[tB 2 true], [], []⟩ ?_
                  obtain rfl := Option.some.inj h; exact Wc.ret dn
                · refine Wc.cF h711 ?_
                  refine Wc.fx [] ⟨[], [], []⟩ ?_
                  refine Wc.skip ?_
                  apply Wc.seq
                  refine Wc.r0 ⟨[tB 2 false], [], []⟩ ?_
                  obtain rfl := Option.some.inj h; exact Wc.ret dn
              · refine Wc.cF h710 ?_
                apply Wc.seq
                refine Wc.r0 ⟨[tS 3 u3, tB 17 (sEq u3 (bs [61, 58, 61, 47, 50]))], [], []⟩ ?_
                rcases oif h with ⟨h712, h⟩ | ⟨h712, h⟩
                · refine Wc.cT h712 ?_
                  refine Wc.fx [] ⟨[tB 17 (sEq u3 (bs [61, 58, 61, 47, 50]))], [], []⟩ ?_
                  refine Wc.skip ?_
                  rcases oif h with ⟨h713, h⟩ | ⟨h713, h⟩
                  · refine Wc.cT h713 ?_
                    apply Wc.seq
                    refine Wc.r0 ⟨[tB 2 true], [], []⟩ ?_
                    obtain rfl := Option.some.inj h; exact Wc.ret dn
                  · refine Wc.cF h713 ?_
                    refine Wc.fx [] ⟨[], [], []⟩ ?_
                    refine Wc.skip ?_
                    apply Wc.seq
                    refine Wc.r0 ⟨[tB 2 false], [], []⟩ ?_
                    obtain rfl := Option.some.inj h; exact Wc.ret dn
                · refine Wc.cF h712 ?_
                  apply Wc.seq
                  refine Wc.r0 ⟨[tS 3 u3, tB 17 (sEq u3 (bs [118, 97, 114, 47, 49]))], [], []⟩ ?_
                  rcases oif h with ⟨h714, h⟩ | ⟨h714, h⟩
                  · refine Wc.cT h714 ?_
                    refine Wc.fx [] ⟨[tB 17 (sEq u3 (bs [118, 97, 114, 47, 49]))], [], []⟩ ?_
                    refine Wc.skip ?_
                    rcases oif h with ⟨h715, h⟩ | ⟨h715, h⟩
                    · refine Wc.cT h715 ?_
                      apply Wc.seq
                      refine Wc.r0 ⟨[tB 2 true], [], []⟩ ?_
                      obtain rfl := Option.some.inj h; exact Wc.ret dn
                    · refine Wc.cF h715 ?_
                      refine Wc.fx [] ⟨[], [], []⟩ ?_
                      refine Wc.skip ?_
                      apply Wc.seq
                      refine Wc.r0 ⟨[tB 2 false], [], []⟩ ?_
                      obtain rfl := Option.some.inj h; exact Wc.ret dn
                  · refine Wc.cF h714 ?_
                    apply Wc.seq
                    refine Wc.r0 ⟨[tS 3 u3, tB 17 (sEq u3 (bs [97, 116, 111, 109, 47, 49]))], [], []⟩ ?_
                    rcases oif h with ⟨h716, h⟩ | ⟨h716, h⟩
                    · refine Wc.cT h716 ?_
                      refine Wc.fx [] ⟨[tB 17 (sEq u3 (bs [97, 116, 111, 109, 47, 49]))], [], []⟩ ?_
                      refine Wc.skip ?_
                      rcases oif h with ⟨h717, h⟩ | ⟨h717, h⟩
                      · refine Wc.cT h717 ?_
                        apply Wc.seq
                        refine Wc.r0 ⟨[tB 2 true], [], []⟩ ?_
                        obtain rfl := Option.some.inj h; exact Wc.ret dn
                      · refine Wc.cF h717 ?_
                        refine Wc.fx [] ⟨[], [], []⟩ ?_
                        refine Wc.skip ?_
                        apply Wc.seq
                        refine Wc.r0 ⟨[tB 2 false], [], []⟩ ?_
                        obtain rfl := Option.some.inj h; exact Wc.ret dn
                    · refine Wc.cF h716 ?_
                      apply Wc.seq
                      refine Wc.r0 ⟨[tS 3 u3, tB 17 (sEq u3 (bs [119, 114, 105, 116, 101, 47, 49]))], [], []⟩ ?_
                      rcases oif h with ⟨h718, h⟩ | ⟨h718, h⟩
                      · refine Wc.cT h718 ?_
                        refine Wc.fx [] ⟨[tB 17 (sEq u3 (bs [119, 114, 105, 116, 101, 47, 49]))], [], []⟩ ?_
                        refine Wc.skip ?_
                        rcases oif h with ⟨h719, h⟩ | ⟨h719, h⟩
                        · refine Wc.cT h719 ?_
                          apply Wc.seq
                          refine Wc.r0 ⟨[tB 2 true], [], []⟩ ?_
                          obtain rfl := Option.some.inj h; exact Wc.ret dn
                        · refine Wc.cF h719 ?_
                          refine Wc.fx [] ⟨[], [], []⟩ ?_
                          refine Wc.skip ?_
                          apply Wc.seq
                          refine Wc.r0 ⟨[tB 2 false], [], []⟩ ?_
                          obtain rfl := Option.some.inj h; exact Wc.ret dn
                      · refine Wc.cF h718 ?_
                        apply Wc.seq
                        refine Wc.r0 ⟨[tS 3 u3, tB 17 (sEq u3 (bs [97, 115, 115, 101, 114, 116, 122, 47, 49]))], [], []⟩ ?_
                        rcases oif h with ⟨h720, h⟩ | ⟨h720, h⟩
                        · refine Wc.cT h720 ?_
                          refine Wc.fx [] ⟨[tB 17 (sEq u3 (bs [97, 115, 115, 101, 114, 116, 122, 47, 49]))], [], []⟩ ?_
                          refine Wc.skip ?_
                          rcases oif h with ⟨h721, h⟩ | ⟨h721, h⟩
                          · refine Wc.cT h721 ?_
                            apply Wc.seq
                            refine Wc.r0 ⟨[tB 2 true], [], []⟩ ?_
                            obtain rfl := Option.some.inj h; exact Wc.ret dn
                          · refine Wc.cF h721 ?_
                            refine Wc.fx [] ⟨[], [], []⟩ ?_
                            refine Wc.skip ?_
                            apply Wc.seq
                            refine Wc.r0 ⟨[tB 2 false], [], []⟩ ?_
                            obtain rfl := Option.some.inj h; exact Wc.ret dn
                        · refine Wc.cF h720 ?_
                          apply Wc.seq
                          refine Wc.r0 ⟨[tS 3 u3, tB 17 (sEq u3 (bs [114, 101, 116, 114, 97, 99, 116, 47, 49]))], [], []⟩ ?_
                          rcases oif h with ⟨h722, h⟩ | ⟨h722, h⟩
                          · refine Wc.cT h722 ?_
                            refine Wc.fx [] ⟨[tB 17 (sEq u3 (bs [114, 101, 116, 114, 97, 99, 116, 47, 49]))], [], []⟩ ?_
                            refine Wc.skip ?_
                            rcases oif h with ⟨h723, h⟩ | ⟨h723, h⟩
                            · refine Wc.cT h723 ?_
                              apply Wc.seq
                              refine Wc.r0 ⟨[tB 2 true], [], []⟩ ?_
                              obtain rfl := Option.some.inj h; exact Wc.ret dn
                            · refine Wc.cF h723 ?_
                              refine Wc.fx [] ⟨[], [], []⟩ ?_
                              refine Wc.skip ?_
                              apply Wc.seq
                              refine Wc.r0 ⟨[tB 2 false], [], []⟩ ?_
                              obtain rfl := Option.some.inj h; exact Wc.ret dn
                          · refine Wc.cF h722 ?_
                            apply Wc.seq
                            refine Wc.r0 ⟨[tS 3 u3, tB 17 (sEq u3 (bs [58, 45, 47, 50]))], [], []⟩ ?_
                            rcases oif h with ⟨h724, h⟩ | ⟨h724, h⟩
                            · refine Wc.cT h724 ?_
                              refine Wc.fx [] ⟨[tB 17 (sEq u3 (bs [58, 45, 47, 50]))], [], []⟩ ?_
                              refine Wc.skip ?_
                              rcases oif h with ⟨h725, h⟩ | ⟨h725, h⟩
                              · refine Wc.cT h725 ?_
                                apply Wc.seq
                                refine Wc.r0 ⟨[tB 2 true], [], []⟩ ?_
                                obtain rfl := Option.some.inj h; exact Wc.ret dn
                              · refine Wc.cF h725 ?_
                                refine Wc.fx [] ⟨[], [], []⟩ ?_
                                refine Wc.skip ?_
                                apply Wc.seq
                                refine Wc.r0 ⟨[tB 2 false], [], []⟩ ?_
                                obtain rfl := Option.some.inj h; exact Wc.ret dn
                            · refine Wc.cF h724 ?_
                              apply Wc.seq
                              refine Wc.r0 ⟨[tS 3 u3, tB 17 (sEq u3 (bs [58, 45, 47, 49]))], [], []⟩ ?_
                              rcases oif h with ⟨h726, h⟩ | ⟨h726, h⟩
                              · refine Wc.cT h726 ?_
                                refine Wc.fx [] ⟨[tB 17 (sEq u3 (bs [58, 45, 47, 49]))], [], []⟩ ?_
                                refine Wc.skip ?_
                                rcases oif h with ⟨h727, h⟩ | ⟨h727, h⟩
                                · refine Wc.cT h727 ?_
                                  apply Wc.seq
                                  refine Wc.r0 ⟨[tB 2 true], [], []⟩ ?_
                                  obtain rfl := Option.some.inj h; exact Wc.ret dn
                                · refine Wc.cF h727 ?_
                                  refine Wc.fx [] ⟨[], [], []⟩ ?_
                                  refine Wc.skip ?_
                                  apply Wc.seq
                                  refine Wc.r0 ⟨[tB 2 false], [], []⟩ ?_
                                  obtain rfl := Option.some.inj h; exact Wc.ret dn
                              · refine Wc.cF h726 ?_
                                refine Wc.r0 ⟨[tB 17 (sEq u3 (bs [45, 45, 62, 47, 50]))], [], []⟩ ?_
                                rcases oif h with ⟨h728, h⟩ | ⟨h728, h⟩
                                · refine Wc.cT h728 ?_
                                  apply Wc.seq
                                  refine Wc.r0 ⟨[tB 2 true], [], []⟩ ?_
                                  obtain rfl := Option.some.inj h; exact Wc.ret dn
                                · refine Wc.cF h728 ?_
                                  refine Wc.fx [] ⟨[], [], []⟩ ?_
                                  refine Wc.skip ?_
                                  apply Wc.seq
                                  refine Wc.r0 ⟨[tB 2 false], [], []⟩ ?_
                                  obtain rfl := Option.some.inj h; exact Wc.ret dn

def pspec_l08Head (k : Nat) (uay : GTerm) : Option Bool :=
  (pspec_PredOf k uay).bind fun uaz =>
  if (!(sEq uaz (bs []))) = true then
    (pspec_Control k uaz).bind fun ud0 =>
    some (!ud0)
  else
    some false
theorem cspec_l08Head {k : Nat} {uay : GTerm} {r : Bool} (h : pspec_l08Head k uay = some r) : FnO Try.prog 183 [.v (.agg (GTerm.q uay)) []] (.v (.bool r) []) [] := by
  refine FnO.o2 Try.func183 (rfl : Try.f183.body = some _) ?_
  intro w0 X0 Fin pv0 pb
  unfold pspec_l08Head at h
  apply Wc.seq
  refine Wc.r0 ⟨[tP 1 1], [bC 1 (GTerm.q uay)], []⟩ ?_
  apply Wc.seq
  obtain ⟨uaz, h740, h⟩ := obind h
  refine Wc.r2 [{}, { r := some (.v (.str uaz) []) }] ⟨[tS 3 uaz], [], []⟩ (.cons (cspec_PredOf h740) .nil) ?_
  apply Wc.seq
  rcases oif h with ⟨h741, h⟩ | ⟨h741, h⟩
  · obtain ⟨ud0, h742, h⟩ := obind h
    refine Wc.r2 [{}, {}, { re := some (.bool true) }, {}, { r := some (.v (.bool ud0) []) }] ⟨[tB 2 (!ud0)], [], []⟩ (.cons (congrArg AV.bool h741) (.cons (cspec_Control h742) .nil)) ?_
    obtain rfl := Option.some.inj h; exact Wc.ret dn
  · refine Wc.r2 [{}, {}, { re := some (.bool false) }] ⟨[tB 2 false], [], []⟩ (.cons (congrArg AV.bool h741) .nil) ?_
    obtain rfl := Option.some.inj h; exact Wc.ret dn

def pspec_l08ClauseOfRaw_J1 (k : Nat) (u4j : GClause) : Option (GClause × Bool) :=
  (pspec_l08Head k u4j.gHead).bind fun ud1 =>
  if (!ud1) = true then
    some (GClause.mk (GTerm.mk 0 (bs []) 0 []) (GTerm.mk 0 (bs []) 0 []) (bs []), false)
  else
    (pspec_TermOk k u4j.gBody).bind fun ud2 =>
    if (!ud2) = true then
      some (GClause.mk (GTerm.mk 0 (bs []) 0 []) (GTerm.mk 0 (bs []) 0 []) (bs []), false)
    else
      some (u4j, true)
def pspec_l08ClauseOfRaw (k : Nat) (zs : GTerm) (u23 : ByteArray) : Option (GClause × Bool) :=
  (pspec_TermOk k zs).bind fun ud3 =>
  if (!ud3) = true then
    some (GClause.mk (GTerm.mk 0 (bs []) 0 []) (GTerm.mk 0 (bs []) 0 []) (bs []), false)
  else
    (pspec_l03Atom k (bs [116, 114, 117, 101])).bind fun u1i =>
    (pspec_l03Is k zs (bs [58, 45]) 2).bind fun ud4 =>
    if ud4 = true then
      (at' zs.gKids 0).bind fun zt =>
      (at' zs.gKids 1).bind fun u07 =>
      if (u07.gKind == 1) = true then
        pspec_l08ClauseOfRaw_J1 k (GClause.mk zt (GTerm.mk 4 (bs [99, 97, 108, 108]) 0 [u07]) u23)
      else
        pspec_l08ClauseOfRaw_J1 k (GClause.mk zt u07 u23)
    else
      pspec_l08ClauseOfRaw_J1 k (GClause.mk zs u1i u23)
set_option maxHeartbeats 4000000 in
theorem cspec_l08ClauseOfRaw {k : Nat} {zs : GTerm} {u23 : ByteArray} {r : GClause × Bool} (h : pspec_l08ClauseOfRaw k zs u23 = some r) : FnO Try.prog 167 [.v (.agg (GTerm.q zs)) [], .v (.str u23) []] (.v (.tup [.agg (GClause.q r.1), .bool r.2]) []) [] := by
  refine FnO.o2 Try.func167 (rfl : Try.f167.body = some _) ?_
  intro w0 X0 Fin pv0 pb
  unfold pspec_l08ClauseOfRaw at h
  apply Wc.seq
  refine Wc.r0 ⟨[tS 1 u23, tP 2 2, tP 4 4], [bC 2 (GTerm.q zs), (4, .cells GClause.z [(3, .app 41), (7, .app 41)])], []⟩ ?_
  apply Wc.seq
  apply Wc.seq
  obtain ⟨ud3, h755, h⟩ := obind h
  refine Wc.r2 [{}, { r := some (.v (.bool ud3) []) }] ⟨[tS 1 u23, tP 2 2, tP 4 4, tB 9 (!ud3)], [bC 2 (GTerm.q zs), (4, .cells GClause.z [(3, .app 41), (7, .app 41)])], []⟩ (.cons (cspec_TermOk h755) .nil) ?_
  rcases oif h with ⟨h756, h⟩ | ⟨h756, h⟩
  · refine Wc.cT h756 ?_
    apply Wc.seq
    refine Wc.r1 [{}, { tk := [10] }] ⟨[tP 4 4, tB 5 false], [(4, .cells GClause.z [(3, .app 41), (7, .app 41)])], []⟩ ?_
    refine Wc.fx [.un (.b 4 3), .un (.b 4 7)] ⟨[tP 4 4, tB 5 false], [bC 4 GClause.z], []⟩ ?_
    obtain rfl := Option.some.inj h; exact Wc.ret dn
  · refine Wc.cF h756 ?_
    refine Wc.fx [] ⟨[tS 1 u23, tP 2 2, tP 4 4], [bC 2 (GTerm.q zs), (4, .cells GClause.z [(3, .app 41), (7, .app 41)])], []⟩ ?_
    refine Wc.skip ?_
    apply Wc.seq
    obtain ⟨u1i, h757, h⟩ := obind h
    refine Wc.draw hmix [{}, { r := some (.v (.agg (GTerm.q u1i)) [(3, .app 41)]) }, {}, { tk := [12] }, {}, { tk := [14] }] [] [2, 4, 6] [2, 4, 6] [] ⟨[tP 2 2, tP 4 4, tP 6 6], [bC 2 (GTerm.q zs), (4, .cells GClause.z [(3, .app 41), (7, .app 41)]), (6, .cells [aI zs.gKind, .str zs.gName, aI zs.gNum, .sl (List.map GTerm.c zs.gKids), aI u1i.gKind, .str u1i.gName, aI u1i.gNum, .sl (List.map GTerm.c u1i.gKids), .str u23] [(7, .app 41)])], []⟩ _ (by kernel_rfl) (fun X => by kernel_rfl) (.cons (cspec_l03Atom h757) .nil) ?_
    refine Wc.seqJ (fun st => ∃ (u4j : GClause), st = ⟨[tP 4 4, tP 6 6], [(4, .cells GClause.z [(3, .app 41), (7, .app 41)]), bC 6 (GClause.q u4j)], []⟩ ∧ pspec_l08ClauseOfRaw_J1 k u4j = some r) ?_ ?_
    · apply Wc.seq
      obtain ⟨ud4, h762, h⟩ := obind h
      refine Wc.r2 [{}, { r := some (.v (.bool ud4) []) }] ⟨[tP 2 2, tP 4 4, tP 6 6, tB 16 ud4], [bC 2 (GTerm.q zs), (4, .cells GClause.z [(3, .app 41), (7, .app 41)]), (6, .cells [aI zs.gKind, .str zs.gName, aI zs.gNum, .sl (List.map GTerm.c zs.gKids), aI u1i.gKind, .str u1i.gName, aI u1i.gNum, .sl (List.map GTerm.c u1i.gKids), .str u23] [(7, .app 41)])], []⟩ (.cons (cspec_l03Is h762) .nil) ?_
      rcases oif h with ⟨h763, h⟩ | ⟨h763, h⟩
      · refine Wc.cT h763 ?_
        apply Wc.seq
        obtain ⟨zt, h764, h⟩ := obind h
        refine Wc.r2 [{}, {}, { v := some (.vptr (GTerm.q zt)) }] ⟨[tP 2 2, tP 4 4, tP 6 6], [bC 2 (GTerm.q zs), (4, .cells GClause.z [(3, .app 41), (7, .app 41)]), (6, .cells [aI zt.gKind, .str zt.gName, aI zt.gNum, .sl (List.map GTerm.c zt.gKids), aI u1i.gKind, .str u1i.gName, aI u1i.gNum, .sl (List.map GTerm.c u1i.gKids), .str u23] [(7, .app 41)])], []⟩ (.cons (at_obl (c := GTerm.c) (GTerm.c_eq zt) GTerm.c_len h764) (.cons (len_ok 4 (GTerm.q zt)) .nil)) ?_
        apply Wc.seq
        obtain ⟨u07, h765, h⟩ := obind h
        refine Wc.r2 [{}, {}, { v := some (.vptr (GTerm.q u07)) }] ⟨[tP 4 4, tP 6 6], [(4, .cells GClause.z [(3, .app 41), (7, .app 41)]), bC 6 [aI zt.gKind, .str zt.gName, aI zt.gNum, .sl (List.map GTerm.c zt.gKids), aI u07.gKind, .str u07.gName, aI u07.gNum, .sl (List.map GTerm.c u07.gKids), .str u23]], []⟩ (.cons (at_obl (c := GTerm.c) (GTerm.c_eq u07) GTerm.c_len h765) (.cons (len_ok 4 (GTerm.q u07)) .nil)) ?_
        apply Wc.seq
        refine Wc.r0 ⟨[tP 4 4, tP 6 6, tB 30 (u07.gKind == 1)], [(4, .cells GClause.z [(3, .app 41), (7, .app 41)]), bC 6 [aI zt.gKind, .str zt.gName, aI zt.gNum, .sl (List.map GTerm.c zt.gKids), aI u07.gKind, .str u07.gName, aI u07.gNum, .sl (List.map GTerm.c u07.gKids), .str u23]], []⟩ ?_
        rcases oif h with ⟨h766, h⟩ | ⟨h766, h⟩
        · refine Wc.cT h766 ?_
          refine Wc.r3 [{}, {}, { c := some (List.map GTerm.c [u07]) }, { tk := [33] }, {}, { tk := [34] }] [.un (.b 6 7)] ⟨[tP 4 4, tP 6 6], [(4, .cells GClause.z [(3, .app 41), (7, .app 41)]), bC 6 [aI zt.gKind, .str zt.gName, aI zt.gNum, .sl (List.map GTerm.c zt.gKids), aI 4, .str (bs [99, 97, 108, 108]), aI 0, .sl (List.map GTerm.c [u07]), .str u23]], []⟩ (.cons (cl_cons (c := GTerm.c) (x := u07) (GTerm.c_eq u07) (cl_nil GTerm.c)) .nil) ?_
          exact ⟨_, rfl, h⟩
        · refine Wc.cF h766 ?_
          refine Wc.fx [] ⟨[tP 4 4, tP 6 6], [(4, .cells GClause.z [(3, .app 41), (7, .app 41)]), bC 6 [aI zt.gKind, .str zt.gName, aI zt.gNum, .sl (List.map GTerm.c zt.gKids), aI u07.gKind, .str u07.gName, aI u07.gNum, .sl (List.map GTerm.c u07.gKids), .str u23]], []⟩ ?_
          refine Wc.skip ?_
          exact ⟨_, rfl, h⟩
      · refine Wc.cF h763 ?_
        refine Wc.fx [.un (.b 6 7)] ⟨[tP 4 4, tP 6 6], [(4, .cells GClause.z [(3, .app 41), (7, .app 41)]), bC 6 [aI zs.gKind, .str zs.gName, aI zs.gNum, .sl (List.map GTerm.c zs.gKids), aI u1i.gKind, .str u1i.gName, aI u1i.gNum, .sl (List.map GTerm.c u1i.gKids), .str u23]], []⟩ ?_
        refine Wc.skip ?_
        exact ⟨_, rfl, h⟩
    · rintro st ⟨u4j, rfl, h⟩
      apply Wc.seq
      apply Wc.seq
      obtain ⟨ud1, h758, h⟩ := obind h
      rcases oif h with ⟨h759, h⟩ | ⟨h759, h⟩
      · refine Wc.r2 [{}, {}, { r := some (.v (.bool ud1) []) }, {}, { re := some (.bool true) }] ⟨[tP 4 4, tP 6 6, tB 45 true], [(4, .cells GClause.z [(3, .app 41), (7, .app 41)]), bC 6 (GClause.q u4j)], []⟩ (.cons (cspec_l08Head h758) (.cons (congrArg AV.bool h759) .nil)) ?_
        refine Wc.cT rfl ?_
        apply Wc.seq
        refine Wc.r1 [{}, { tk := [46] }] ⟨[tP 4 4, tB 5 false], [(4, .cells GClause.z [(3, .app 41), (7, .app 41)])], []⟩ ?_
        refine Wc.fx [.un (.b 4 3), .un (.b 4 7)] ⟨[tP 4 4, tB 5 false], [bC 4 GClause.z], []⟩ ?_
        obtain rfl := Option.some.inj h; exact Wc.ret dn
      · obtain ⟨ud2, h760, h⟩ := obind h
        refine Wc.r2 [{}, {}, { r := some (.v (.bool ud1) []) }, {}, { re := some (.bool false) }, {}, {}, { r := some (.v (.bool ud2) []) }] ⟨[tP 4 4, tP 6 6, tB 45 (!ud2)], [(4, .cells GClause.z [(3, .app 41), (7, .app 41)]), bC 6 (GClause.q u4j)], []⟩ (.cons (cspec_l08Head h758) (.cons (congrArg AV.bool h759) (.cons (cspec_TermOk h760) .nil))) ?_
        rcases oif h with ⟨h761, h⟩ | ⟨h761, h⟩
        · refine Wc.cT h761 ?_
          apply Wc.seq
          refine Wc.r1 [{}, { tk := [46] }] ⟨[tP 4 4, tB 5 false], [(4, .cells GClause.z [(3, .app 41), (7, .app 41)])], []⟩ ?_
          refine Wc.fx [.un (.b 4 3), .un (.b 4 7)] ⟨[tP 4 4, tB 5 false], [bC 4 GClause.z], []⟩ ?_
          obtain rfl := Option.some.inj h; exact Wc.ret dn
        · refine Wc.cF h761 ?_
          refine Wc.fx [] ⟨[tP 4 4, tP 6 6], [(4, .cells GClause.z [(3, .app 41), (7, .app 41)]), bC 6 (GClause.q u4j)], []⟩ ?_
          refine Wc.skip ?_
          apply Wc.seq
          refine Wc.r0 ⟨[tP 4 4, tB 5 true], [bC 4 (GClause.q u4j)], []⟩ ?_
          obtain rfl := Option.some.inj h; exact Wc.ret dn

def pspec_l34Terms_L1 (k : Nat) (rspec_l34Term : GTerm → Option GTerm) (rspec_l34Terms : (List GTerm) → Option (List GTerm)) (u00 : List GTerm) : Nat → (List GTerm) → Int → Option (Out (List GTerm) (List GTerm))
  | 0, _, _ => none
  | m + 1, u2u, u3z =>
    if (decide (u3z < (u00.length : Int))) = true then
      (at' u00 u3z).bind fun ub0 =>
      (rspec_l34Term ub0).bind fun u3k =>
      if u2u.length + [u3k].length ≤ 1073741824 then
        pspec_l34Terms_L1 k rspec_l34Term rspec_l34Terms u00 m (u2u ++ [u3k]) (wr.i64 (u3z + 1))
      else none
    else
      some (.done u2u)
mutual
def pspec_l34Term : Nat → GTerm → Option GTerm
  | 0, _ => none
  | k + 1, u1j =>
    (pspec_l34Terms k u1j.gKids).bind fun ub1 =>
    some (GTerm.mk u1j.gKind u1j.gName u1j.gNum ub1)
def pspec_l34Terms : Nat → (List GTerm) → Option (List GTerm)
  | 0, _ => none
  | k + 1, u00 =>
    (pspec_l34Terms_L1 k (pspec_l34Term k) (pspec_l34Terms k) u00 k [] 0).bind fun out1 => match out1 with
    | .ret r => some r
    | .done u87 =>
      some u87
end
theorem all_pspec_l34Term : ∀ k : Nat, (∀ {u1j : GTerm} {r : GTerm}, pspec_l34Term k u1j = some r → FnO Try.prog 79 [.v (.agg (GTerm.q u1j)) []] (.v (.agg (GTerm.q r)) [(3, .app 41)]) []) ∧
    (∀ {u00 : List GTerm} {r : (List GTerm)}, pspec_l34Terms k u00 = some r → FnO Try.prog 134 [.v (.sl (List.map GTerm.c u00)) []] (.v (.sl (List.map GTerm.c r)) [(0, .app 41)]) []) := by
  intro k
  induction k with
  | zero =>
    refine ⟨?_, ?_⟩
    · intro u1j r h
      exact (onone (by rw [pspec_l34Term] at h; exact h)).elim
    · intro u00 r h
      exact (onone (by rw [pspec_l34Terms] at h; exact h)).elim
  | succ k ih =>
    obtain ⟨ih_pspec_l34Term, ih_pspec_l34Terms⟩ := ih
    refine ⟨?_, ?_⟩
    · intro u1j r h
      rw [pspec_l34Term] at h
      refine FnO.o2 Try.func79 (rfl : Try.f79.body = some _) ?_
      intro w0 X0 Fin pv0 pb
      apply Wc.seq
      refine Wc.r0 ⟨[tP 1 1, tP 2 2], [bC 1 (GTerm.q u1j), (2, .cells GTerm.z [(3, .app 41)])], []⟩ ?_
      apply Wc.seq
      obtain ⟨ub1, h779, h⟩ := obind h
      refine Wc.r2 [{}, {}, { r := some (.v (.sl (List.map GTerm.c ub1)) [(0, .app 41)]) }, {}, { tk := [5] }] ⟨[tP 1 1, tP 2 2], [(1, .cells [aI u1j.gKind, .str u1j.gName, aI u1j.gNum, .sl (List.map GTerm.c ub1)] [(3, .app 41)]), (2, .cells GTerm.z [(3, .app 41)])], []⟩ (.cons (ih_pspec_l34Terms h779) .nil) ?_
      apply Wc.seq
      refine Wc.r1 [{ md := 1 }, { tk := [7] }] ⟨[tP 2 2], [(2, .cells [aI u1j.gKind, .str u1j.gName, aI u1j.gNum, .sl (List.map GTerm.c ub1)] [(3, .app 41)])], []⟩ ?_
      obtain rfl := Option.some.inj h; exact Wc.ret dn
    · intro u00 r h
      rw [pspec_l34Terms] at h
      refine FnO.o2 Try.func134 (rfl : Try.f134.body = some _) ?_
      intro w0 X0 Fin pv0 pb
      apply Wc.seq
      refine Wc.r0 ⟨[tV 0 (.sl (List.map GTerm.c u00))], [], []⟩ ?_
      apply Wc.seq
      refine Wc.r2 [{ c := some (List.map GTerm.c []) }, { tk := [5] }] ⟨[tV 0 (.sl (List.map GTerm.c u00)), (3, (.v (.sl (List.map GTerm.c [])), [(0, .app 41)]))], [], []⟩ (.cons (cl_nil GTerm.c) .nil) ?_
      apply Wc.seq
      apply Wc.seq
      refine Wc.r0 ⟨[tV 0 (.sl (List.map GTerm.c u00)), (3, (.v (.sl (List.map GTerm.c [])), [(0, .app 41)])), tI 4 0], [], []⟩ ?_
      obtain ⟨out1, h780, h⟩ := obind h
      refine Wc.lastJ (fun st => ∃ (u87 : List GTerm), out1 = .done u87 ∧ st = ⟨[(3, (.v (.sl (List.map GTerm.c u87)), [(0, .app 41)]))], [], []⟩) ?_ ?_
      · refine Wc.block ?_
        refine Wc.loop (fun m st => ∃ (u2u : List GTerm) (u3z : Int), st = ⟨[tV 0 (.sl (List.map GTerm.c u00)), (3, (.v (.sl (List.map GTerm.c u2u)), [(0, .app 41)])), tI 4 u3z], [], []⟩ ∧ pspec_l34Terms_L1 k (pspec_l34Term k) (pspec_l34Terms k) u00 m u2u u3z = some out1) ?_ k ⟨_, _, rfl, h780⟩
        rintro m st ⟨u2u, u3z, rfl, h780⟩
        cases m with
        | zero => exact (onone h780).elim
        | succ m =>
          apply Wc.seq
          apply Wc.seq
          refine Wc.r2 [{}, {}, { v := some (aI (u00.length : Int)) }] ⟨[tV 0 (.sl (List.map GTerm.c u00)), (3, (.v (.sl (List.map GTerm.c u2u)), [(0, .app 41)])), tI 4 u3z, tB 9 (decide (u3z < (u00.length : Int)))], [], []⟩ (.cons (len_obl GTerm.c u00) .nil) ?_
          rcases oif h780 with ⟨h781, h780⟩ | ⟨h781, h780⟩
          · refine Wc.cT h781 ?_
            refine Wc.fx [] ⟨[tV 0 (.sl (List.map GTerm.c u00)), (3, (.v (.sl (List.map GTerm.c u2u)), [(0, .app 41)])), tI 4 u3z], [], []⟩ ?_
            refine Wc.skip ?_
            apply Wc.seq
            refine Wc.block ?_
            obtain ⟨ub0, h782, h780⟩ := obind h780
            obtain ⟨u3k, h783, h780⟩ := obind h780
            obtain ⟨h784, h780⟩ := oguard h780
            refine Wc.r2 [{ tk := [3] }, {}, {}, { v := some (.vptr (GTerm.q ub0)) }, {}, { r := some (.v (.agg (GTerm.q u3k)) [(3, .app 41)]) }, { c := some (List.map GTerm.c [u3k]) }, { c := some (List.map GTerm.c (u2u ++ [u3k])), tk := [12] }, { tk := [19] }] ⟨[tV 0 (.sl (List.map GTerm.c u00)), (3, (.v (.sl (List.map GTerm.c (u2u ++ [u3k]))), [(0, .app 41)])), tI 4 u3z], [], []⟩ (.cons (at_obl (c := GTerm.c) (GTerm.c_eq ub0) GTerm.c_len h782) (.cons (len_ok 4 (GTerm.q ub0)) (.cons (ih_pspec_l34Term h783) (.cons (cl_cons (c := GTerm.c) (x := u3k) (GTerm.c_eq u3k) (cl_nil GTerm.c)) (.cons (app_re2 GTerm.c u2u [u3k]) (.cons (app_leaf (c := GTerm.c) (ys := [u3k]) GTerm.c_leaf) (.cons (app_obl2 (c := GTerm.c) (xs := u2u) (ys := [u3k]) GTerm.c_len h784) .nil))))))) ?_
            refine Wc.r0 ⟨[tV 0 (.sl (List.map GTerm.c u00)), (3, (.v (.sl (List.map GTerm.c (u2u ++ [u3k]))), [(0, .app 41)])), tI 4 (wr.i64 (u3z + 1))], [], []⟩ ?_
            exact ⟨_, Nat.lt_succ_self _, _, _, rfl, h780⟩
          · refine Wc.cF h781 ?_
            refine Wc.fx [] ⟨[(3, (.v (.sl (List.map GTerm.c u2u)), [(0, .app 41)]))], [], []⟩ ?_
            refine Wc.exit ?_
            obtain rfl := Option.some.inj h780
            exact ⟨_, rfl, rfl⟩
      · rintro st ⟨u87, rfl, rfl⟩
        apply Wc.seq
        refine Wc.r1 [{ tk := [3] }, { tk := [20] }] ⟨[(2, (.v (.sl (List.map GTerm.c u87)), [(0, .app 41)]))], [], []⟩ ?_
        obtain rfl := Option.some.inj h; exact Wc.ret dn
theorem cspec_l34Term {k : Nat} {u1j : GTerm} {r : GTerm} (h : pspec_l34Term k u1j = some r) : FnO Try.prog 79 [.v (.agg (GTerm.q u1j)) []] (.v (.agg (GTerm.q r)) [(3, .app 41)]) [] := (all_pspec_l34Term k).1 h


def pspec_l34Clause (k : Nat) (u38 : GClause) : Option GClause :=
  (pspec_l34Term k u38.gHead).bind fun u2v =>
  (pspec_l34Term k u38.gBody).bind fun u4k =>
  some (GClause.mk u2v u4k u38.gFile)
theorem cspec_l34Clause {k : Nat} {u38 : GClause} {r : GClause} (h : pspec_l34Clause k u38 = some r) : FnO Try.prog 168 [.v (.agg (GClause.q u38)) []] (.v (.agg (GClause.q r)) [(3, .app 41), (7, .app 41)]) [] := by
  refine FnO.o2 Try.func168 (rfl : Try.f168.body = some _) ?_
  intro w0 X0 Fin pv0 pb
  unfold pspec_l34Clause at h
  apply Wc.seq
  refine Wc.r0 ⟨[tP 1 1, tP 2 2], [bC 1 (GClause.q u38), (2, .cells GClause.z [(3, .app 41), (7, .app 41)])], []⟩ ?_
  apply Wc.seq
  obtain ⟨u2v, h787, h⟩ := obind h
  refine Wc.r2 [{}, {}, { r := some (.v (.agg (GTerm.q u2v)) [(3, .app 41)]) }, {}, { tk := [5] }] ⟨[tP 1 1, tP 2 2], [(1, .cells [aI u2v.gKind, .str u2v.gName, aI u2v.gNum, .sl (List.map GTerm.c u2v.gKids), aI u38.gBody.gKind, .str u38.gBody.gName, aI u38.gBody.gNum, .sl (List.map GTerm.c u38.gBody.gKids), .str u38.gFile] [(3, .app 41)]), (2, .cells GClause.z [(3, .app 41), (7, .app 41)])], []⟩ (.cons (cspec_l34Term h787) .nil) ?_
  apply Wc.seq
  obtain ⟨u4k, h788, h⟩ := obind h
  refine Wc.r2 [{}, {}, { r := some (.v (.agg (GTerm.q u4k)) [(3, .app 41)]) }, {}, { tk := [9] }] ⟨[tP 1 1, tP 2 2], [(1, .cells [aI u2v.gKind, .str u2v.gName, aI u2v.gNum, .sl (List.map GTerm.c u2v.gKids), aI u4k.gKind, .str u4k.gName, aI u4k.gNum, .sl (List.map GTerm.c u4k.gKids), .str u38.gFile] [(3, .app 41), (7, .app 41)]), (2, .cells GClause.z [(3, .app 41), (7, .app 41)])], []⟩ (.cons (cspec_l34Term h788) .nil) ?_
  apply Wc.seq
  refine Wc.r1 [{ md := 1 }, { tk := [11] }] ⟨[tP 2 2], [(2, .cells [aI u2v.gKind, .str u2v.gName, aI u2v.gNum, .sl (List.map GTerm.c u2v.gKids), aI u4k.gKind, .str u4k.gName, aI u4k.gNum, .sl (List.map GTerm.c u4k.gKids), .str u38.gFile] [(3, .app 41), (7, .app 41)])], []⟩ ?_
  obtain rfl := Option.some.inj h; exact Wc.ret dn

def pspec_ClauseOf (k : Nat) (ub2 : GTerm) (ub3 : ByteArray) : Option (GClause × Bool) :=
  (pspec_l08ClauseOfRaw k ub2 ub3).bind fun u64 =>
  (pspec_l34Clause k u64.1).bind fun ud5 =>
  some (ud5, u64.2)
theorem cspec_ClauseOf {k : Nat} {ub2 : GTerm} {ub3 : ByteArray} {r : GClause × Bool} (h : pspec_ClauseOf k ub2 ub3 = some r) : FnO Try.prog 150 [.v (.agg (GTerm.q ub2)) [], .v (.str ub3) []] (.v (.tup [.agg (GClause.q r.1), .bool r.2]) [(3, .app 41), (7, .app 41)]) [] := by
  refine FnO.o2 Try.func150 (rfl : Try.f150.body = some _) ?_
  intro w0 X0 Fin pv0 pb
  unfold pspec_ClauseOf at h
  apply Wc.seq
  refine Wc.r0 ⟨[tS 1 ub3, tP 2 2, tP 4 4], [bC 2 (GTerm.q ub2), (4, .cells GClause.z [(3, .app 41), (7, .app 41)])], []⟩ ?_
  apply Wc.seq
  obtain ⟨u64, h791, h⟩ := obind h
  refine Wc.r2 [{}, {}, { r := some (.v (.tup [.agg (GClause.q u64.1), .bool u64.2]) []) }] ⟨[tP 4 4, tP 6 6, tB 7 u64.2], [(4, .cells GClause.z [(3, .app 41), (7, .app 41)]), bC 6 (GClause.q u64.1)], []⟩ (.cons (cspec_l08ClauseOfRaw h791) .nil) ?_
  apply Wc.seq
  obtain ⟨ud5, h792, h⟩ := obind h
  refine Wc.r2 [{}, { r := some (.v (.agg (GClause.q ud5)) [(3, .app 41), (7, .app 41)]) }, {}, { tk := [15] }] ⟨[tP 4 4, tB 5 u64.2], [(4, .cells (GClause.q ud5) [(3, .app 41), (7, .app 41)])], []⟩ (.cons (cspec_l34Clause h792) .nil) ?_
  obtain rfl := Option.some.inj h; exact Wc.ret dn

def pspec_DrawClauseTerm (k : Nat) (ub4 : List Int) : Option GClause :=
  (pspec_DrawClauseOf k ub4).bind fun u6t =>
  (pspec_ClauseOf k u6t.1 u6t.2).bind fun u88 =>
  some u88.1
theorem cspec_DrawClauseTerm {k : Nat} {ub4 : List Int} {r : GClause} (h : pspec_DrawClauseTerm k ub4 = some r) : FnO Try.prog 101 [.v (.sl (List.map cI.u8 ub4)) []] (.v (.agg (GClause.q r)) [(3, .app 41), (7, .app 41)]) [] := by
  refine FnO.o2 Try.func101 (rfl : Try.f101.body = some _) ?_
  intro w0 X0 Fin pv0 pb
  unfold pspec_DrawClauseTerm at h
  apply Wc.seq
  refine Wc.r0 ⟨[tV 0 (.sl (List.map cI.u8 ub4)), tP 2 2], [(2, .cells GClause.z [(3, .app 41), (7, .app 41)])], []⟩ ?_
  apply Wc.seq
  obtain ⟨u6t, h795, h⟩ := obind h
  refine Wc.r2 [{}, { r := some (.v (.tup [.agg (GTerm.q u6t.1), .str u6t.2]) []) }] ⟨[tP 2 2, tP 3 3, tS 4 u6t.2], [(2, .cells GClause.z [(3, .app 41), (7, .app 41)]), bC 3 (GTerm.q u6t.1)], []⟩ (.cons (cspec_DrawClauseOf h795) .nil) ?_
  apply Wc.seq
  obtain ⟨u88, h796, h⟩ := obind h
  refine Wc.r2 [{}, {}, { r := some (.v (.tup [.agg (GClause.q u88.1), .bool u88.2]) [(3, .app 41), (7, .app 41)]) }, { tk := [15] }, { tk := [12] }, {}, {}, { tk := [16] }] ⟨[tP 2 2, tP 5 5], [(2, .cells GClause.z [(3, .app 41), (7, .app 41)]), (5, .cells (GClause.q u88.1) [(3, .app 41), (7, .app 41)])], []⟩ (.cons (cspec_ClauseOf h796) .nil) ?_
  apply Wc.seq
  refine Wc.r1 [{ md := 1 }, { tk := [18] }] ⟨[tP 2 2], [(2, .cells (GClause.q u88.1) [(3, .app 41), (7, .app 41)])], []⟩ ?_
  obtain rfl := Option.some.inj h; exact Wc.ret dn

def pspec_DrawCodeOf (k : Nat) (u5f : List Int) : Option GClause :=
  (pspec_l01New k u5f).bind fun ud6 =>
  (pspec_l01Once k ud6 4).bind fun u6u =>
  if u6u.2 = true then
    (pspec_l03Any k u6u.1).bind fun u5g =>
    (pspec_l03Any k u5g.1).bind fun u65 =>
    some (GClause.mk u5g.2 u65.2 (bs []))
  else
    (pspec_DrawClauseTerm k u5f).bind fun ud7 =>
    some ud7
theorem cspec_DrawCodeOf {k : Nat} {u5f : List Int} {r : GClause} (h : pspec_DrawCodeOf k u5f = some r) : FnO Try.prog 39 [.v (.sl (List.map cI.u8 u5f)) []] (.v (.agg (GClause.q r)) [(3, .app 41), (7, .app 41)]) [] := by
  refine FnO.o2 Try.func39 (rfl : Try.f39.body = some _) ?_
  intro w0 X0 Fin pv0 pb
  unfold pspec_DrawCodeOf at h
  apply Wc.seq
  refine Wc.r0 ⟨[tV 0 (.sl (List.map cI.u8 u5f)), tP 2 2], [(2, .cells GClause.z [(3, .app 41), (7, .app 41)])], []⟩ ?_
  apply Wc.seq
  obtain ⟨ud6, h803, h⟩ := obind h
  refine Wc.r2 [{}, { r := some (.p (GL01Cur.q ud6) []) }] ⟨[tV 0 (.sl (List.map cI.u8 u5f)), tP 2 2, tP 3 5], [(2, .cells GClause.z [(3, .app 41), (7, .app 41)]), bC 5 (GL01Cur.q ud6)], []⟩ (.cons (cspec_l01New h803) .nil) ?_
  apply Wc.seq
  apply Wc.seq
  obtain ⟨u6u, h804, h⟩ := obind h
  refine Wc.r2 [{}, { r := some (.v (.bool u6u.2) []), outs := [(0, .p (GL01Cur.q u6u.1) [])] }] ⟨[tV 0 (.sl (List.map cI.u8 u5f)), tP 2 2, tP 3 5, tB 7 u6u.2], [(2, .cells GClause.z [(3, .app 41), (7, .app 41)]), bC 5 (GL01Cur.q u6u.1)], []⟩ (.cons (cspec_l01Once h804) .nil) ?_
  rcases oif h with ⟨h805, h⟩ | ⟨h805, h⟩
  · refine Wc.cT h805 ?_
    apply Wc.seq
    obtain ⟨u5g, h806, h⟩ := obind h
    obtain ⟨u65, h807, h⟩ := obind h
    refine Wc.r2 [{}, { r := some (.v (.agg (GTerm.q u5g.2)) [(3, .app 41)]), outs := [(0, .p (GL01Cur.q u5g.1) [])] }, {}, { r := some (.v (.agg (GTerm.q u65.2)) [(3, .app 41)]), outs := [(0, .p (GL01Cur.q u65.1) [])] }, { tk := [9, 11] }, { tk := [12] }] ⟨[tP 2 2], [(2, .cells [aI u5g.2.gKind, .str u5g.2.gName, aI u5g.2.gNum, .sl (List.map GTerm.c u5g.2.gKids), aI u65.2.gKind, .str u65.2.gName, aI u65.2.gNum, .sl (List.map GTerm.c u65.2.gKids), .str (bs [])] [(3, .app 41), (7, .app 41)])], []⟩ (.cons (cspec_l03Any h806) (.cons (cspec_l03Any h807) .nil)) ?_
    obtain rfl := Option.some.inj h; exact Wc.ret dn
  · refine Wc.cF h805 ?_
    refine Wc.fx [] ⟨[tV 0 (.sl (List.map cI.u8 u5f)), tP 2 2], [(2, .cells GClause.z [(3, .app 41), (7, .app 41)])], []⟩ ?_
    refine Wc.skip ?_
    apply Wc.seq
    obtain ⟨ud7, h808, h⟩ := obind h
    refine Wc.r2 [{}, { r := some (.v (.agg (GClause.q ud7)) [(3, .app 41), (7, .app 41)]) }, { tk := [14] }] ⟨[tP 2 2], [(2, .cells (GClause.q ud7) [(3, .app 41), (7, .app 41)])], []⟩ (.cons (cspec_DrawClauseTerm h808) .nil) ?_
    obtain rfl := Option.some.inj h; exact Wc.ret dn

def pimpl_varsUpTo_L1 (k : Nat) (rimpl_varsUpTo : (List GTerm) → Option Int) (v5 : List GTerm) : Nat → Int → Int → Option (Out Int Int)
  | 0, _, _ => none
  | m + 1, vz, u1k =>
    if (decide (u1k < (v5.length : Int))) = true then
      (at' v5 u1k).bind fun zu =>
      if (zu.gKind == 1) = true then
        (rimpl_varsUpTo zu.gKids).bind fun u66 =>
        pimpl_varsUpTo_L1 k rimpl_varsUpTo v5 m (if u66 > (if (wr.i64 (zu.gNum + 1)) > vz then (wr.i64 (zu.gNum + 1)) else vz) then u66 else (if (wr.i64 (zu.gNum + 1)) > vz then (wr.i64 (zu.gNum + 1)) else vz)) (wr.i64 (u1k + 1))
      else
        (rimpl_varsUpTo zu.gKids).bind fun u67 =>
        pimpl_varsUpTo_L1 k rimpl_varsUpTo v5 m (if u67 > vz then u67 else vz) (wr.i64 (u1k + 1))
    else
      some (.done vz)
mutual
def pimpl_varsUpTo : Nat → (List GTerm) → Option Int
  | 0, _ => none
  | k + 1, v5 =>
    (pimpl_varsUpTo_L1 k (pimpl_varsUpTo k) v5 k 0 0).bind fun out1 => match out1 with
    | .ret r => some r
    | .done u89 =>
      some u89
end
theorem all_pimpl_varsUpTo : ∀ k : Nat, (∀ {v5 : List GTerm} {r : Int}, pimpl_varsUpTo k v5 = some r → FnO Try.prog 102 [.v (.sl (List.map GTerm.c v5)) []] (.v (aI r) []) []) := by
  intro k
  induction k with
  | zero =>
    · intro v5 r h
      exact (onone (by rw [pimpl_varsUpTo] at h; exact h)).elim
  | succ k ih =>
    have ih_pimpl_varsUpTo := @ih
    · intro v5 r h
      rw [pimpl_varsUpTo] at h
      refine FnO.o2 Try.func102 (rfl : Try.f102.body = some _) ?_
      intro w0 X0 Fin pv0 pb
      apply Wc.seq
      refine Wc.r0 ⟨[tV 0 (.sl (List.map GTerm.c v5))], [], []⟩ ?_
      apply Wc.seq
      refine Wc.r0 ⟨[tV 0 (.sl (List.map GTerm.c v5)), tI 3 0], [], []⟩ ?_
      apply Wc.seq
      apply Wc.seq
      refine Wc.r2 [{}, { v := some (aI (v5.length : Int)) }] ⟨[tI 3 0, tV 6 (.sl (List.map GTerm.c v5)), tI 7 (v5.length : Int), tI 8 0], [], []⟩ (.cons (len_obl GTerm.c v5) .nil) ?_
      obtain ⟨out1, h809, h⟩ := obind h
      refine Wc.lastJ (fun st => ∃ (u89 : Int), out1 = .done u89 ∧ st = ⟨[tI 3 u89], [], []⟩) ?_ ?_
      · refine Wc.block ?_
        refine Wc.loop (fun m st => ∃ (vz : Int) (u1k : Int), st = ⟨[tI 3 vz, tV 6 (.sl (List.map GTerm.c v5)), tI 7 (v5.length : Int), tI 8 u1k], [], []⟩ ∧ pimpl_varsUpTo_L1 k (pimpl_varsUpTo k) v5 m vz u1k = some out1) ?_ k ⟨_, _, rfl, h809⟩
        rintro m st ⟨vz, u1k, rfl, h809⟩
        cases m with
        | zero => exact (onone h809).elim
        | succ m =>
          apply Wc.seq
          refine Wc.r0 ⟨[tI 3 vz, tV 6 (.sl (List.map GTerm.c v5)), tI 7 (v5.length : Int), tI 8 u1k, tB 9 (decide (u1k < (v5.length : Int)))], [], []⟩ ?_
          apply Wc.seq
          rcases oif h809 with ⟨h810, h809⟩ | ⟨h810, h809⟩
          · refine Wc.cT h810 ?_
            refine Wc.fx [] ⟨[tI 3 vz, tV 6 (.sl (List.map GTerm.c v5)), tI 7 (v5.length : Int), tI 8 u1k], [], []⟩ ?_
            refine Wc.skip ?_
            apply Wc.seq
            refine Wc.block ?_
            apply Wc.seq
            obtain ⟨zu, h811, h809⟩ := obind h809
            refine Wc.r2 [{ v := some (.vptr (GTerm.q zu)) }] ⟨[tI 3 vz, tP 5 5, tV 6 (.sl (List.map GTerm.c v5)), tI 7 (v5.length : Int), tI 8 u1k], [bC 5 (GTerm.q zu)], []⟩ (.cons (at_obl (c := GTerm.c) (GTerm.c_eq zu) GTerm.c_len h811) (.cons (len_ok 4 (GTerm.q zu)) .nil)) ?_
            apply Wc.seq
            apply Wc.seq
            refine Wc.r0 ⟨[tI 3 vz, tP 5 5, tV 6 (.sl (List.map GTerm.c v5)), tI 7 (v5.length : Int), tI 8 u1k, tB 14 (zu.gKind == 1)], [bC 5 (GTerm.q zu)], []⟩ ?_
            rcases oif h809 with ⟨h812, h809⟩ | ⟨h812, h809⟩
            · refine Wc.cT h812 ?_
              refine Wc.r0 ⟨[tI 3 (if (wr.i64 (zu.gNum + 1)) > vz then (wr.i64 (zu.gNum + 1)) else vz), tP 5 5, tV 6 (.sl (List.map GTerm.c v5)), tI 7 (v5.length : Int), tI 8 u1k], [bC 5 (GTerm.q zu)], []⟩ ?_
              obtain ⟨u66, h813, h809⟩ := obind h809
              refine Wc.r2 [{}, {}, {}, { r := some (.v (aI u66) []) }] ⟨[tI 3 (if u66 > (if (wr.i64 (zu.gNum + 1)) > vz then (wr.i64 (zu.gNum + 1)) else vz) then u66 else (if (wr.i64 (zu.gNum + 1)) > vz then (wr.i64 (zu.gNum + 1)) else vz)), tV 6 (.sl (List.map GTerm.c v5)), tI 7 (v5.length : Int), tI 8 u1k], [], []⟩ (.cons (ih_pimpl_varsUpTo h813) .nil) ?_
              refine Wc.r0 ⟨[tI 3 (if u66 > (if (wr.i64 (zu.gNum + 1)) > vz then (wr.i64 (zu.gNum + 1)) else vz) then u66 else (if (wr.i64 (zu.gNum + 1)) > vz then (wr.i64 (zu.gNum + 1)) else vz)), tV 6 (.sl (List.map GTerm.c v5)), tI 7 (v5.length : Int), tI 8 (wr.i64 (u1k + 1))], [], []⟩ ?_
              exact ⟨_, Nat.lt_succ_self _, _, _, rfl, h809⟩
            · refine Wc.cF h812 ?_
              refine Wc.fx [] ⟨[tI 3 vz, tP 5 5, tV 6 (.sl (List.map GTerm.c v5)), tI 7 (v5.length : Int), tI 8 u1k], [bC 5 (GTerm.q zu)], []⟩ ?_
              refine Wc.skip ?_
              obtain ⟨u67, h814, h809⟩ := obind h809
              refine Wc.r2 [{}, {}, {}, { r := some (.v (aI u67) []) }] ⟨[tI 3 (if u67 > vz then u67 else vz), tV 6 (.sl (List.map GTerm.c v5)), tI 7 (v5.length : Int), tI 8 u1k], [], []⟩ (.cons (ih_pimpl_varsUpTo h814) .nil) ?_
              refine Wc.r0 ⟨[tI 3 (if u67 > vz then u67 else vz), tV 6 (.sl (List.map GTerm.c v5)), tI 7 (v5.length : Int), tI 8 (wr.i64 (u1k + 1))], [], []⟩ ?_
              exact ⟨_, Nat.lt_succ_self _, _, _, rfl, h809⟩
          · refine Wc.cF h810 ?_
            refine Wc.fx [] ⟨[tI 3 vz], [], []⟩ ?_
            refine Wc.exit ?_
            obtain rfl := Option.some.inj h809
            exact ⟨_, rfl, rfl⟩
      · rintro st ⟨u89, rfl, rfl⟩
        apply Wc.seq
        refine Wc.r0 ⟨[tI 2 u89], [], []⟩ ?_
        obtain rfl := Option.some.inj h; exact Wc.ret dn
theorem cimpl_varsUpTo {k : Nat} {v5 : List GTerm} {r : Int} (h : pimpl_varsUpTo k v5 = some r) : FnO Try.prog 102 [.v (.sl (List.map GTerm.c v5)) []] (.v (aI r) []) [] := (all_pimpl_varsUpTo k) h

def pimpl_CodeOf (k : Nat) (u0x : GClause) : Option (GCode × Bool) :=
  (pimpl_TermOk k u0x.gHead).bind fun ud8 =>
  if (!ud8) = true then
    some (GCode.mk [] [] 0, false)
  else
    (pimpl_TermOk k u0x.gBody).bind fun ud9 =>
    if (!ud9) = true then
      some (GCode.mk [] [] 0, false)
    else
      (pimpl_WordsOf k u0x.gHead []).bind fun u5h =>
      (pimpl_WordsOf k u0x.gBody u5h.2).bind fun u8a =>
      (pimpl_varsUpTo k [u0x.gHead, u0x.gBody]).bind fun uda =>
      some (GCode.mk u5h.1 u8a.1 uda, true)


def pspec_l03Has_L1 (k : Nat) (u1a : List Int) (u24 : Int) : Nat → Int → Option (Out Bool Unit)
  | 0, _ => none
  | m + 1, u3l =>
    if (decide (u3l < (u1a.length : Int))) = true then
      (at' u1a u3l).bind fun ub5 =>
      if (ub5 == u24) = true then
        some (.ret true)
      else
        pspec_l03Has_L1 k u1a u24 m (wr.i64 (u3l + 1))
    else
      some (.done ())
def pspec_l03Has (k : Nat) (u1a : List Int) (u24 : Int) : Option Bool :=
  (pspec_l03Has_L1 k u1a u24 k 0).bind fun out1 => match out1 with
  | .ret r => some r
  | .done () =>
    some false
theorem cspec_l03Has {k : Nat} {u1a : List Int} {u24 : Int} {r : Bool} (h : pspec_l03Has k u1a u24 = some r) : FnO Try.prog 108 [.v (.sl (List.map cI.i64 u1a)) [], .v (aI u24) []] (.v (.bool r) []) [] := by
  refine FnO.o2 Try.func108 (rfl : Try.f108.body = some _) ?_
  intro w0 X0 Fin pv0 pb
  unfold pspec_l03Has at h
  apply Wc.seq
  refine Wc.r0 ⟨[tV 0 (.sl (List.map cI.i64 u1a)), tI 1 u24], [], []⟩ ?_
  apply Wc.seq
  apply Wc.seq
  refine Wc.r0 ⟨[tV 0 (.sl (List.map cI.i64 u1a)), tI 1 u24, tI 5 0], [], []⟩ ?_
  obtain ⟨out1, h829, h⟩ := obind h
  refine Wc.lastJ (fun st => out1 = .done () ∧ st = ⟨[], [], []⟩) ?_ ?_
  · refine Wc.block ?_
    refine Wc.loop (fun m st => ∃ (u3l : Int), st = ⟨[tV 0 (.sl (List.map cI.i64 u1a)), tI 1 u24, tI 5 u3l], [], []⟩ ∧ pspec_l03Has_L1 k u1a u24 m u3l = some out1) ?_ k ⟨_, rfl, h829⟩
    rintro m st ⟨u3l, rfl, h829⟩
    cases m with
    | zero => exact (onone h829).elim
    | succ m =>
      apply Wc.seq
      apply Wc.seq
      refine Wc.r2 [{}, {}, { v := some (aI (u1a.length : Int)) }] ⟨[tV 0 (.sl (List.map cI.i64 u1a)), tI 1 u24, tI 5 u3l, tB 9 (decide (u3l < (u1a.length : Int)))], [], []⟩ (.cons (len_obl cI.i64 u1a) .nil) ?_
      rcases oif h829 with ⟨h830, h829⟩ | ⟨h830, h829⟩
      · refine Wc.cT h830 ?_
        refine Wc.fx [] ⟨[tV 0 (.sl (List.map cI.i64 u1a)), tI 1 u24, tI 5 u3l], [], []⟩ ?_
        refine Wc.skip ?_
        apply Wc.seq
        refine Wc.block ?_
        apply Wc.seq
        obtain ⟨ub5, h831, h829⟩ := obind h829
        refine Wc.r2 [{}, {}, { v := some (.vptr [aI ub5]) }] ⟨[tV 0 (.sl (List.map cI.i64 u1a)), tI 1 u24, tI 5 u3l, tB 17 (ub5 == u24)], [], []⟩ (.cons (at_obl (c := cI.i64) rfl cI.i64_len h831) (.cons (len_ok 1 [aI ub5]) .nil)) ?_
        rcases oif h829 with ⟨h832, h829⟩ | ⟨h832, h829⟩
        · refine Wc.cT h832 ?_
          apply Wc.seq
          refine Wc.r0 ⟨[tB 4 true], [], []⟩ ?_
          refine Wc.ret ?_
          obtain rfl := Option.some.inj h829
          obtain rfl := Option.some.inj h
          exact ⟨.inl rfl, by kernel_rfl, by kernel_rfl⟩
        · refine Wc.cF h832 ?_
          refine Wc.fx [] ⟨[tV 0 (.sl (List.map cI.i64 u1a)), tI 1 u24, tI 5 u3l], [], []⟩ ?_
          refine Wc.skip ?_
          refine Wc.r0 ⟨[tV 0 (.sl (List.map cI.i64 u1a)), tI 1 u24, tI 5 (wr.i64 (u3l + 1))], [], []⟩ ?_
          exact ⟨_, Nat.lt_succ_self _, _, rfl, h829⟩
      · refine Wc.cF h830 ?_
        refine Wc.fx [] ⟨[], [], []⟩ ?_
        refine Wc.exit ?_
        obtain rfl := Option.some.inj h829
        exact ⟨rfl, rfl⟩
  · rintro st ⟨rfl, rfl⟩
    apply Wc.seq
    refine Wc.r0 ⟨[tB 4 false], [], []⟩ ?_
    obtain rfl := Option.some.inj h; exact Wc.ret dn

def pspec_l12Words_L1 (k : Nat) (rspec_l12Words : GTerm → (List GIns) → (List Int) → Option ((List GIns) × (List Int))) (u5 : GTerm) : Nat → (List GIns) → (List Int) → Int → Option (Out ((List GIns) × (List Int)) ((List GIns) × (List Int)))
  | 0, _, _, _ => none
  | m + 1, u5i, u5j, u40 =>
    if (decide (u40 < (u5.gKids.length : Int))) = true then
      (at' u5.gKids u40).bind fun ub6 =>
      (rspec_l12Words ub6 u5i u5j).bind fun u5k =>
      pspec_l12Words_L1 k rspec_l12Words u5 m u5k.1 u5k.2 (wr.i64 (u40 + 1))
    else
      some (.done (u5i, u5j))
mutual
def pspec_l12Words : Nat → GTerm → (List GIns) → (List Int) → Option ((List GIns) × (List Int))
  | 0, _, _, _ => none
  | k + 1, u5, uw, vc =>
    if (u5.gKind == 2) = true then
      if uw.length + [GIns.mk 1 u5.gName 0 0].length ≤ 1073741824 then
        some (uw ++ [GIns.mk 1 u5.gName 0 0], vc)
      else none
    else
      if (u5.gKind == 3) = true then
        if uw.length + [GIns.mk 2 (bs []) u5.gNum 0].length ≤ 1073741824 then
          some (uw ++ [GIns.mk 2 (bs []) u5.gNum 0], vc)
        else none
      else
        if (u5.gKind == 1) = true then
          (pspec_l03Has k vc u5.gNum).bind fun udb =>
          if udb = true then
            if uw.length + [GIns.mk 4 (bs []) u5.gNum 0].length ≤ 1073741824 then
              some (uw ++ [GIns.mk 4 (bs []) u5.gNum 0], vc)
            else none
          else
            if uw.length + [GIns.mk 3 (bs []) u5.gNum 0].length ≤ 1073741824 then
              if ([] : List Int).length + vc.length ≤ 1073741824 then
                if vc.length + [u5.gNum].length ≤ 1073741824 then
                  some (uw ++ [GIns.mk 3 (bs []) u5.gNum 0], vc ++ [u5.gNum])
                else none
              else none
            else none
        else
          if uw.length + [GIns.mk 5 u5.gName 0 (u5.gKids.length : Int)].length ≤ 1073741824 then
            (pspec_l12Words_L1 k (pspec_l12Words k) u5 k (uw ++ [GIns.mk 5 u5.gName 0 (u5.gKids.length : Int)]) vc 0).bind fun out1 => match out1 with
            | .ret r => some r
            | .done (u8b, u8c) =>
              some (u8b, u8c)
          else none
end
set_option maxHeartbeats 4000000 in
theorem all_pspec_l12Words : ∀ k : Nat, (∀ {u5 : GTerm} {uw : List GIns} {vc : List Int} {r : (List GIns) × (List Int)}, pspec_l12Words k u5 uw vc = some r → FnO Try.prog 109 [.v (.agg (GTerm.q u5)) [], .v (.slx) [(0, .ex 128 false (List.map GIns.c uw))], .v (.sl (List.map cI.i64 vc)) []] (.v (.tup [.slx, .sl (List.map cI.i64 r.2)]) [(0, .ex 128 false (List.map GIns.c r.1))]) []) := by
  intro k
  induction k with
  | zero =>
    · intro u5 uw vc r h
      exact (onone (by rw [pspec_l12Words] at h; exact h)).elim
  | succ k ih =>
    have ih_pspec_l12Words := @ih
    · intro u5 uw vc r h
      rw [pspec_l12Words] at h
      refine FnO.o2 Try.func109 (rfl : Try.f109.body = some _) ?_
      intro w0 X0 Fin pv0 pb
      apply Wc.seq
      refine Wc.r0 ⟨[(1, (.v (.slx), [(0, .ex 128 false (List.map GIns.c uw))])), tV 2 (.sl (List.map cI.i64 vc)), tP 3 3], [bC 3 (GTerm.q u5)], []⟩ ?_
      apply Wc.seq
      apply Wc.seq
      refine Wc.r0 ⟨[(1, (.v (.slx), [(0, .ex 128 false (List.map GIns.c uw))])), tV 2 (.sl (List.map cI.i64 vc)), tP 3 3, tI 10 u5.gKind], [bC 3 (GTerm.q u5)], []⟩ ?_
      refine Wc.block ?_
      apply Wc.seq
      refine Wc.r0 ⟨[(1, (.v (.slx), [(0, .ex 128 false (List.map GIns.c uw))])), tV 2 (.sl (List.map cI.i64 vc)), tP 3 3, tI 10 u5.gKind, tB 11 (u5.gKind == 2)], [bC 3 (GTerm.q u5)], []⟩ ?_
      rcases oif h with ⟨h849, h⟩ | ⟨h849, h⟩
      · refine Wc.cT h849 ?_
        apply Wc.seq
        obtain ⟨h850, h⟩ := oguard h
        refine Wc.r2 [{ tk := [1] }, {}, {}, {}, { c := some (List.map GIns.c [GIns.mk 1 u5.gName 0 0]) }, { c := some (List.map GIns.c (uw ++ [GIns.mk 1 u5.gName 0 0])), tk := [13], md := 1 }, {}, { tk := [18] }] ⟨[(6, (.v (.slx), [(0, .ex 128 false (List.map GIns.c (uw ++ [GIns.mk 1 u5.gName 0 0])))])), tV 7 (.sl (List.map cI.i64 vc))], [], []⟩ (.cons (cl_cons (c := GIns.c) (x := GIns.mk 1 u5.gName 0 0) (GIns.c_eq (GIns.mk 1 u5.gName 0 0)) (cl_nil GIns.c)) (.cons (app_re2 GIns.c uw [GIns.mk 1 u5.gName 0 0]) (.cons (app_leaf (c := GIns.c) (ys := [GIns.mk 1 u5.gName 0 0]) GIns.c_leaf) (.cons (app_obl2 (c := GIns.c) (xs := uw) (ys := [GIns.mk 1 u5.gName 0 0]) GIns.c_len h850) .nil)))) ?_
        obtain rfl := Option.some.inj h; exact Wc.ret dn
      · refine Wc.cF h849 ?_
        apply Wc.seq
        refine Wc.r0 ⟨[(1, (.v (.slx), [(0, .ex 128 false (List.map GIns.c uw))])), tV 2 (.sl (List.map cI.i64 vc)), tP 3 3, tI 10 u5.gKind, tB 20 (u5.gKind == 3)], [bC 3 (GTerm.q u5)], []⟩ ?_
        rcases oif h with ⟨h851, h⟩ | ⟨h851, h⟩
        · refine Wc.cT h851 ?_
          apply Wc.seq
          obtain ⟨h852, h⟩ := oguard h
          refine Wc.r2 [{ tk := [1] }, {}, {}, {}, { c := some (List.map GIns.c [GIns.mk 2 (bs []) u5.gNum 0]) }, { c := some (List.map GIns.c (uw ++ [GIns.mk 2 (bs []) u5.gNum 0])), tk := [22], md := 1 }, {}, { tk := [27] }] ⟨[(6, (.v (.slx), [(0, .ex 128 false (List.map GIns.c (uw ++ [GIns.mk 2 (bs []) u5.gNum 0])))])), tV 7 (.sl (List.map cI.i64 vc))], [], []⟩ (.cons (cl_cons (c := GIns.c) (x := GIns.mk 2 (bs []) u5.gNum 0) (GIns.c_eq (GIns.mk 2 (bs []) u5.gNum 0)) (cl_nil GIns.c)) (.cons (app_re2 GIns.c uw [GIns.mk 2 (bs []) u5.gNum 0]) (.cons (app_leaf (c := GIns.c) (ys := [GIns.mk 2 (bs []) u5.gNum 0]) GIns.c_leaf) (.cons (app_obl2 (c := GIns.c) (xs := uw) (ys := [GIns.mk 2 (bs []) u5.gNum 0]) GIns.c_len h852) .nil)))) ?_
          obtain rfl := Option.some.inj h; exact Wc.ret dn
        · refine Wc.cF h851 ?_
          apply Wc.seq
          refine Wc.r0 ⟨[(1, (.v (.slx), [(0, .ex 128 false (List.map GIns.c uw))])), tV 2 (.sl (List.map cI.i64 vc)), tP 3 3, tB 29 (u5.gKind == 1)], [bC 3 (GTerm.q u5)], []⟩ ?_
          rcases oif h with ⟨h853, h⟩ | ⟨h853, h⟩
          · refine Wc.cT h853 ?_
            apply Wc.seq
            apply Wc.seq
            obtain ⟨udb, h854, h⟩ := obind h
            refine Wc.r2 [{}, {}, {}, { r := some (.v (.bool udb) []) }] ⟨[(1, (.v (.slx), [(0, .ex 128 false (List.map GIns.c uw))])), tV 2 (.sl (List.map cI.i64 vc)), tP 3 3, tB 34 udb], [bC 3 (GTerm.q u5)], []⟩ (.cons (cspec_l03Has h854) .nil) ?_
            rcases oif h with ⟨h855, h⟩ | ⟨h855, h⟩
            · refine Wc.cT h855 ?_
              apply Wc.seq
              obtain ⟨h856, h⟩ := oguard h
              refine Wc.r2 [{ tk := [1] }, {}, {}, {}, { c := some (List.map GIns.c [GIns.mk 4 (bs []) u5.gNum 0]) }, { c := some (List.map GIns.c (uw ++ [GIns.mk 4 (bs []) u5.gNum 0])), tk := [35], md := 1 }, {}, { tk := [40] }] ⟨[(6, (.v (.slx), [(0, .ex 128 false (List.map GIns.c (uw ++ [GIns.mk 4 (bs []) u5.gNum 0])))])), tV 7 (.sl (List.map cI.i64 vc))], [], []⟩ (.cons (cl_cons (c := GIns.c) (x := GIns.mk 4 (bs []) u5.gNum 0) (GIns.c_eq (GIns.mk 4 (bs []) u5.gNum 0)) (cl_nil GIns.c)) (.cons (app_re2 GIns.c uw [GIns.mk 4 (bs []) u5.gNum 0]) (.cons (app_leaf (c := GIns.c) (ys := [GIns.mk 4 (bs []) u5.gNum 0]) GIns.c_leaf) (.cons (app_obl2 (c := GIns.c) (xs := uw) (ys := [GIns.mk 4 (bs []) u5.gNum 0]) GIns.c_len h856) .nil)))) ?_
              obtain rfl := Option.some.inj h; exact Wc.ret dn
            · refine Wc.cF h855 ?_
              refine Wc.fx [] ⟨[(1, (.v (.slx), [(0, .ex 128 false (List.map GIns.c uw))])), tV 2 (.sl (List.map cI.i64 vc)), tP 3 3], [bC 3 (GTerm.q u5)], []⟩ ?_
              refine Wc.skip ?_
              apply Wc.seq
              obtain ⟨h857, h⟩ := oguard h
              obtain ⟨h858, h⟩ := oguard h
              obtain ⟨h859, h⟩ := oguard h
              refine Wc.draw hmix [{ tk := [1] }, {}, {}, {}, { c := some (List.map GIns.c [GIns.mk 3 (bs []) u5.gNum 0]) }, { c := some (List.map GIns.c (uw ++ [GIns.mk 3 (bs []) u5.gNum 0])), tk := [42], md := 1 }, { c := some (List.map cI.i64 []) }, {}, { c := some (List.map cI.i64 vc), tk := [48] }, {}, {}, { c := some (List.map cI.i64 [u5.gNum]) }, { c := some (List.map cI.i64 (vc ++ [u5.gNum])), tk := [50] }, { tk := [47] }, { tk := [54] }] [] [6, 7] [] [] ⟨[(6, (.v (.slx), [(0, .ex 128 false (List.map GIns.c (uw ++ [GIns.mk 3 (bs []) u5.gNum 0])))])), (7, (.v (.sl (List.map cI.i64 (vc ++ [u5.gNum]))), [(0, .app 3)]))], [], []⟩ _ (by kernel_rfl) (fun X => by kernel_rfl) (.cons (cl_cons (c := GIns.c) (x := GIns.mk 3 (bs []) u5.gNum 0) (GIns.c_eq (GIns.mk 3 (bs []) u5.gNum 0)) (cl_nil GIns.c)) (.cons (app_re2 GIns.c uw [GIns.mk 3 (bs []) u5.gNum 0]) (.cons (app_leaf (c := GIns.c) (ys := [GIns.mk 3 (bs []) u5.gNum 0]) GIns.c_leaf) (.cons (app_obl2 (c := GIns.c) (xs := uw) (ys := [GIns.mk 3 (bs []) u5.gNum 0]) GIns.c_len h857) (.cons (cl_nil cI.i64) (.cons (app_re0 cI.i64 vc) (.cons (app_leaf (c := cI.i64) (ys := vc) cI.i64_leaf) (.cons (app_obl2 (c := cI.i64) (xs := []) (ys := vc) cI.i64_len h858) (.cons (cl_cons (c := cI.i64) (x := u5.gNum) rfl (cl_nil cI.i64)) (.cons (app_re2 cI.i64 vc [u5.gNum]) (.cons (app_leaf (c := cI.i64) (ys := [u5.gNum]) cI.i64_leaf) (.cons (app_obl2 (c := cI.i64) (xs := vc) (ys := [u5.gNum]) cI.i64_len h859) .nil)))))))))))) ?_
              refine Wc.fx [.un (.t 7 0)] ⟨[(6, (.v (.slx), [(0, .ex 128 false (List.map GIns.c (uw ++ [GIns.mk 3 (bs []) u5.gNum 0])))])), tV 7 (.sl (List.map cI.i64 (vc ++ [u5.gNum])))], [], []⟩ ?_
              obtain rfl := Option.some.inj h; exact Wc.ret dn
          · refine Wc.cF h853 ?_
            refine Wc.fx [] ⟨[(1, (.v (.slx), [(0, .ex 128 false (List.map GIns.c uw))])), tV 2 (.sl (List.map cI.i64 vc)), tP 3 3], [bC 3 (GTerm.q u5)], []⟩ ?_
            refine Wc.skip ?_
            apply Wc.seq
            obtain ⟨h860, h⟩ := oguard h
            refine Wc.r2 [{ tk := [1] }, {}, {}, {}, {}, { v := some (aI (u5.gKids.length : Int)) }, {}, { c := some (List.map GIns.c [GIns.mk 5 u5.gName 0 (u5.gKids.length : Int)]) }, { c := some (List.map GIns.c (uw ++ [GIns.mk 5 u5.gName 0 (u5.gKids.length : Int)])), tk := [55], md := 1 }, { tk := [63] }] ⟨[(1, (.v (.slx), [(0, .ex 128 false (List.map GIns.c (uw ++ [GIns.mk 5 u5.gName 0 (u5.gKids.length : Int)])))])), tV 2 (.sl (List.map cI.i64 vc)), tP 3 3], [bC 3 (GTerm.q u5)], []⟩ (.cons (len_obl GTerm.c u5.gKids) (.cons (cl_cons (c := GIns.c) (x := GIns.mk 5 u5.gName 0 (u5.gKids.length : Int)) (GIns.c_eq (GIns.mk 5 u5.gName 0 (u5.gKids.length : Int))) (cl_nil GIns.c)) (.cons (app_re2 GIns.c uw [GIns.mk 5 u5.gName 0 (u5.gKids.length : Int)]) (.cons (app_leaf (c := GIns.c) (ys := [GIns.mk 5 u5.gName 0 (u5.gKids.length : Int)]) GIns.c_leaf) (.cons (app_obl2 (c := GIns.c) (xs := uw) (ys := [GIns.mk 5 u5.gName 0 (u5.gKids.length : Int)]) GIns.c_len h860) .nil))))) ?_
            apply Wc.seq
            apply Wc.seq
            refine Wc.r0 ⟨[(1, (.v (.slx), [(0, .ex 128 false (List.map GIns.c (uw ++ [GIns.mk 5 u5.gName 0 (u5.gKids.length : Int)])))])), tV 2 (.sl (List.map cI.i64 vc)), tP 3 3, tI 8 0], [bC 3 (GTerm.q u5)], []⟩ ?_
            obtain ⟨out1, h861, h⟩ := obind h
            refine Wc.lastJ (fun st => ∃ (u8b : List GIns) (u8c : List Int), out1 = .done (u8b, u8c) ∧ st = ⟨[(1, (.v (.slx), [(0, .ex 128 false (List.map GIns.c u8b))])), tV 2 (.sl (List.map cI.i64 u8c))], [], []⟩) ?_ ?_
            · refine Wc.block ?_
              refine Wc.loop (fun m st => ∃ (u5i : List GIns) (u5j : List Int) (u40 : Int), st = ⟨[(1, (.v (.slx), [(0, .ex 128 false (List.map GIns.c u5i))])), tV 2 (.sl (List.map cI.i64 u5j)), tP 3 3, tI 8 u40], [bC 3 (GTerm.q u5)], []⟩ ∧ pspec_l12Words_L1 k (pspec_l12Words k) u5 m u5i u5j u40 = some out1) ?_ k ⟨_, _, _, rfl, h861⟩
              rintro m st ⟨u5i, u5j, u40, rfl, h861⟩
              cases m with
              | zero => exact (onone h861).elim
              | succ m =>
                apply Wc.seq
                apply Wc.seq
                refine Wc.r2 [{}, {}, {}, { v := some (aI (u5.gKids.length : Int)) }] ⟨[(1, (.v (.slx), [(0, .ex 128 false (List.map GIns.c u5i))])), tV 2 (.sl (List.map cI.i64 u5j)), tP 3 3, tI 8 u40, tB 68 (decide (u40 < (u5.gKids.length : Int)))], [bC 3 (GTerm.q u5)], []⟩ (.cons (len_obl GTerm.c u5.gKids) .nil) ?_
                rcases oif h861 with ⟨h862, h861⟩ | ⟨h862, h861⟩
                · refine Wc.cT h862 ?_
                  refine Wc.fx [] ⟨[(1, (.v (.slx), [(0, .ex 128 false (List.map GIns.c u5i))])), tV 2 (.sl (List.map cI.i64 u5j)), tP 3 3, tI 8 u40], [bC 3 (GTerm.q u5)], []⟩ ?_
                  refine Wc.skip ?_
                  apply Wc.seq
                  refine Wc.block ?_
                  obtain ⟨ub6, h863, h861⟩ := obind h861
                  obtain ⟨u5k, h864, h861⟩ := obind h861
                  refine Wc.r2 [{}, {}, {}, { v := some (.vptr (GTerm.q ub6)) }, {}, { tk := [1] }, {}, { tk := [77], r := some (.v (.tup [.slx, .sl (List.map cI.i64 u5k.2)]) [(0, .ex 128 false (List.map GIns.c u5k.1))]) }, { tk := [79] }, { tk := [71] }, {}, { tk := [80] }] ⟨[(1, (.v (.slx), [(0, .ex 128 false (List.map GIns.c u5k.1))])), tV 2 (.sl (List.map cI.i64 u5k.2)), tP 3 3, tI 8 u40], [bC 3 (GTerm.q u5)], []⟩ (.cons (at_obl (c := GTerm.c) (GTerm.c_eq ub6) GTerm.c_len h863) (.cons (len_ok 4 (GTerm.q ub6)) (.cons (ih_pspec_l12Words h864) .nil))) ?_
                  refine Wc.r0 ⟨[(1, (.v (.slx), [(0, .ex 128 false (List.map GIns.c u5k.1))])), tV 2 (.sl (List.map cI.i64 u5k.2)), tP 3 3, tI 8 (wr.i64 (u40 + 1))], [bC 3 (GTerm.q u5)], []⟩ ?_
                  exact ⟨_, Nat.lt_succ_self _, _, _, _, rfl, h861⟩
                · refine Wc.cF h862 ?_
                  refine Wc.fx [] ⟨[(1, (.v (.slx), [(0, .ex 128 false (List.map GIns.c u5i))])), tV 2 (.sl (List.map cI.i64 u5j))], [], []⟩ ?_
                  refine Wc.exit ?_
                  obtain rfl := Option.some.inj h861
                  exact ⟨_, _, rfl, rfl⟩
            · rintro st ⟨u8b, u8c, rfl, rfl⟩
              apply Wc.seq
              refine Wc.r1 [{ tk := [1] }, {}, { tk := [82] }] ⟨[(6, (.v (.slx), [(0, .ex 128 false (List.map GIns.c u8b))])), tV 7 (.sl (List.map cI.i64 u8c))], [], []⟩ ?_
              obtain rfl := Option.some.inj h; exact Wc.ret dn
theorem cspec_l12Words {k : Nat} {u5 : GTerm} {uw : List GIns} {vc : List Int} {r : (List GIns) × (List Int)} (h : pspec_l12Words k u5 uw vc = some r) : FnO Try.prog 109 [.v (.agg (GTerm.q u5)) [], .v (.slx) [(0, .ex 128 false (List.map GIns.c uw))], .v (.sl (List.map cI.i64 vc)) []] (.v (.tup [.slx, .sl (List.map cI.i64 r.2)]) [(0, .ex 128 false (List.map GIns.c r.1))]) [] := (all_pspec_l12Words k) h

def pspec_WordsOf_L1 (k : Nat) (u01 : List Int) : Nat → (List Int) → Int → Option (Out ((List GIns) × (List Int)) (List Int))
  | 0, _, _ => none
  | m + 1, u1b, u25 =>
    if (decide (u25 < (u01.length : Int))) = true then
      (at' u01 u25).bind fun udc =>
      (pspec_l03Has k u1b udc).bind fun udd =>
      if (!udd) = true then
        (at' u01 u25).bind fun u3m =>
        if u1b.length + [u3m].length ≤ 1073741824 then
          pspec_WordsOf_L1 k u01 m (u1b ++ [u3m]) (wr.i64 (u25 + 1))
        else none
      else
        pspec_WordsOf_L1 k u01 m u1b (wr.i64 (u25 + 1))
    else
      some (.done u1b)
def pspec_WordsOf (k : Nat) (u1c : GTerm) (u01 : List Int) : Option ((List GIns) × (List Int)) :=
  (pspec_WordsOf_L1 k u01 k [] 0).bind fun out1 => match out1 with
  | .ret r => some r
  | .done u4w =>
    (pspec_TermOk k u1c).bind fun ude =>
    if (!ude) = true then
      some ([], u4w)
    else
      (pspec_l12Words k u1c [] u4w).bind fun u5l =>
      some (u5l.1, u5l.2)
theorem cspec_WordsOf {k : Nat} {u1c : GTerm} {u01 : List Int} {r : (List GIns) × (List Int)} (h : pspec_WordsOf k u1c u01 = some r) : FnO Try.prog 45 [.v (.agg (GTerm.q u1c)) [], .v (.sl (List.map cI.i64 u01)) []] (.v (.tup [.sl (List.map GIns.c r.1), .sl (List.map cI.i64 r.2)]) []) [] := by
  refine FnO.o2 Try.func45 (rfl : Try.f45.body = some _) ?_
  intro w0 X0 Fin pv0 pb
  unfold pspec_WordsOf at h
  apply Wc.seq
  refine Wc.r0 ⟨[tV 1 (.sl (List.map cI.i64 u01)), tP 2 2], [bC 2 (GTerm.q u1c)], []⟩ ?_
  apply Wc.seq
  refine Wc.r2 [{ c := some (List.map cI.i64 []) }, { tk := [8] }] ⟨[tV 1 (.sl (List.map cI.i64 u01)), tP 2 2, (6, (.v (.sl (List.map cI.i64 [])), [(0, .app 3)]))], [bC 2 (GTerm.q u1c)], []⟩ (.cons (cl_nil cI.i64) .nil) ?_
  apply Wc.seq
  apply Wc.seq
  refine Wc.r0 ⟨[tV 1 (.sl (List.map cI.i64 u01)), tP 2 2, (6, (.v (.sl (List.map cI.i64 [])), [(0, .app 3)])), tI 7 0], [bC 2 (GTerm.q u1c)], []⟩ ?_
  obtain ⟨out1, h875, h⟩ := obind h
  refine Wc.lastJ (fun st => ∃ (u4w : List Int), out1 = .done u4w ∧ st = ⟨[tP 2 2, (6, (.v (.sl (List.map cI.i64 u4w)), [(0, .app 3)]))], [bC 2 (GTerm.q u1c)], []⟩) ?_ ?_
  · refine Wc.block ?_
    refine Wc.loop (fun m st => ∃ (u1b : List Int) (u25 : Int), st = ⟨[tV 1 (.sl (List.map cI.i64 u01)), tP 2 2, (6, (.v (.sl (List.map cI.i64 u1b)), [(0, .app 3)])), tI 7 u25], [bC 2 (GTerm.q u1c)], []⟩ ∧ pspec_WordsOf_L1 k u01 m u1b u25 = some out1) ?_ k ⟨_, _, rfl, h875⟩
    rintro m st ⟨u1b, u25, rfl, h875⟩
    cases m with
    | zero => exact (onone h875).elim
    | succ m =>
      apply Wc.seq
      apply Wc.seq
      refine Wc.r2 [{}, {}, { v := some (aI (u01.length : Int)) }] ⟨[tV 1 (.sl (List.map cI.i64 u01)), tP 2 2, (6, (.v (.sl (List.map cI.i64 u1b)), [(0, .app 3)])), tI 7 u25, tB 12 (decide (u25 < (u01.length : Int)))], [bC 2 (GTerm.q u1c)], []⟩ (.cons (len_obl cI.i64 u01) .nil) ?_
      rcases oif h875 with ⟨h876, h875⟩ | ⟨h876, h875⟩
      · refine Wc.cT h876 ?_
        refine Wc.fx [] ⟨[tV 1 (.sl (List.map cI.i64 u01)), tP 2 2, (6, (.v (.sl (List.map cI.i64 u1b)), [(0, .app 3)])), tI 7 u25], [bC 2 (GTerm.q u1c)], []⟩ ?_
        refine Wc.skip ?_
        apply Wc.seq
        refine Wc.block ?_
        apply Wc.seq
        obtain ⟨udc, h877, h875⟩ := obind h875
        obtain ⟨udd, h878, h875⟩ := obind h875
        refine Wc.r2 [{}, {}, {}, { v := some (.vptr [aI udc]) }, {}, { r := some (.v (.bool udd) []) }] ⟨[tV 1 (.sl (List.map cI.i64 u01)), tP 2 2, (6, (.v (.sl (List.map cI.i64 u1b)), [(0, .app 3)])), tI 7 u25, tB 21 (!udd)], [bC 2 (GTerm.q u1c)], []⟩ (.cons (at_obl (c := cI.i64) rfl cI.i64_len h877) (.cons (len_ok 1 [aI udc]) (.cons (cspec_l03Has h878) .nil))) ?_
        rcases oif h875 with ⟨h879, h875⟩ | ⟨h879, h875⟩
        · refine Wc.cT h879 ?_
          obtain ⟨u3m, h880, h875⟩ := obind h875
          obtain ⟨h881, h875⟩ := oguard h875
          refine Wc.r2 [{ tk := [6] }, {}, {}, { v := some (.vptr [aI u3m]) }, {}, { c := some (List.map cI.i64 [u3m]) }, { c := some (List.map cI.i64 (u1b ++ [u3m])), tk := [22] }, { tk := [28] }] ⟨[tV 1 (.sl (List.map cI.i64 u01)), tP 2 2, (6, (.v (.sl (List.map cI.i64 (u1b ++ [u3m]))), [(0, .app 3)])), tI 7 u25], [bC 2 (GTerm.q u1c)], []⟩ (.cons (at_obl (c := cI.i64) rfl cI.i64_len h880) (.cons (len_ok 1 [aI u3m]) (.cons (cl_cons (c := cI.i64) (x := u3m) rfl (cl_nil cI.i64)) (.cons (app_re2 cI.i64 u1b [u3m]) (.cons (app_leaf (c := cI.i64) (ys := [u3m]) cI.i64_leaf) (.cons (app_obl2 (c := cI.i64) (xs := u1b) (ys := [u3m]) cI.i64_len h881) .nil)))))) ?_
          refine Wc.r0 ⟨[tV 1 (.sl (List.map cI.i64 u01)), tP 2 2, (6, (.v (.sl (List.map cI.i64 (u1b ++ [u3m]))), [(0, .app 3)])), tI 7 (wr.i64 (u25 + 1))], [bC 2 (GTerm.q u1c)], []⟩ ?_
          exact ⟨_, Nat.lt_succ_self _, _, _, rfl, h875⟩
        · refine Wc.cF h879 ?_
          refine Wc.fx [] ⟨[tV 1 (.sl (List.map cI.i64 u01)), tP 2 2, (6, (.v (.sl (List.map cI.i64 u1b)), [(0, .app 3)])), tI 7 u25], [bC 2 (GTerm.q u1c)], []⟩ ?_
          refine Wc.skip ?_
          refine Wc.r0 ⟨[tV 1 (.sl (List.map cI.i64 u01)), tP 2 2, (6, (.v (.sl (List.map cI.i64 u1b)), [(0, .app 3)])), tI 7 (wr.i64 (u25 + 1))], [bC 2 (GTerm.q u1c)], []⟩ ?_
          exact ⟨_, Nat.lt_succ_self _, _, _, rfl, h875⟩
      · refine Wc.cF h876 ?_
        refine Wc.fx [] ⟨[tP 2 2, (6, (.v (.sl (List.map cI.i64 u1b)), [(0, .app 3)]))], [bC 2 (GTerm.q u1c)], []⟩ ?_
        refine Wc.exit ?_
        obtain rfl := Option.some.inj h875
        exact ⟨_, rfl, rfl⟩
  · rintro st ⟨u4w, rfl, rfl⟩
    apply Wc.seq
    apply Wc.seq
    obtain ⟨ude, h882, h⟩ := obind h
    refine Wc.r2 [{}, { r := some (.v (.bool ude) []) }] ⟨[tP 2 2, (6, (.v (.sl (List.map cI.i64 u4w)), [(0, .app 3)])), tB 31 (!ude)], [bC 2 (GTerm.q u1c)], []⟩ (.cons (cspec_TermOk h882) .nil) ?_
    rcases oif h with ⟨h883, h⟩ | ⟨h883, h⟩
    · refine Wc.cT h883 ?_
      apply Wc.seq
      refine Wc.r2 [{ c := some (List.map GIns.c []) }, { tk := [6] }, { tk := [32] }, { tk := [33] }] ⟨[(4, (.v (.sl (List.map GIns.c [])), [(0, .app 128)])), (5, (.v (.sl (List.map cI.i64 u4w)), [(0, .app 3)]))], [], []⟩ (.cons (cl_nil GIns.c) .nil) ?_
      refine Wc.fx [.un (.t 4 0), .un (.t 5 0)] ⟨[tV 4 (.sl (List.map GIns.c [])), tV 5 (.sl (List.map cI.i64 u4w))], [], []⟩ ?_
      obtain rfl := Option.some.inj h; exact Wc.ret dn
    · refine Wc.cF h883 ?_
      refine Wc.fx [] ⟨[tP 2 2, (6, (.v (.sl (List.map cI.i64 u4w)), [(0, .app 3)]))], [bC 2 (GTerm.q u1c)], []⟩ ?_
      refine Wc.skip ?_
      apply Wc.seq
      obtain ⟨u5l, h884, h⟩ := obind h
      refine Wc.r2 [{}, { c := some (List.map GIns.c []), md := 1 }, { tk := [6] }, { tk := [35], r := some (.v (.tup [.slx, .sl (List.map cI.i64 u5l.2)]) [(0, .ex 128 false (List.map GIns.c u5l.1))]) }, { tk := [37] }, {}, { tk := [38] }] ⟨[(4, (.v (.slx), [(0, .ex 128 false (List.map GIns.c u5l.1))])), tV 5 (.sl (List.map cI.i64 u5l.2))], [], []⟩ (.cons (cl_nil GIns.c) (.cons (cspec_l12Words h884) .nil)) ?_
      refine Wc.fx [.sh (.t 4 0)] ⟨[tV 4 (.sl (List.map GIns.c u5l.1)), tV 5 (.sl (List.map cI.i64 u5l.2))], [], []⟩ ?_
      obtain rfl := Option.some.inj h; exact Wc.ret dn

def pspec_l03Vars_L2 (k : Nat) (rspec_l03Vars : GTerm → (List Int) → Option (List Int)) (uv : GTerm) : Nat → (List Int) → Int → Option (Out (List Int) (List Int))
  | 0, _, _ => none
  | m + 1, u5m, u41 =>
    if (decide (u41 < (uv.gKids.length : Int))) = true then
      (at' uv.gKids u41).bind fun ub7 =>
      (rspec_l03Vars ub7 u5m).bind fun ub8 =>
      pspec_l03Vars_L2 k rspec_l03Vars uv m ub8 (wr.i64 (u41 + 1))
    else
      some (.done u5m)
def pspec_l03Vars_J1 (k : Nat) (rspec_l03Vars : GTerm → (List Int) → Option (List Int)) (uv : GTerm) (u8d : List Int) : Option (List Int) :=
  (pspec_l03Vars_L2 k rspec_l03Vars uv k u8d 0).bind fun out2 => match out2 with
  | .ret r => some r
  | .done u8e =>
    some u8e
def pspec_l03Vars_J3 (k : Nat) (rspec_l03Vars : GTerm → (List Int) → Option (List Int)) (u02 : List Int) (uv : GTerm) (ub9 : Bool) : Option (List Int) :=
  if ub9 = true then
    if u02.length + [uv.gNum].length ≤ 1073741824 then
      pspec_l03Vars_J1 k rspec_l03Vars uv (u02 ++ [uv.gNum])
    else none
  else
    pspec_l03Vars_J1 k rspec_l03Vars uv u02
mutual
def pspec_l03Vars : Nat → GTerm → (List Int) → Option (List Int)
  | 0, _, _ => none
  | k + 1, uv, u02 =>
    if (uv.gKind == 1) = true then
      (pspec_l03Has k u02 uv.gNum).bind fun udf =>
      pspec_l03Vars_J3 k (pspec_l03Vars k) u02 uv (!udf)
    else
      pspec_l03Vars_J3 k (pspec_l03Vars k) u02 uv false
end
theorem all_pspec_l03Vars : ∀ k : Nat, (∀ {uv : GTerm} {u02 : List Int} {r : (List Int)}, pspec_l03Vars k uv u02 = some r → FnO Try.prog 110 [.v (.agg (GTerm.q uv)) [], .v (.slx) [(0, .ex 3 false (List.map cI.i64 u02))]] (.v (.slx) [(0, .ex 3 false (List.map cI.i64 r))]) []) := by
  intro k
  induction k with
  | zero =>
    · intro uv u02 r h
      exact (onone (by rw [pspec_l03Vars] at h; exact h)).elim
  | succ k ih =>
    have ih_pspec_l03Vars := @ih
    · intro uv u02 r h
      rw [pspec_l03Vars] at h
      refine FnO.o2 Try.func110 (rfl : Try.f110.body = some _) ?_
      intro w0 X0 Fin pv0 pb
      apply Wc.seq
      refine Wc.r0 ⟨[(1, (.v (.slx), [(0, .ex 3 false (List.map cI.i64 u02))])), tP 2 2], [bC 2 (GTerm.q uv)], []⟩ ?_
      refine Wc.seqJ (fun st => ∃ (u8d : List Int), st = ⟨[(1, (.v (.slx), [(0, .ex 3 false (List.map cI.i64 u8d))])), tP 2 2], [bC 2 (GTerm.q uv)], []⟩ ∧ pspec_l03Vars_J1 k (pspec_l03Vars k) uv u8d = some r) ?_ ?_
      · refine Wc.seqJ (fun st => ∃ (ub9 : Bool), st = ⟨[(1, (.v (.slx), [(0, .ex 3 false (List.map cI.i64 u02))])), tP 2 2, tB 15 ub9], [bC 2 (GTerm.q uv)], []⟩ ∧ pspec_l03Vars_J3 k (pspec_l03Vars k) u02 uv ub9 = some r) ?_ ?_
        · rcases oif h with ⟨h899, h⟩ | ⟨h899, h⟩
          · obtain ⟨udf, h900, h⟩ := obind h
            refine Wc.r2 [{}, {}, {}, { re := some (.bool true) }, {}, {}, {}, { r := some (.v (.bool udf) []) }] ⟨[(1, (.v (.slx), [(0, .ex 3 false (List.map cI.i64 u02))])), tP 2 2, tB 15 (!udf)], [bC 2 (GTerm.q uv)], []⟩ (.cons (congrArg AV.bool h899) (.cons (cspec_l03Has h900) .nil)) ?_
            exact ⟨_, rfl, h⟩
          · refine Wc.r2 [{}, {}, {}, { re := some (.bool false) }] ⟨[(1, (.v (.slx), [(0, .ex 3 false (List.map cI.i64 u02))])), tP 2 2, tB 15 false], [bC 2 (GTerm.q uv)], []⟩ (.cons (congrArg AV.bool h899) .nil) ?_
            exact ⟨_, rfl, h⟩
        · rintro st ⟨ub9, rfl, h⟩
          rcases oif h with ⟨h897, h⟩ | ⟨h897, h⟩
          · refine Wc.cT h897 ?_
            obtain ⟨h898, h⟩ := oguard h
            refine Wc.r2 [{ tk := [1] }, {}, {}, { c := some (List.map cI.i64 [uv.gNum]) }, { c := some (List.map cI.i64 (u02 ++ [uv.gNum])), tk := [16], md := 1 }, { tk := [20] }] ⟨[(1, (.v (.slx), [(0, .ex 3 false (List.map cI.i64 (u02 ++ [uv.gNum])))])), tP 2 2], [bC 2 (GTerm.q uv)], []⟩ (.cons (cl_cons (c := cI.i64) (x := uv.gNum) rfl (cl_nil cI.i64)) (.cons (app_re2 cI.i64 u02 [uv.gNum]) (.cons (app_leaf (c := cI.i64) (ys := [uv.gNum]) cI.i64_leaf) (.cons (app_obl2 (c := cI.i64) (xs := u02) (ys := [uv.gNum]) cI.i64_len h898) .nil)))) ?_
            exact ⟨_, rfl, h⟩
          · refine Wc.cF h897 ?_
            refine Wc.fx [] ⟨[(1, (.v (.slx), [(0, .ex 3 false (List.map cI.i64 u02))])), tP 2 2], [bC 2 (GTerm.q uv)], []⟩ ?_
            refine Wc.skip ?_
            exact ⟨_, rfl, h⟩
      · rintro st ⟨u8d, rfl, h⟩
        apply Wc.seq
        apply Wc.seq
        refine Wc.r0 ⟨[(1, (.v (.slx), [(0, .ex 3 false (List.map cI.i64 u8d))])), tP 2 2, tI 5 0], [bC 2 (GTerm.q uv)], []⟩ ?_
        obtain ⟨out2, h893, h⟩ := obind h
        refine Wc.lastJ (fun st => ∃ (u8e : List Int), out2 = .done u8e ∧ st = ⟨[(1, (.v (.slx), [(0, .ex 3 false (List.map cI.i64 u8e))]))], [], []⟩) ?_ ?_
        · refine Wc.block ?_
          refine Wc.loop (fun m st => ∃ (u5m : List Int) (u41 : Int), st = ⟨[(1, (.v (.slx), [(0, .ex 3 false (List.map cI.i64 u5m))])), tP 2 2, tI 5 u41], [bC 2 (GTerm.q uv)], []⟩ ∧ pspec_l03Vars_L2 k (pspec_l03Vars k) uv m u5m u41 = some out2) ?_ k ⟨_, _, rfl, h893⟩
          rintro m st ⟨u5m, u41, rfl, h893⟩
          cases m with
          | zero => exact (onone h893).elim
          | succ m =>
            apply Wc.seq
            apply Wc.seq
            refine Wc.r2 [{}, {}, {}, { v := some (aI (uv.gKids.length : Int)) }] ⟨[(1, (.v (.slx), [(0, .ex 3 false (List.map cI.i64 u5m))])), tP 2 2, tI 5 u41, tB 25 (decide (u41 < (uv.gKids.length : Int)))], [bC 2 (GTerm.q uv)], []⟩ (.cons (len_obl GTerm.c uv.gKids) .nil) ?_
            rcases oif h893 with ⟨h894, h893⟩ | ⟨h894, h893⟩
            · refine Wc.cT h894 ?_
              refine Wc.fx [] ⟨[(1, (.v (.slx), [(0, .ex 3 false (List.map cI.i64 u5m))])), tP 2 2, tI 5 u41], [bC 2 (GTerm.q uv)], []⟩ ?_
              refine Wc.skip ?_
              apply Wc.seq
              refine Wc.block ?_
              obtain ⟨ub7, h895, h893⟩ := obind h893
              obtain ⟨ub8, h896, h893⟩ := obind h893
              refine Wc.r2 [{}, {}, {}, { v := some (.vptr (GTerm.q ub7)) }, {}, { tk := [1] }, { tk := [33], r := some (.v (.slx) [(0, .ex 3 false (List.map cI.i64 ub8))]) }, { tk := [34] }] ⟨[(1, (.v (.slx), [(0, .ex 3 false (List.map cI.i64 ub8))])), tP 2 2, tI 5 u41], [bC 2 (GTerm.q uv)], []⟩ (.cons (at_obl (c := GTerm.c) (GTerm.c_eq ub7) GTerm.c_len h895) (.cons (len_ok 4 (GTerm.q ub7)) (.cons (ih_pspec_l03Vars h896) .nil))) ?_
              refine Wc.r0 ⟨[(1, (.v (.slx), [(0, .ex 3 false (List.map cI.i64 ub8))])), tP 2 2, tI 5 (wr.i64 (u41 + 1))], [bC 2 (GTerm.q uv)], []⟩ ?_
              exact ⟨_, Nat.lt_succ_self _, _, _, rfl, h893⟩
            · refine Wc.cF h894 ?_
              refine Wc.fx [] ⟨[(1, (.v (.slx), [(0, .ex 3 false (List.map cI.i64 u5m))]))], [], []⟩ ?_
              refine Wc.exit ?_
              obtain rfl := Option.some.inj h893
              exact ⟨_, rfl, rfl⟩
        · rintro st ⟨u8e, rfl, rfl⟩
          apply Wc.seq
          refine Wc.r1 [{ tk := [1] }, { tk := [35] }] ⟨[(4, (.v (.slx), [(0, .ex 3 false (List.map cI.i64 u8e))]))], [], []⟩ ?_
          obtain rfl := Option.some.inj h; exact Wc.ret dn
theorem cspec_l03Vars {k : Nat} {uv : GTerm} {u02 : List Int} {r : (List Int)} (h : pspec_l03Vars k uv u02 = some r) : FnO Try.prog 110 [.v (.agg (GTerm.q uv)) [], .v (.slx) [(0, .ex 3 false (List.map cI.i64 u02))]] (.v (.slx) [(0, .ex 3 false (List.map cI.i64 r))]) [] := (all_pspec_l03Vars k) h

def pspec_VarsOf (k : Nat) (uba : GTerm) : Option (List Int) :=
  (pspec_l03Vars k uba []).bind fun ubb =>
  some ubb
theorem cspec_VarsOf {k : Nat} {uba : GTerm} {r : (List Int)} (h : pspec_VarsOf k uba = some r) : FnO Try.prog 47 [.v (.agg (GTerm.q uba)) []] (.v (.sl (List.map cI.i64 r)) []) [] := by
  refine FnO.o2 Try.func47 (rfl : Try.f47.body = some _) ?_
  intro w0 X0 Fin pv0 pb
  unfold pspec_VarsOf at h
  apply Wc.seq
  refine Wc.r0 ⟨[tP 1 1], [bC 1 (GTerm.q uba)], []⟩ ?_
  apply Wc.seq
  obtain ⟨ubb, h901, h⟩ := obind h
  refine Wc.r2 [{}, { c := some (List.map cI.i64 []), md := 1 }, { tk := [4], r := some (.v (.slx) [(0, .ex 3 false (List.map cI.i64 ubb))]) }, { tk := [5] }] ⟨[(2, (.v (.slx), [(0, .ex 3 false (List.map cI.i64 ubb))]))], [], []⟩ (.cons (cl_nil cI.i64) (.cons (cspec_l03Vars h901) .nil)) ?_
  refine Wc.fx [.sh (.t 2 0)] ⟨[tV 2 (.sl (List.map cI.i64 ubb))], [], []⟩ ?_
  obtain rfl := Option.some.inj h; exact Wc.ret dn

def pspec_l08ClauseTermRaw (k : Nat) (u8f : GClause) : Option GTerm :=
  (pspec_l03Two k (bs [58, 45]) u8f.gHead u8f.gBody).bind fun udg =>
  some udg
theorem cspec_l08ClauseTermRaw {k : Nat} {u8f : GClause} {r : GTerm} (h : pspec_l08ClauseTermRaw k u8f = some r) : FnO Try.prog 170 [.v (.agg (GClause.q u8f)) []] (.v (.agg (GTerm.q r)) [(3, .app 41)]) [] := by
  refine FnO.o2 Try.func170 (rfl : Try.f170.body = some _) ?_
  intro w0 X0 Fin pv0 pb
  unfold pspec_l08ClauseTermRaw at h
  apply Wc.seq
  refine Wc.r0 ⟨[tP 1 1, tP 2 2], [bC 1 (GClause.q u8f), (2, .cells GTerm.z [(3, .app 41)])], []⟩ ?_
  apply Wc.seq
  obtain ⟨udg, h903, h⟩ := obind h
  refine Wc.r2 [{}, {}, {}, {}, { r := some (.v (.agg (GTerm.q udg)) [(3, .app 41)]) }, { tk := [7] }] ⟨[tP 2 2], [(2, .cells (GTerm.q udg) [(3, .app 41)])], []⟩ (.cons (cspec_l03Two h903) .nil) ?_
  obtain rfl := Option.some.inj h; exact Wc.ret dn

def pspec_ClauseTerm (k : Nat) (ubc : GClause) : Option GTerm :=
  (pspec_l08ClauseTermRaw k ubc).bind fun udh =>
  (pspec_l34Term k udh).bind fun udi =>
  some udi
theorem cspec_ClauseTerm {k : Nat} {ubc : GClause} {r : GTerm} (h : pspec_ClauseTerm k ubc = some r) : FnO Try.prog 152 [.v (.agg (GClause.q ubc)) []] (.v (.agg (GTerm.q r)) [(3, .app 41)]) [] := by
  refine FnO.o2 Try.func152 (rfl : Try.f152.body = some _) ?_
  intro w0 X0 Fin pv0 pb
  unfold pspec_ClauseTerm at h
  apply Wc.seq
  refine Wc.r0 ⟨[tP 1 1, tP 2 2], [bC 1 (GClause.q ubc), (2, .cells GTerm.z [(3, .app 41)])], []⟩ ?_
  apply Wc.seq
  obtain ⟨udh, h906, h⟩ := obind h
  refine Wc.r2 [{}, { r := some (.v (.agg (GTerm.q udh)) [(3, .app 41)]) }, {}, { tk := [5] }] ⟨[tP 2 2, tP 3 3], [(2, .cells GTerm.z [(3, .app 41)]), (3, .cells (GTerm.q udh) [(3, .app 41)])], []⟩ (.cons (cspec_l08ClauseTermRaw h906) .nil) ?_
  apply Wc.seq
  obtain ⟨udi, h907, h⟩ := obind h
  refine Wc.r2 [{}, { r := some (.v (.agg (GTerm.q udi)) [(3, .app 41)]) }, { tk := [7] }] ⟨[tP 2 2], [(2, .cells (GTerm.q udi) [(3, .app 41)])], []⟩ (.cons (cspec_l34Term h907) .nil) ?_
  obtain rfl := Option.some.inj h; exact Wc.ret dn

def pspec_l11Many_L1 (k : Nat) (u0c : (List Int)) : Nat → Int → Int → Option (Out Int Int)
  | 0, _, _ => none
  | m + 1, u39, u26 =>
    if (decide (u26 < (u0c.length : Int))) = true then
      (at' u0c u26).bind fun ubd =>
      if (decide (ubd ≥ u39)) = true then
        (at' u0c u26).bind fun u8g =>
        pspec_l11Many_L1 k u0c m (wr.i64 (u8g + 1)) (wr.i64 (u26 + 1))
      else
        pspec_l11Many_L1 k u0c m u39 (wr.i64 (u26 + 1))
    else
      some (.done u39)
def pspec_l11Many (k : Nat) (u8h : GClause) : Option Int :=
  (pspec_ClauseTerm k u8h).bind fun ue3 =>
  (pspec_VarsOf k ue3).bind fun u0c =>
  (pspec_l11Many_L1 k u0c k 0 0).bind fun out1 => match out1 with
  | .ret r => some r
  | .done u8i =>
    some u8i
theorem cspec_l11Many {k : Nat} {u8h : GClause} {r : Int} (h : pspec_l11Many k u8h = some r) : FnO Try.prog 104 [.v (.agg (GClause.q u8h)) []] (.v (aI r) []) [] := by
  refine FnO.o2 Try.func104 (rfl : Try.f104.body = some _) ?_
  intro w0 X0 Fin pv0 pb
  unfold pspec_l11Many at h
  apply Wc.seq
  refine Wc.r0 ⟨[tP 1 1], [bC 1 (GClause.q u8h)], []⟩ ?_
  apply Wc.seq
  refine Wc.r0 ⟨[tP 1 1, tI 3 0], [bC 1 (GClause.q u8h)], []⟩ ?_
  apply Wc.seq
  obtain ⟨ue3, h908, h⟩ := obind h
  obtain ⟨u0c, h909, h⟩ := obind h
  refine Wc.r2 [{}, { r := some (.v (.agg (GTerm.q ue3)) [(3, .app 41)]) }, { r := some (.v (.sl (List.map cI.i64 u0c)) []) }] ⟨[tI 3 0, tV 4 (.sl (List.map cI.i64 u0c))], [], []⟩ (.cons (cspec_ClauseTerm h908) (.cons (cspec_VarsOf h909) .nil)) ?_
  apply Wc.seq
  apply Wc.seq
  refine Wc.r0 ⟨[tI 3 0, tV 4 (.sl (List.map cI.i64 u0c)), tI 5 0], [], []⟩ ?_
  obtain ⟨out1, h910, h⟩ := obind h
  refine Wc.lastJ (fun st => ∃ (u8i : Int), out1 = .done u8i ∧ st = ⟨[tI 3 u8i], [], []⟩) ?_ ?_
  · refine Wc.block ?_
    refine Wc.loop (fun m st => ∃ (u39 : Int) (u26 : Int), st = ⟨[tI 3 u39, tV 4 (.sl (List.map cI.i64 u0c)), tI 5 u26], [], []⟩ ∧ pspec_l11Many_L1 k u0c m u39 u26 = some out1) ?_ k ⟨_, _, rfl, h910⟩
    rintro m st ⟨u39, u26, rfl, h910⟩
    cases m with
    | zero => exact (onone h910).elim
    | succ m =>
      apply Wc.seq
      apply Wc.seq
      refine Wc.r2 [{}, {}, { v := some (aI (u0c.length : Int)) }] ⟨[tI 3 u39, tV 4 (.sl (List.map cI.i64 u0c)), tI 5 u26, tB 12 (decide (u26 < (u0c.length : Int)))], [], []⟩ (.cons (len_obl cI.i64 u0c) .nil) ?_
      rcases oif h910 with ⟨h911, h910⟩ | ⟨h911, h910⟩
      · refine Wc.cT h911 ?_
        refine Wc.fx [] ⟨[tI 3 u39, tV 4 (.sl (List.map cI.i64 u0c)), tI 5 u26], [], []⟩ ?_
        refine Wc.skip ?_
        apply Wc.seq
        refine Wc.block ?_
        apply Wc.seq
        obtain ⟨ubd, h912, h910⟩ := obind h910
        refine Wc.r2 [{}, {}, { v := some (.vptr [aI ubd]) }] ⟨[tI 3 u39, tV 4 (.sl (List.map cI.i64 u0c)), tI 5 u26, tB 20 (decide (ubd ≥ u39))], [], []⟩ (.cons (at_obl (c := cI.i64) rfl cI.i64_len h912) (.cons (len_ok 1 [aI ubd]) .nil)) ?_
        rcases oif h910 with ⟨h913, h910⟩ | ⟨h913, h910⟩
        · refine Wc.cT h913 ?_
          obtain ⟨u8g, h914, h910⟩ := obind h910
          refine Wc.r2 [{}, {}, { v := some (.vptr [aI u8g]) }] ⟨[tI 3 (wr.i64 (u8g + 1)), tV 4 (.sl (List.map cI.i64 u0c)), tI 5 u26], [], []⟩ (.cons (at_obl (c := cI.i64) rfl cI.i64_len h914) (.cons (len_ok 1 [aI u8g]) .nil)) ?_
          refine Wc.r0 ⟨[tI 3 (wr.i64 (u8g + 1)), tV 4 (.sl (List.map cI.i64 u0c)), tI 5 (wr.i64 (u26 + 1))], [], []⟩ ?_
          exact ⟨_, Nat.lt_succ_self _, _, _, rfl, h910⟩
        · refine Wc.cF h913 ?_
          refine Wc.fx [] ⟨[tI 3 u39, tV 4 (.sl (List.map cI.i64 u0c)), tI 5 u26], [], []⟩ ?_
          refine Wc.skip ?_
          refine Wc.r0 ⟨[tI 3 u39, tV 4 (.sl (List.map cI.i64 u0c)), tI 5 (wr.i64 (u26 + 1))], [], []⟩ ?_
          exact ⟨_, Nat.lt_succ_self _, _, _, rfl, h910⟩
      · refine Wc.cF h911 ?_
        refine Wc.fx [] ⟨[tI 3 u39], [], []⟩ ?_
        refine Wc.exit ?_
        obtain rfl := Option.some.inj h910
        exact ⟨_, rfl, rfl⟩
  · rintro st ⟨u8i, rfl, rfl⟩
    apply Wc.seq
    refine Wc.r0 ⟨[tI 2 u8i], [], []⟩ ?_
    obtain rfl := Option.some.inj h; exact Wc.ret dn

def pspec_CodeOf (k : Nat) (u3a : GClause) : Option (GCode × Bool) :=
  (pspec_TermOk k u3a.gHead).bind fun udj =>
  if (!udj) = true then
    some (GCode.mk [] [] 0, false)
  else
    (pspec_TermOk k u3a.gBody).bind fun udk =>
    if (!udk) = true then
      some (GCode.mk [] [] 0, false)
    else
      (pspec_WordsOf k u3a.gHead []).bind fun u5n =>
      (pspec_WordsOf k u3a.gBody u5n.2).bind fun u8j =>
      (pspec_l11Many k u3a).bind fun udl =>
      some (GCode.mk u5n.1 u8j.1 udl, true)
theorem cspec_CodeOf {k : Nat} {u3a : GClause} {r : GCode × Bool} (h : pspec_CodeOf k u3a = some r) : FnO Try.prog 41 [.v (.agg (GClause.q u3a)) []] (.v (.tup [.agg (GCode.q r.1), .bool r.2]) []) [] := by
  refine FnO.o2 Try.func41 (rfl : Try.f41.body = some _) ?_
  intro w0 X0 Fin pv0 pb
  unfold pspec_CodeOf at h
  apply Wc.seq
  refine Wc.r0 ⟨[tP 1 1, tP 2 2], [bC 1 (GClause.q u3a), (2, .cells GCode.z [(0, .app 128), (1, .app 128)])], []⟩ ?_
  apply Wc.seq
  apply Wc.seq
  obtain ⟨udj, h922, h⟩ := obind h
  rcases oif h with ⟨h923, h⟩ | ⟨h923, h⟩
  · refine Wc.r2 [{}, {}, { r := some (.v (.bool udj) []) }, {}, { re := some (.bool true) }] ⟨[tP 1 1, tP 2 2, tB 17 true], [bC 1 (GClause.q u3a), (2, .cells GCode.z [(0, .app 128), (1, .app 128)])], []⟩ (.cons (cspec_TermOk h922) (.cons (congrArg AV.bool h923) .nil)) ?_
    refine Wc.cT rfl ?_
    apply Wc.seq
    refine Wc.r1 [{}, { tk := [18] }] ⟨[tP 2 2, tB 3 false], [(2, .cells GCode.z [(0, .app 128), (1, .app 128)])], []⟩ ?_
    refine Wc.fx [.un (.b 2 0), .un (.b 2 1)] ⟨[tP 2 2, tB 3 false], [bC 2 GCode.z], []⟩ ?_
    obtain rfl := Option.some.inj h; exact Wc.ret dn
  · obtain ⟨udk, h924, h⟩ := obind h
    refine Wc.r2 [{}, {}, { r := some (.v (.bool udj) []) }, {}, { re := some (.bool false) }, {}, {}, { r := some (.v (.bool udk) []) }] ⟨[tP 1 1, tP 2 2, tB 17 (!udk)], [bC 1 (GClause.q u3a), (2, .cells GCode.z [(0, .app 128), (1, .app 128)])], []⟩ (.cons (cspec_TermOk h922) (.cons (congrArg AV.bool h923) (.cons (cspec_TermOk h924) .nil))) ?_
    rcases oif h with ⟨h925, h⟩ | ⟨h925, h⟩
    · refine Wc.cT h925 ?_
      apply Wc.seq
      refine Wc.r1 [{}, { tk := [18] }] ⟨[tP 2 2, tB 3 false], [(2, .cells GCode.z [(0, .app 128), (1, .app 128)])], []⟩ ?_
      refine Wc.fx [.un (.b 2 0), .un (.b 2 1)] ⟨[tP 2 2, tB 3 false], [bC 2 GCode.z], []⟩ ?_
      obtain rfl := Option.some.inj h; exact Wc.ret dn
    · refine Wc.cF h925 ?_
      refine Wc.fx [] ⟨[tP 1 1, tP 2 2], [bC 1 (GClause.q u3a), (2, .cells GCode.z [(0, .app 128), (1, .app 128)])], []⟩ ?_
      refine Wc.skip ?_
      apply Wc.seq
      obtain ⟨u5n, h926, h⟩ := obind h
      refine Wc.r2 [{}, {}, { c := some (List.map cI.i64 []) }, { r := some (.v (.tup [.sl (List.map GIns.c u5n.1), .sl (List.map cI.i64 u5n.2)]) []) }] ⟨[tP 1 1, tP 2 2, tV 4 (.sl (List.map GIns.c u5n.1)), tV 5 (.sl (List.map cI.i64 u5n.2))], [bC 1 (GClause.q u3a), (2, .cells GCode.z [(0, .app 128), (1, .app 128)])], []⟩ (.cons (cl_nil cI.i64) (.cons (cspec_WordsOf h926) .nil)) ?_
      apply Wc.seq
      obtain ⟨u8j, h927, h⟩ := obind h
      refine Wc.r2 [{}, {}, {}, { r := some (.v (.tup [.sl (List.map GIns.c u8j.1), .sl (List.map cI.i64 u8j.2)]) []) }] ⟨[tP 1 1, tP 2 2, tV 4 (.sl (List.map GIns.c u5n.1)), tV 6 (.sl (List.map GIns.c u8j.1))], [bC 1 (GClause.q u3a), (2, .cells GCode.z [(0, .app 128), (1, .app 128)])], []⟩ (.cons (cspec_WordsOf h927) .nil) ?_
      apply Wc.seq
      obtain ⟨udl, h928, h⟩ := obind h
      refine Wc.r2 [{}, {}, {}, { r := some (.v (aI udl) []) }] ⟨[tP 2 2, tB 3 true], [bC 2 [.sl (List.map GIns.c u5n.1), .sl (List.map GIns.c u8j.1), aI udl]], []⟩ (.cons (cspec_l11Many h928) .nil) ?_
      obtain rfl := Option.some.inj h; exact Wc.ret dn

def pspec_l12Words_d_L1 (k : Nat) (rspec_l12Words_d : GTerm → (List GIns) → (List Int) → Option ((List GIns) × (List Int))) (u6 : GTerm) : Nat → (List GIns) → (List Int) → Int → Option (Out ((List GIns) × (List Int)) ((List GIns) × (List Int)))
  | 0, _, _, _ => none
  | m + 1, u5o, u5p, u42 =>
    if (decide (u42 < (u6.gKids.length : Int))) = true then
      (at' u6.gKids u42).bind fun ube =>
      (rspec_l12Words_d ube u5o u5p).bind fun u5q =>
      pspec_l12Words_d_L1 k rspec_l12Words_d u6 m u5q.1 u5q.2 (wr.i64 (u42 + 1))
    else
      some (.done (u5o, u5p))
mutual
def pspec_l12Words_d : Nat → GTerm → (List GIns) → (List Int) → Option ((List GIns) × (List Int))
  | 0, _, _, _ => none
  | k + 1, u6, v0, vj =>
    if (u6.gKind == 2) = true then
      if v0.length + [GIns.mk 1 u6.gName 0 0].length ≤ 1073741824 then
        some (v0 ++ [GIns.mk 1 u6.gName 0 0], vj)
      else none
    else
      if (u6.gKind == 3) = true then
        if v0.length + [GIns.mk 2 (bs []) u6.gNum 0].length ≤ 1073741824 then
          some (v0 ++ [GIns.mk 2 (bs []) u6.gNum 0], vj)
        else none
      else
        if (u6.gKind == 1) = true then
          (pspec_l03Has k vj u6.gNum).bind fun udm =>
          if udm = true then
            if v0.length + [GIns.mk 4 (bs []) u6.gNum 0].length ≤ 1073741824 then
              some (v0 ++ [GIns.mk 4 (bs []) u6.gNum 0], vj)
            else none
          else
            if v0.length + [GIns.mk 3 (bs []) u6.gNum 0].length ≤ 1073741824 then
              if ([] : List Int).length + vj.length ≤ 1073741824 then
                if vj.length + [u6.gNum].length ≤ 1073741824 then
                  some (v0 ++ [GIns.mk 3 (bs []) u6.gNum 0], vj ++ [u6.gNum])
                else none
              else none
            else none
        else
          if v0.length + [GIns.mk 5 u6.gName 0 (u6.gKids.length : Int)].length ≤ 1073741824 then
            (pspec_l12Words_d_L1 k (pspec_l12Words_d k) u6 k (v0 ++ [GIns.mk 5 u6.gName 0 (u6.gKids.length : Int)]) vj 0).bind fun out1 => match out1 with
            | .ret r => some r
            | .done (u8k, u8l) =>
              some (u8k, u8l)
          else none
end
set_option maxHeartbeats 4000000 in
theorem all_pspec_l12Words_d : ∀ k : Nat, (∀ {u6 : GTerm} {v0 : List GIns} {vj : List Int} {r : (List GIns) × (List Int)}, pspec_l12Words_d k u6 v0 vj = some r → FnO Try.prog 109 [.v (.agg (GTerm.q u6)) [], .v (.slx) [(0, .ex 128 true (List.map GIns.c v0))], .v (.slx) [(0, .ex 3 true (List.map cI.i64 vj))]] (.v (.tup [.slx, .slx]) [(0, .ex 128 true (List.map GIns.c r.1)), (1, .ex 3 true (List.map cI.i64 r.2))]) []) := by
  intro k
  induction k with
  | zero =>
    · intro u6 v0 vj r h
      exact (onone (by rw [pspec_l12Words_d] at h; exact h)).elim
  | succ k ih =>
    have ih_pspec_l12Words_d := @ih
    · intro u6 v0 vj r h
      rw [pspec_l12Words_d] at h
      refine FnO.o2 Try.func109 (rfl : Try.f109.body = some _) ?_
      intro w0 X0 Fin pv0 pb
      apply Wc.seq
      refine Wc.r0 ⟨[(1, (.v (.slx), [(0, .ex 128 true (List.map GIns.c v0))])), (2, (.v (.slx), [(0, .ex 3 true (List.map cI.i64 vj))])), tP 3 3], [bC 3 (GTerm.q u6)], []⟩ ?_
      apply Wc.seq
      apply Wc.seq
      refine Wc.r0 ⟨[(1, (.v (.slx), [(0, .ex 128 true (List.map GIns.c v0))])), (2, (.v (.slx), [(0, .ex 3 true (List.map cI.i64 vj))])), tP 3 3, tI 10 u6.gKind], [bC 3 (GTerm.q u6)], []⟩ ?_
      refine Wc.block ?_
      apply Wc.seq
      refine Wc.r0 ⟨[(1, (.v (.slx), [(0, .ex 128 true (List.map GIns.c v0))])), (2, (.v (.slx), [(0, .ex 3 true (List.map cI.i64 vj))])), tP 3 3, tI 10 u6.gKind, tB 11 (u6.gKind == 2)], [bC 3 (GTerm.q u6)], []⟩ ?_
      rcases oif h with ⟨h954, h⟩ | ⟨h954, h⟩
      · refine Wc.cT h954 ?_
        apply Wc.seq
        obtain ⟨h955, h⟩ := oguard h
        refine Wc.r2 [{ tk := [1] }, {}, {}, {}, { c := some (List.map GIns.c [GIns.mk 1 u6.gName 0 0]) }, { c := some (List.map GIns.c (v0 ++ [GIns.mk 1 u6.gName 0 0])), tk := [13], md := 2 }, { tk := [2] }, { tk := [18] }, { tk := [19] }] ⟨[(6, (.v (.slx), [(0, .ex 128 true (List.map GIns.c (v0 ++ [GIns.mk 1 u6.gName 0 0])))])), (7, (.v (.slx), [(0, .ex 3 true (List.map cI.i64 vj))]))], [], []⟩ (.cons (cl_cons (c := GIns.c) (x := GIns.mk 1 u6.gName 0 0) (GIns.c_eq (GIns.mk 1 u6.gName 0 0)) (cl_nil GIns.c)) (.cons (app_re2 GIns.c v0 [GIns.mk 1 u6.gName 0 0]) (.cons (app_scal (c := GIns.c) (ys := [GIns.mk 1 u6.gName 0 0]) GIns.c_scal) (.cons (app_obl2 (c := GIns.c) (xs := v0) (ys := [GIns.mk 1 u6.gName 0 0]) GIns.c_len h955) .nil)))) ?_
        obtain rfl := Option.some.inj h; exact Wc.ret dn
      · refine Wc.cF h954 ?_
        apply Wc.seq
        refine Wc.r0 ⟨[(1, (.v (.slx), [(0, .ex 128 true (List.map GIns.c v0))])), (2, (.v (.slx), [(0, .ex 3 true (List.map cI.i64 vj))])), tP 3 3, tI 10 u6.gKind, tB 20 (u6.gKind == 3)], [bC 3 (GTerm.q u6)], []⟩ ?_
        rcases oif h with ⟨h956, h⟩ | ⟨h956, h⟩
        · refine Wc.cT h956 ?_
          apply Wc.seq
          obtain ⟨h957, h⟩ := oguard h
          refine Wc.r2 [{ tk := [1] }, {}, {}, {}, { c := some (List.map GIns.c [GIns.mk 2 (bs []) u6.gNum 0]) }, { c := some (List.map GIns.c (v0 ++ [GIns.mk 2 (bs []) u6.gNum 0])), tk := [22], md := 2 }, { tk := [2] }, { tk := [27] }, { tk := [28] }] ⟨[(6, (.v (.slx), [(0, .ex 128 true (List.map GIns.c (v0 ++ [GIns.mk 2 (bs []) u6.gNum 0])))])), (7, (.v (.slx), [(0, .ex 3 true (List.map cI.i64 vj))]))], [], []⟩ (.cons (cl_cons (c := GIns.c) (x := GIns.mk 2 (bs []) u6.gNum 0) (GIns.c_eq (GIns.mk 2 (bs []) u6.gNum 0)) (cl_nil GIns.c)) (.cons (app_re2 GIns.c v0 [GIns.mk 2 (bs []) u6.gNum 0]) (.cons (app_scal (c := GIns.c) (ys := [GIns.mk 2 (bs []) u6.gNum 0]) GIns.c_scal) (.cons (app_obl2 (c := GIns.c) (xs := v0) (ys := [GIns.mk 2 (bs []) u6.gNum 0]) GIns.c_len h957) .nil)))) ?_
          obtain rfl := Option.some.inj h; exact Wc.ret dn
        · refine Wc.cF h956 ?_
          apply Wc.seq
          refine Wc.r0 ⟨[(1, (.v (.slx), [(0, .ex 128 true (List.map GIns.c v0))])), (2, (.v (.slx), [(0, .ex 3 true (List.map cI.i64 vj))])), tP 3 3, tB 29 (u6.gKind == 1)], [bC 3 (GTerm.q u6)], []⟩ ?_
          rcases oif h with ⟨h958, h⟩ | ⟨h958, h⟩
          · refine Wc.cT h958 ?_
            apply Wc.seq
            apply Wc.seq
            obtain ⟨udm, h959, h⟩ := obind h
            refine Wc.r2 [{}, {}, {}, { r := some (.v (.bool udm) []) }] ⟨[(1, (.v (.slx), [(0, .ex 128 true (List.map GIns.c v0))])), (2, (.v (.slx), [(0, .ex 3 true (List.map cI.i64 vj))])), tP 3 3, tB 34 udm], [bC 3 (GTerm.q u6)], []⟩ (.cons (cspec_l03Has h959) .nil) ?_
            rcases oif h with ⟨h960, h⟩ | ⟨h960, h⟩
            · refine Wc.cT h960 ?_
              apply Wc.seq
              obtain ⟨h961, h⟩ := oguard h
              refine Wc.r2 [{ tk := [1] }, {}, {}, {}, { c := some (List.map GIns.c [GIns.mk 4 (bs []) u6.gNum 0]) }, { c := some (List.map GIns.c (v0 ++ [GIns.mk 4 (bs []) u6.gNum 0])), tk := [35], md := 2 }, { tk := [2] }, { tk := [40] }, { tk := [41] }] ⟨[(6, (.v (.slx), [(0, .ex 128 true (List.map GIns.c (v0 ++ [GIns.mk 4 (bs []) u6.gNum 0])))])), (7, (.v (.slx), [(0, .ex 3 true (List.map cI.i64 vj))]))], [], []⟩ (.cons (cl_cons (c := GIns.c) (x := GIns.mk 4 (bs []) u6.gNum 0) (GIns.c_eq (GIns.mk 4 (bs []) u6.gNum 0)) (cl_nil GIns.c)) (.cons (app_re2 GIns.c v0 [GIns.mk 4 (bs []) u6.gNum 0]) (.cons (app_scal (c := GIns.c) (ys := [GIns.mk 4 (bs []) u6.gNum 0]) GIns.c_scal) (.cons (app_obl2 (c := GIns.c) (xs := v0) (ys := [GIns.mk 4 (bs []) u6.gNum 0]) GIns.c_len h961) .nil)))) ?_
              obtain rfl := Option.some.inj h; exact Wc.ret dn
            · refine Wc.cF h960 ?_
              refine Wc.fx [] ⟨[(1, (.v (.slx), [(0, .ex 128 true (List.map GIns.c v0))])), (2, (.v (.slx), [(0, .ex 3 true (List.map cI.i64 vj))])), tP 3 3], [bC 3 (GTerm.q u6)], []⟩ ?_
              refine Wc.skip ?_
              apply Wc.seq
              obtain ⟨h962, h⟩ := oguard h
              obtain ⟨h963, h⟩ := oguard h
              obtain ⟨h964, h⟩ := oguard h
              refine Wc.draw hmix [{ tk := [1] }, {}, {}, {}, { c := some (List.map GIns.c [GIns.mk 3 (bs []) u6.gNum 0]) }, { c := some (List.map GIns.c (v0 ++ [GIns.mk 3 (bs []) u6.gNum 0])), tk := [42], md := 2 }, { c := some (List.map cI.i64 []), md := 2 }, { tk := [2] }, { c := some (List.map cI.i64 vj), tk := [48, 49], md := 2 }, {}, {}, { c := some (List.map cI.i64 [u6.gNum]) }, { c := some (List.map cI.i64 (vj ++ [u6.gNum])), tk := [50], md := 2 }, { tk := [47] }, { tk := [54] }] [] [6, 7] [] [] ⟨[(6, (.v (.slx), [(0, .ex 128 true (List.map GIns.c (v0 ++ [GIns.mk 3 (bs []) u6.gNum 0])))])), (7, (.v (.slx), [(0, .ex 3 true (List.map cI.i64 (vj ++ [u6.gNum])))]))], [], []⟩ _ (by kernel_rfl) (fun X => by kernel_rfl) (.cons (cl_cons (c := GIns.c) (x := GIns.mk 3 (bs []) u6.gNum 0) (GIns.c_eq (GIns.mk 3 (bs []) u6.gNum 0)) (cl_nil GIns.c)) (.cons (app_re2 GIns.c v0 [GIns.mk 3 (bs []) u6.gNum 0]) (.cons (app_scal (c := GIns.c) (ys := [GIns.mk 3 (bs []) u6.gNum 0]) GIns.c_scal) (.cons (app_obl2 (c := GIns.c) (xs := v0) (ys := [GIns.mk 3 (bs []) u6.gNum 0]) GIns.c_len h962) (.cons (cl_nil cI.i64) (.cons (app_re0 cI.i64 vj) (.cons (app_obl2 (c := cI.i64) (xs := []) (ys := vj) cI.i64_len h963) (.cons (cl_cons (c := cI.i64) (x := u6.gNum) rfl (cl_nil cI.i64)) (.cons (app_re2 cI.i64 vj [u6.gNum]) (.cons (app_scal (c := cI.i64) (ys := [u6.gNum]) cI.i64_scal) (.cons (app_obl2 (c := cI.i64) (xs := vj) (ys := [u6.gNum]) cI.i64_len h964) .nil))))))))))) ?_
              obtain rfl := Option.some.inj h; exact Wc.ret dn
          · refine Wc.cF h958 ?_
            refine Wc.fx [] ⟨[(1, (.v (.slx), [(0, .ex 128 true (List.map GIns.c v0))])), (2, (.v (.slx), [(0, .ex 3 true (List.map cI.i64 vj))])), tP 3 3], [bC 3 (GTerm.q u6)], []⟩ ?_
            refine Wc.skip ?_
            apply Wc.seq
            obtain ⟨h965, h⟩ := oguard h
            refine Wc.r2 [{ tk := [1] }, {}, {}, {}, {}, { v := some (aI (u6.gKids.length : Int)) }, {}, { c := some (List.map GIns.c [GIns.mk 5 u6.gName 0 (u6.gKids.length : Int)]) }, { c := some (List.map GIns.c (v0 ++ [GIns.mk 5 u6.gName 0 (u6.gKids.length : Int)])), tk := [55], md := 2 }, { tk := [63] }] ⟨[(1, (.v (.slx), [(0, .ex 128 true (List.map GIns.c (v0 ++ [GIns.mk 5 u6.gName 0 (u6.gKids.length : Int)])))])), (2, (.v (.slx), [(0, .ex 3 true (List.map cI.i64 vj))])), tP 3 3], [bC 3 (GTerm.q u6)], []⟩ (.cons (len_obl GTerm.c u6.gKids) (.cons (cl_cons (c := GIns.c) (x := GIns.mk 5 u6.gName 0 (u6.gKids.length : Int)) (GIns.c_eq (GIns.mk 5 u6.gName 0 (u6.gKids.length : Int))) (cl_nil GIns.c)) (.cons (app_re2 GIns.c v0 [GIns.mk 5 u6.gName 0 (u6.gKids.length : Int)]) (.cons (app_scal (c := GIns.c) (ys := [GIns.mk 5 u6.gName 0 (u6.gKids.length : Int)]) GIns.c_scal) (.cons (app_obl2 (c := GIns.c) (xs := v0) (ys := [GIns.mk 5 u6.gName 0 (u6.gKids.length : Int)]) GIns.c_len h965) .nil))))) ?_
            apply Wc.seq
            apply Wc.seq
            refine Wc.r0 ⟨[(1, (.v (.slx), [(0, .ex 128 true (List.map GIns.c (v0 ++ [GIns.mk 5 u6.gName 0 (u6.gKids.length : Int)])))])), (2, (.v (.slx), [(0, .ex 3 true (List.map cI.i64 vj))])), tP 3 3, tI 8 0], [bC 3 (GTerm.q u6)], []⟩ ?_
            obtain ⟨out1, h966, h⟩ := obind h
            refine Wc.lastJ (fun st => ∃ (u8k : List GIns) (u8l : List Int), out1 = .done (u8k, u8l) ∧ st = ⟨[(1, (.v (.slx), [(0, .ex 128 true (List.map GIns.c u8k))])), (2, (.v (.slx), [(0, .ex 3 true (List.map cI.i64 u8l))]))], [], []⟩) ?_ ?_
            · refine Wc.block ?_
              refine Wc.loop (fun m st => ∃ (u5o : List GIns) (u5p : List Int) (u42 : Int), st = ⟨[(1, (.v (.slx), [(0, .ex 128 true (List.map GIns.c u5o))])), (2, (.v (.slx), [(0, .ex 3 true (List.map cI.i64 u5p))])), tP 3 3, tI 8 u42], [bC 3 (GTerm.q u6)], []⟩ ∧ pspec_l12Words_d_L1 k (pspec_l12Words_d k) u6 m u5o u5p u42 = some out1) ?_ k ⟨_, _, _, rfl, h966⟩
              rintro m st ⟨u5o, u5p, u42, rfl, h966⟩
              cases m with
              | zero => exact (onone h966).elim
              | succ m =>
                apply Wc.seq
                apply Wc.seq
                refine Wc.r2 [{}, {}, {}, { v := some (aI (u6.gKids.length : Int)) }] ⟨[(1, (.v (.slx), [(0, .ex 128 true (List.map GIns.c u5o))])), (2, (.v (.slx), [(0, .ex 3 true (List.map cI.i64 u5p))])), tP 3 3, tI 8 u42, tB 68 (decide (u42 < (u6.gKids.length : Int)))], [bC 3 (GTerm.q u6)], []⟩ (.cons (len_obl GTerm.c u6.gKids) .nil) ?_
                rcases oif h966 with ⟨h967, h966⟩ | ⟨h967, h966⟩
                · refine Wc.cT h967 ?_
                  refine Wc.fx [] ⟨[(1, (.v (.slx), [(0, .ex 128 true (List.map GIns.c u5o))])), (2, (.v (.slx), [(0, .ex 3 true (List.map cI.i64 u5p))])), tP 3 3, tI 8 u42], [bC 3 (GTerm.q u6)], []⟩ ?_
                  refine Wc.skip ?_
                  apply Wc.seq
                  refine Wc.block ?_
                  obtain ⟨ube, h968, h966⟩ := obind h966
                  obtain ⟨u5q, h969, h966⟩ := obind h966
                  refine Wc.r2 [{}, {}, {}, { v := some (.vptr (GTerm.q ube)) }, {}, { tk := [1] }, { tk := [2] }, { tk := [77, 78], r := some (.v (.tup [.slx, .slx]) [(0, .ex 128 true (List.map GIns.c u5q.1)), (1, .ex 3 true (List.map cI.i64 u5q.2))]) }, { tk := [79] }, { tk := [71] }, { tk := [71] }, { tk := [80] }, { tk := [81] }] ⟨[(1, (.v (.slx), [(0, .ex 128 true (List.map GIns.c u5q.1))])), (2, (.v (.slx), [(0, .ex 3 true (List.map cI.i64 u5q.2))])), tP 3 3, tI 8 u42], [bC 3 (GTerm.q u6)], []⟩ (.cons (at_obl (c := GTerm.c) (GTerm.c_eq ube) GTerm.c_len h968) (.cons (len_ok 4 (GTerm.q ube)) (.cons (ih_pspec_l12Words_d h969) .nil))) ?_
                  refine Wc.r0 ⟨[(1, (.v (.slx), [(0, .ex 128 true (List.map GIns.c u5q.1))])), (2, (.v (.slx), [(0, .ex 3 true (List.map cI.i64 u5q.2))])), tP 3 3, tI 8 (wr.i64 (u42 + 1))], [bC 3 (GTerm.q u6)], []⟩ ?_
                  exact ⟨_, Nat.lt_succ_self _, _, _, _, rfl, h966⟩
                · refine Wc.cF h967 ?_
                  refine Wc.fx [] ⟨[(1, (.v (.slx), [(0, .ex 128 true (List.map GIns.c u5o))])), (2, (.v (.slx), [(0, .ex 3 true (List.map cI.i64 u5p))]))], [], []⟩ ?_
                  refine Wc.exit ?_
                  obtain rfl := Option.some.inj h966
                  exact ⟨_, _, rfl, rfl⟩
            · rintro st ⟨u8k, u8l, rfl, rfl⟩
              apply Wc.seq
              refine Wc.r1 [{ tk := [1] }, { tk := [2] }, { tk := [82] }, { tk := [83] }] ⟨[(6, (.v (.slx), [(0, .ex 128 true (List.map GIns.c u8k))])), (7, (.v (.slx), [(0, .ex 3 true (List.map cI.i64 u8l))]))], [], []⟩ ?_
              obtain rfl := Option.some.inj h; exact Wc.ret dn
theorem cspec_l12Words_d {k : Nat} {u6 : GTerm} {v0 : List GIns} {vj : List Int} {r : (List GIns) × (List Int)} (h : pspec_l12Words_d k u6 v0 vj = some r) : FnO Try.prog 109 [.v (.agg (GTerm.q u6)) [], .v (.slx) [(0, .ex 128 true (List.map GIns.c v0))], .v (.slx) [(0, .ex 3 true (List.map cI.i64 vj))]] (.v (.tup [.slx, .slx]) [(0, .ex 128 true (List.map GIns.c r.1)), (1, .ex 3 true (List.map cI.i64 r.2))]) [] := (all_pspec_l12Words_d k) h

def pspec_WordsOf_d_L1 (k : Nat) (u03 : List Int) : Nat → (List Int) → Int → Option (Out ((List GIns) × (List Int)) (List Int))
  | 0, _, _ => none
  | m + 1, u1d, u27 =>
    if (decide (u27 < (u03.length : Int))) = true then
      (at' u03 u27).bind fun udn =>
      (pspec_l03Has k u1d udn).bind fun udo =>
      if (!udo) = true then
        (at' u03 u27).bind fun u3n =>
        if u1d.length + [u3n].length ≤ 1073741824 then
          pspec_WordsOf_d_L1 k u03 m (u1d ++ [u3n]) (wr.i64 (u27 + 1))
        else none
      else
        pspec_WordsOf_d_L1 k u03 m u1d (wr.i64 (u27 + 1))
    else
      some (.done u1d)
def pspec_WordsOf_d (k : Nat) (u1e : GTerm) (u03 : List Int) : Option ((List GIns) × (List Int)) :=
  (pspec_WordsOf_d_L1 k u03 k [] 0).bind fun out1 => match out1 with
  | .ret r => some r
  | .done u5r =>
    (pspec_TermOk k u1e).bind fun udp =>
    if (!udp) = true then
      some ([], u5r)
    else
      (pspec_l12Words_d k u1e [] u5r).bind fun u6v =>
      some (u6v.1, u6v.2)
theorem cspec_WordsOf_d {k : Nat} {u1e : GTerm} {u03 : List Int} {r : (List GIns) × (List Int)} (h : pspec_WordsOf_d k u1e u03 = some r) : FnO Try.prog 45 [.v (.agg (GTerm.q u1e)) [], .v (.sl (List.map cI.i64 u03)) []] (.v (.tup [.slx, .slx]) [(0, .ex 128 true (List.map GIns.c r.1)), (1, .ex 3 true (List.map cI.i64 r.2))]) [] := by
  refine FnO.o2 Try.func45 (rfl : Try.f45.body = some _) ?_
  intro w0 X0 Fin pv0 pb
  unfold pspec_WordsOf_d at h
  apply Wc.seq
  refine Wc.r0 ⟨[tV 1 (.sl (List.map cI.i64 u03)), tP 2 2], [bC 2 (GTerm.q u1e)], []⟩ ?_
  apply Wc.seq
  refine Wc.r2 [{ c := some (List.map cI.i64 []), md := 2 }, { tk := [8] }] ⟨[tV 1 (.sl (List.map cI.i64 u03)), tP 2 2, (6, (.v (.slx), [(0, .ex 3 true (List.map cI.i64 []))]))], [bC 2 (GTerm.q u1e)], []⟩ (.cons (cl_nil cI.i64) .nil) ?_
  apply Wc.seq
  apply Wc.seq
  refine Wc.r0 ⟨[tV 1 (.sl (List.map cI.i64 u03)), tP 2 2, (6, (.v (.slx), [(0, .ex 3 true (List.map cI.i64 []))])), tI 7 0], [bC 2 (GTerm.q u1e)], []⟩ ?_
  obtain ⟨out1, h942, h⟩ := obind h
  refine Wc.lastJ (fun st => ∃ (u5r : List Int), out1 = .done u5r ∧ st = ⟨[tP 2 2, (6, (.v (.slx), [(0, .ex 3 true (List.map cI.i64 u5r))]))], [bC 2 (GTerm.q u1e)], []⟩) ?_ ?_
  · refine Wc.block ?_
    refine Wc.loop (fun m st => ∃ (u1d : List Int) (u27 : Int), st = ⟨[tV 1 (.sl (List.map cI.i64 u03)), tP 2 2, (6, (.v (.slx), [(0, .ex 3 true (List.map cI.i64 u1d))])), tI 7 u27], [bC 2 (GTerm.q u1e)], []⟩ ∧ pspec_WordsOf_d_L1 k u03 m u1d u27 = some out1) ?_ k ⟨_, _, rfl, h942⟩
    rintro m st ⟨u1d, u27, rfl, h942⟩
    cases m with
    | zero => exact (onone h942).elim
    | succ m =>
      apply Wc.seq
      apply Wc.seq
      refine Wc.r2 [{}, {}, { v := some (aI (u03.length : Int)) }] ⟨[tV 1 (.sl (List.map cI.i64 u03)), tP 2 2, (6, (.v (.slx), [(0, .ex 3 true (List.map cI.i64 u1d))])), tI 7 u27, tB 12 (decide (u27 < (u03.length : Int)))], [bC 2 (GTerm.q u1e)], []⟩ (.cons (len_obl cI.i64 u03) .nil) ?_
      rcases oif h942 with ⟨h943, h942⟩ | ⟨h943, h942⟩
      · refine Wc.cT h943 ?_
        refine Wc.fx [] ⟨[tV 1 (.sl (List.map cI.i64 u03)), tP 2 2, (6, (.v (.slx), [(0, .ex 3 true (List.map cI.i64 u1d))])), tI 7 u27], [bC 2 (GTerm.q u1e)], []⟩ ?_
        refine Wc.skip ?_
        apply Wc.seq
        refine Wc.block ?_
        apply Wc.seq
        obtain ⟨udn, h944, h942⟩ := obind h942
        obtain ⟨udo, h945, h942⟩ := obind h942
        refine Wc.r2 [{}, {}, {}, { v := some (.vptr [aI udn]) }, {}, { r := some (.v (.bool udo) []) }] ⟨[tV 1 (.sl (List.map cI.i64 u03)), tP 2 2, (6, (.v (.slx), [(0, .ex 3 true (List.map cI.i64 u1d))])), tI 7 u27, tB 21 (!udo)], [bC 2 (GTerm.q u1e)], []⟩ (.cons (at_obl (c := cI.i64) rfl cI.i64_len h944) (.cons (len_ok 1 [aI udn]) (.cons (cspec_l03Has h945) .nil))) ?_
        rcases oif h942 with ⟨h946, h942⟩ | ⟨h946, h942⟩
        · refine Wc.cT h946 ?_
          obtain ⟨u3n, h947, h942⟩ := obind h942
          obtain ⟨h948, h942⟩ := oguard h942
          refine Wc.r2 [{ tk := [6] }, {}, {}, { v := some (.vptr [aI u3n]) }, {}, { c := some (List.map cI.i64 [u3n]) }, { c := some (List.map cI.i64 (u1d ++ [u3n])), tk := [22], md := 2 }, { tk := [28] }] ⟨[tV 1 (.sl (List.map cI.i64 u03)), tP 2 2, (6, (.v (.slx), [(0, .ex 3 true (List.map cI.i64 (u1d ++ [u3n])))])), tI 7 u27], [bC 2 (GTerm.q u1e)], []⟩ (.cons (at_obl (c := cI.i64) rfl cI.i64_len h947) (.cons (len_ok 1 [aI u3n]) (.cons (cl_cons (c := cI.i64) (x := u3n) rfl (cl_nil cI.i64)) (.cons (app_re2 cI.i64 u1d [u3n]) (.cons (app_scal (c := cI.i64) (ys := [u3n]) cI.i64_scal) (.cons (app_obl2 (c := cI.i64) (xs := u1d) (ys := [u3n]) cI.i64_len h948) .nil)))))) ?_
          refine Wc.r0 ⟨[tV 1 (.sl (List.map cI.i64 u03)), tP 2 2, (6, (.v (.slx), [(0, .ex 3 true (List.map cI.i64 (u1d ++ [u3n])))])), tI 7 (wr.i64 (u27 + 1))], [bC 2 (GTerm.q u1e)], []⟩ ?_
          exact ⟨_, Nat.lt_succ_self _, _, _, rfl, h942⟩
        · refine Wc.cF h946 ?_
          refine Wc.fx [] ⟨[tV 1 (.sl (List.map cI.i64 u03)), tP 2 2, (6, (.v (.slx), [(0, .ex 3 true (List.map cI.i64 u1d))])), tI 7 u27], [bC 2 (GTerm.q u1e)], []⟩ ?_
          refine Wc.skip ?_
          refine Wc.r0 ⟨[tV 1 (.sl (List.map cI.i64 u03)), tP 2 2, (6, (.v (.slx), [(0, .ex 3 true (List.map cI.i64 u1d))])), tI 7 (wr.i64 (u27 + 1))], [bC 2 (GTerm.q u1e)], []⟩ ?_
          exact ⟨_, Nat.lt_succ_self _, _, _, rfl, h942⟩
      · refine Wc.cF h943 ?_
        refine Wc.fx [] ⟨[tP 2 2, (6, (.v (.slx), [(0, .ex 3 true (List.map cI.i64 u1d))]))], [bC 2 (GTerm.q u1e)], []⟩ ?_
        refine Wc.exit ?_
        obtain rfl := Option.some.inj h942
        exact ⟨_, rfl, rfl⟩
  · rintro st ⟨u5r, rfl, rfl⟩
    apply Wc.seq
    apply Wc.seq
    obtain ⟨udp, h949, h⟩ := obind h
    refine Wc.r2 [{}, { r := some (.v (.bool udp) []) }] ⟨[tP 2 2, (6, (.v (.slx), [(0, .ex 3 true (List.map cI.i64 u5r))])), tB 31 (!udp)], [bC 2 (GTerm.q u1e)], []⟩ (.cons (cspec_TermOk h949) .nil) ?_
    rcases oif h with ⟨h950, h⟩ | ⟨h950, h⟩
    · refine Wc.cT h950 ?_
      apply Wc.seq
      refine Wc.r2 [{ c := some (List.map GIns.c []), md := 2 }, { tk := [6] }, { tk := [32] }, { tk := [33] }] ⟨[(4, (.v (.slx), [(0, .ex 128 true (List.map GIns.c []))])), (5, (.v (.slx), [(0, .ex 3 true (List.map cI.i64 u5r))]))], [], []⟩ (.cons (cl_nil GIns.c) .nil) ?_
      obtain rfl := Option.some.inj h; exact Wc.ret dn
    · refine Wc.cF h950 ?_
      refine Wc.fx [] ⟨[tP 2 2, (6, (.v (.slx), [(0, .ex 3 true (List.map cI.i64 u5r))]))], [bC 2 (GTerm.q u1e)], []⟩ ?_
      refine Wc.skip ?_
      apply Wc.seq
      obtain ⟨u6v, h951, h⟩ := obind h
      refine Wc.r2 [{}, { c := some (List.map GIns.c []), md := 2 }, { tk := [6] }, { tk := [35, 36], r := some (.v (.tup [.slx, .slx]) [(0, .ex 128 true (List.map GIns.c u6v.1)), (1, .ex 3 true (List.map cI.i64 u6v.2))]) }, { tk := [37] }, { tk := [37] }, { tk := [38] }, { tk := [39] }] ⟨[(4, (.v (.slx), [(0, .ex 128 true (List.map GIns.c u6v.1))])), (5, (.v (.slx), [(0, .ex 3 true (List.map cI.i64 u6v.2))]))], [], []⟩ (.cons (cl_nil GIns.c) (.cons (cspec_l12Words_d h951) .nil)) ?_
      obtain rfl := Option.some.inj h; exact Wc.ret dn
end Go.Proofs.Ythemaodhckmnkaa

/- What the functions do, part 3. -/
import Derived.Test.YtkchjlmfonfjlaaGreatDoorFnb
set_option linter.unusedVariables false
set_option linter.unusedSimpArgs false
namespace Go.Proofs.YtkchjlmfonfjlaaGreatDoor
open Go.RowKit Go.Bv
def Z2j (k : Nat) (Z5 : GParser → Option (GParser × GTerm)) (Z6 : GParser → Int → Option (GParser × GTerm × Int)) (Z9 : GParser → Int → Option (GParser × GTerm)) (Za : GParser → Option (GParser × (List GTerm))) (v8 : GParser × (List GTerm)) : Nat → Int → GTerm → Option (Out (GParser × GTerm) GTerm)
  | 0, _, _ => none
  | m + 1, u4q, u4r =>
    if (decide (u4q ≥ 0)) = true then
      (at' v8.2 u4q).bind fun u6w =>
      (Z3j k (bs [46]) [u6w, u4r]).bind fun ucf =>
      Z2j k Z5 Z6 Z9 Za v8 m (wr.i64 (u4q - 1)) ucf
    else
      some (.done u4r)
def Z16 (k : Nat) (Z5 : GParser → Option (GParser × GTerm)) (Z6 : GParser → Int → Option (GParser × GTerm × Int)) (Z9 : GParser → Int → Option (GParser × GTerm)) (Za : GParser → Option (GParser × (List GTerm))) (v8 : GParser × (List GTerm)) (u7s : GTerm) (u6e : GParser) : Option (GParser × GTerm) :=
  (Z2d k u6e (bs [93])).bind fun ut =>
  (Z2j k Z5 Z6 Z9 Za v8 k (wr.i64 ((v8.2.length : Int) - 1)) u7s).bind fun out2 => match out2 with
  | .ret r => some r
  | .done u9c =>
    some (ut, u9c)
def Z25 (k : Nat) (Z5 : GParser → Option (GParser × GTerm)) (Z6 : GParser → Int → Option (GParser × GTerm × Int)) (Z9 : GParser → Int → Option (GParser × GTerm)) (Za : GParser → Option (GParser × (List GTerm))) (uc : GParser × GSign) (u3 : GParser × Bool) (ucg : Bool) : Option (GParser × GTerm × Int) :=
  if ucg = true then
    (Z9x k uc.2.gText).bind fun uch =>
    some (GParser.mk u3.1.gList (wr.i64 (u3.1.gAt + 1)) u3.1.gNames u3.1.gDeep u3.1.gBad, uch, 0)
  else
    some (GParser.mk u3.1.gList u3.1.gAt u3.1.gNames u3.1.gDeep true, GTerm.mk 0 (bs []) 0 [], 0)
def Z26 (k : Nat) (Z5 : GParser → Option (GParser × GTerm)) (Z6 : GParser → Int → Option (GParser × GTerm × Int)) (Z9 : GParser → Int → Option (GParser × GTerm)) (Za : GParser → Option (GParser × (List GTerm))) (u3 : GParser × Bool) (uj : GOp × Bool) (uc : GParser × GSign) (v5 : GOp × Bool) (uci : Bool) : Option (GParser × GTerm × Int) :=
  if uci = true then
    (Z9 (GParser.mk u3.1.gList (wr.i64 (u3.1.gAt + 1)) u3.1.gNames u3.1.gDeep u3.1.gBad) uj.1.gRight).bind fun u2n =>
    (Z3j k uc.2.gText [u2n.2]).bind fun uf5 =>
    some (u2n.1, uf5, uj.1.gPrio)
  else
    if (uc.2.gKind == 1) = true then
      if (!uj.2) = true then
        Z25 k Z5 Z6 Z9 Za uc u3 (!v5.2)
      else
        Z25 k Z5 Z6 Z9 Za uc u3 false
    else
      Z25 k Z5 Z6 Z9 Za uc u3 false
def Z1g (k : Nat) (Z5 : GParser → Option (GParser × GTerm)) (Z6 : GParser → Int → Option (GParser × GTerm × Int)) (Z9 : GParser → Int → Option (GParser × GTerm)) (Za : GParser → Option (GParser × (List GTerm))) (ug : GParser × GSign) (u3 : GParser × Bool) (uc : GParser × GSign) (uj : GOp × Bool) (v5 : GOp × Bool) (v6 : Int) (ucj : Bool) : Option (GParser × GTerm × Int) :=
  if ucj = true then
    (Z9a k (wr.i64 (0 - ug.2.gNum))).bind fun uck =>
    some (GParser.mk u3.1.gList (wr.i64 (u3.1.gAt + 2)) u3.1.gNames u3.1.gDeep u3.1.gBad, uck, 0)
  else
    if (uc.2.gKind == 1) = true then
      if uj.2 = true then
        Z26 k Z5 Z6 Z9 Za u3 uj uc v5 (decide (uj.1.gPrio ≤ v6))
      else
        Z26 k Z5 Z6 Z9 Za u3 uj uc v5 false
    else
      Z26 k Z5 Z6 Z9 Za u3 uj uc v5 false
def Z1h (k : Nat) (Z5 : GParser → Option (GParser × GTerm)) (Z6 : GParser → Int → Option (GParser × GTerm × Int)) (Z9 : GParser → Int → Option (GParser × GTerm)) (Za : GParser → Option (GParser × (List GTerm))) (ug : GParser × GSign) (uc : GParser × GSign) (uj : GOp × Bool) (v5 : GOp × Bool) (v6 : Int) (ucl : Bool) (zk : GParser) : Option (GParser × GTerm × Int) :=
  if ucl = true then
    (Z9x k ug.2.gText).bind fun ucm =>
    some (GParser.mk zk.gList (wr.i64 (zk.gAt + 3)) zk.gNames zk.gDeep zk.gBad, ucm, 0)
  else
    (Zy k zk 0 (bs [40])).bind fun u0k =>
    if u0k.2 = true then
      (Z9 (GParser.mk u0k.1.gList (wr.i64 (u0k.1.gAt + 1)) u0k.1.gNames u0k.1.gDeep u0k.1.gBad) 1200).bind fun u2o =>
      (Z2d k u2o.1 (bs [41])).bind fun u2p =>
      some (u2p, u2o.2, 0)
    else
      (Zy k u0k.1 0 (bs [91])).bind fun u3 =>
      if u3.2 = true then
        (Z5 u3.1).bind fun u3j =>
        some (u3j.1, u3j.2, 0)
      else
        if (uc.2.gKind == 3) = true then
          (Z9a k uc.2.gNum).bind fun ucn =>
          some (GParser.mk u3.1.gList (wr.i64 (u3.1.gAt + 1)) u3.1.gNames u3.1.gDeep u3.1.gBad, ucn, 0)
        else
          if (uc.2.gKind == 2) = true then
            (Z37 k (GParser.mk u3.1.gList (wr.i64 (u3.1.gAt + 1)) u3.1.gNames u3.1.gDeep u3.1.gBad) uc.2.gText).bind fun u1l =>
            some (u1l.1, u1l.2, 0)
          else
            if (uc.2.gKind == 1) = true then
              if (sEq uc.2.gText (bs [45])) = true then
                if (ug.2.gKind == 3) = true then
                  Z1g k Z5 Z6 Z9 Za ug u3 uc uj v5 v6 (ug.2.gAt == (wr.i64 (uc.2.gAt + 1)))
                else
                  Z1g k Z5 Z6 Z9 Za ug u3 uc uj v5 v6 false
              else
                Z1g k Z5 Z6 Z9 Za ug u3 uc uj v5 v6 false
            else
              Z1g k Z5 Z6 Z9 Za ug u3 uc uj v5 v6 false
def Z13 (k : Nat) (Z5 : GParser → Option (GParser × GTerm)) (Z6 : GParser → Int → Option (GParser × GTerm × Int)) (Z9 : GParser → Int → Option (GParser × GTerm)) (Za : GParser → Option (GParser × (List GTerm))) (ug : GParser × GSign) (uc : GParser × GSign) (uj : GOp × Bool) (v5 : GOp × Bool) (v6 : Int) (uco : Bool) : Option (GParser × GTerm × Int) :=
  if uco = true then
    (Z2d k (GParser.mk ug.1.gList (wr.i64 (ug.1.gAt + 1)) ug.1.gNames ug.1.gDeep ug.1.gBad) (bs [40])).bind fun u4s =>
    (Za u4s).bind fun u0p =>
    (Z2d k u0p.1 (bs [41])).bind fun vm =>
    if (decide ((u0p.2.length : Int) > 5)) = true then
      (Z3j k uc.2.gText u0p.2).bind fun uf6 =>
      some (GParser.mk vm.gList vm.gAt vm.gNames vm.gDeep true, uf6, 0)
    else
      (Z3j k uc.2.gText u0p.2).bind fun uf7 =>
      some (vm, uf7, 0)
  else
    (Zy k ug.1 0 (bs [40])).bind fun z0 =>
    if z0.2 = true then
      if (ug.2.gKind == 1) = true then
        (Zy k z0.1 2 (bs [41])).bind fun u3k =>
        Z1h k Z5 Z6 Z9 Za ug uc uj v5 v6 u3k.2 u3k.1
      else
        Z1h k Z5 Z6 Z9 Za ug uc uj v5 v6 false z0.1
    else
      Z1h k Z5 Z6 Z9 Za ug uc uj v5 v6 false z0.1
def Z4d (k : Nat) (Z5 : GParser → Option (GParser × GTerm)) (Z6 : GParser → Int → Option (GParser × GTerm × Int)) (Z9 : GParser → Int → Option (GParser × GTerm)) (Za : GParser → Option (GParser × (List GTerm))) (bk_ : Int → GTerm → GParser → Option (Out (GParser × GTerm) (GTerm × GParser))) (u6 : GParser × GSign) (z5 : GOp × Bool) (vc : GTerm) : Option (Out (GParser × GTerm) (GTerm × GParser)) :=
  (Z9 (GParser.mk u6.1.gList (wr.i64 (u6.1.gAt + 1)) u6.1.gNames u6.1.gDeep u6.1.gBad) z5.1.gRight).bind fun u17 =>
  (Z3j k z5.1.gName [vc, u17.2]).bind fun ucp =>
  bk_ z5.1.gPrio ucp u17.1
def Zx (k : Nat) (Z5 : GParser → Option (GParser × GTerm)) (Z6 : GParser → Int → Option (GParser × GTerm × Int)) (Z9 : GParser → Int → Option (GParser × GTerm)) (Za : GParser → Option (GParser × (List GTerm))) (v7 : Int) : Nat → Int → GTerm → GParser → Option (Out (GParser × GTerm) (GTerm × GParser))
  | 0, _, _, _ => none
  | m + 1, u4t, vc, u04 =>
    if (!u04.gBad) = true then
      (Z2c k u04 0).bind fun u6 =>
      (Z66 k u6.2.gText).bind fun z5 =>
      if (!z5.2) = true then
        some (.done (vc, u6.1))
      else
        if (u6.2.gKind != 4) = true then
          if (u6.2.gKind != 1) = true then
            some (.done (vc, u6.1))
          else
            if u6.2.gNear = true then
              some (.done (vc, u6.1))
            else
              if (decide (z5.1.gPrio > v7)) = true then
                some (.done (vc, u6.1))
              else
                if (decide (z5.1.gLeft < u4t)) = true then
                  some (.done (vc, u6.1))
                else
                  Z4d k Z5 Z6 Z9 Za (Zx k Z5 Z6 Z9 Za v7 m) u6 z5 vc
        else
          if (decide (z5.1.gPrio > v7)) = true then
            some (.done (vc, u6.1))
          else
            if (decide (z5.1.gLeft < u4t)) = true then
              some (.done (vc, u6.1))
            else
              Z4d k Z5 Z6 Z9 Za (Zx k Z5 Z6 Z9 Za v7 m) u6 z5 vc
    else
      some (.done (vc, u04))
def Z3l (k : Nat) (Z5 : GParser → Option (GParser × GTerm)) (Z6 : GParser → Int → Option (GParser × GTerm × Int)) (Z9 : GParser → Int → Option (GParser × GTerm)) (Za : GParser → Option (GParser × (List GTerm))) (um : GParser) (v7 : Int) (ucq : Bool) : Option (GParser × GTerm) :=
  if ucq = true then
    some (GParser.mk um.gList um.gAt um.gNames um.gDeep true, GTerm.mk 0 (bs []) 0 [])
  else
    (Z6 (GParser.mk um.gList um.gAt um.gNames (wr.i64 (um.gDeep + 1)) um.gBad) v7).bind fun u25 =>
    (Zx k Z5 Z6 Z9 Za v7 k u25.2.2 u25.2.1 u25.1).bind fun out2 => match out2 with
    | .ret r => some r
    | .done (u7t, u0w) =>
      some (GParser.mk u0w.gList u0w.gAt u0w.gNames (wr.i64 (u0w.gDeep - 1)) u0w.gBad, u7t)
def Zv (k : Nat) (Z5 : GParser → Option (GParser × GTerm)) (Z6 : GParser → Int → Option (GParser × GTerm × Int)) (Z9 : GParser → Int → Option (GParser × GTerm)) (Za : GParser → Option (GParser × (List GTerm))) : Nat → (List GTerm) → GParser → Option (Out (GParser × (List GTerm)) ((List GTerm) × GParser))
  | 0, _, _ => none
  | m + 1, u26, u1m =>
    if (!u1m.gBad) = true then
      (Zy k u1m 0 (bs [44])).bind fun vu =>
      if vu.2 = true then
        (Z9 (GParser.mk vu.1.gList (wr.i64 (vu.1.gAt + 1)) vu.1.gNames vu.1.gDeep vu.1.gBad) 999).bind fun u0x =>
        if u26.length + [u0x.2].length ≤ 1073741824 then
          Zv k Z5 Z6 Z9 Za m (u26 ++ [u0x.2]) u0x.1
        else none
      else
        some (.done (u26, vu.1))
    else
      some (.done (u26, u1m))
mutual
def Z4 : Nat → GParser → Option (GParser × GTerm)
  | 0, _ => none
  | k + 1, u18 =>
    (Z2d k u18 (bs [91])).bind fun u4u =>
    (Zy k u4u 0 (bs [93])).bind fun vl =>
    if vl.2 = true then
      (Z9x k (bs [91, 93])).bind fun ucr =>
      some (GParser.mk vl.1.gList (wr.i64 (vl.1.gAt + 1)) vl.1.gNames vl.1.gDeep vl.1.gBad, ucr)
    else
      (Z7 k vl.1).bind fun v8 =>
      (Z9x k (bs [91, 93])).bind fun u7u =>
      (Zy k v8.1 0 (bs [124])).bind fun ze =>
      if ze.2 = true then
        (Z3 k (GParser.mk ze.1.gList (wr.i64 (ze.1.gAt + 1)) ze.1.gNames ze.1.gDeep ze.1.gBad) 999).bind fun u3l =>
        Z16 k (Z4 k) (Z1 k) (Z3 k) (Z7 k) v8 u3l.2 u3l.1
      else
        Z16 k (Z4 k) (Z1 k) (Z3 k) (Z7 k) v8 u7u ze.1
def Z1 : Nat → GParser → Int → Option (GParser × GTerm × Int)
  | 0, _, _ => none
  | k + 1, u19, v6 =>
    (Z2c k u19 0).bind fun uc =>
    (Z6y k uc.2.gText).bind fun uj =>
    (Z66 k uc.2.gText).bind fun v5 =>
    (Z2c k uc.1 1).bind fun ug =>
    if (uc.2.gKind == 1) = true then
      Z13 k (Z4 k) (Z1 k) (Z3 k) (Z7 k) ug uc uj v5 v6 uc.2.gNear
    else
      Z13 k (Z4 k) (Z1 k) (Z3 k) (Z7 k) ug uc uj v5 v6 false
def Z3 : Nat → GParser → Int → Option (GParser × GTerm)
  | 0, _, _ => none
  | k + 1, um, v7 =>
    if (um.gDeep == 130) = true then
      Z3l k (Z4 k) (Z1 k) (Z3 k) (Z7 k) um v7 true
    else
      Z3l k (Z4 k) (Z1 k) (Z3 k) (Z7 k) um v7 um.gBad
def Z7 : Nat → GParser → Option (GParser × (List GTerm))
  | 0, _ => none
  | k + 1, u1a =>
    (Z3 k u1a 999).bind fun u27 =>
    (Zv k (Z4 k) (Z1 k) (Z3 k) (Z7 k) k [u27.2] u27.1).bind fun out1 => match out1 with
    | .ret r => some r
    | .done (u9d, u3w) =>
      some (u3w, u9d)
end
set_option maxHeartbeats 4000000 in
theorem Zaf : ∀ k : Nat, (∀ {u18 : GParser} {r : GParser × GTerm}, Z4 k u18 = some r → FnO Tryz.prog 108 [.p (GParser.k2 u18) (GParser.h2_9f u18)] (.v (.agg (GTerm.q r.2)) []) [(0, .p (GParser.k2 r.1) (GParser.h2_9f r.1))]) ∧
    (∀ {u19 : GParser} {v6 : Int} {r : GParser × GTerm × Int}, Z1 k u19 v6 = some r → FnO Tryz.prog 84 [.p (GParser.k2 u19) (GParser.h2_9f u19), .v (aI v6) []] (.v (.tup [.agg (GTerm.q r.2.1), aI r.2.2]) []) [(0, .p (GParser.k2 r.1) (GParser.h2_9f r.1))]) ∧
    (∀ {um : GParser} {v7 : Int} {r : GParser × GTerm}, Z3 k um v7 = some r → FnO Tryz.prog 55 [.p (GParser.k2 um) (GParser.h2_9f um), .v (aI v7) []] (.v (.agg (GTerm.q r.2)) []) [(0, .p (GParser.k2 r.1) (GParser.h2_9f r.1))]) ∧
    (∀ {u1a : GParser} {r : GParser × (List GTerm)}, Z7 k u1a = some r → FnO Tryz.prog 105 [.p (GParser.k2 u1a) (GParser.h2_9f u1a)] (.v (.sl (List.map GTerm.c r.2)) [(0, .app 29)]) [(0, .p (GParser.k2 r.1) (GParser.h2_9f r.1))]) := by
  intro k
  induction k with
  | zero =>
    refine ⟨?_, ?_, ?_, ?_⟩
    · intro u18 r h
      exact (Z1r (by rw [Z4] at h; exact h)).elim
    · intro u19 v6 r h
      exact (Z1r (by rw [Z1] at h; exact h)).elim
    · intro um v7 r h
      exact (Z1r (by rw [Z3] at h; exact h)).elim
    · intro u1a r h
      exact (Z1r (by rw [Z7] at h; exact h)).elim
  | succ k ih =>
    obtain ⟨Zaw, Zbl, Z3n, Z8w⟩ := ih
    refine ⟨?_, ?_, ?_, ?_⟩
    · intro u18 r h
      rw [Z4] at h
      refine FnO.o2 Tryz.func108 (rfl : Tryz.f108.body = some _) ?_
      intro w0 X0 Fin pv0 pb gt
      apply Wc.seq
      refine Wc.r0 ⟨[tP 0 1000000, tP 2 2], [bX0 2, (1000000, .cells (GParser.k2 u18) (GParser.h2_9f u18))], []⟩ ?_
      apply Wc.seq
      obtain ⟨u4u, h829, h⟩ := Z0 h
      refine Wc.r2 [{}, { r := some (.v (.tup []) []), outs := [(0, .p (GParser.k2 u4u) (GParser.h2_9f u4u))] }] ⟨[tP 0 1000000, tP 2 2], [bX0 2, (1000000, .cells (GParser.k2 u4u) (GParser.h2_9f u4u))], []⟩ (.cons (Z5x h829) .nil) ?_
      apply Wc.seq
      apply Wc.seq
      obtain ⟨vl, h830, h⟩ := Z0 h
      refine Wc.r2 [{}, { r := some (.v (.bool vl.2) []), outs := [(0, .p (GParser.k2 vl.1) (GParser.h2_9f vl.1))] }] ⟨[tP 0 1000000, tP 2 2, tB 9 vl.2], [bX0 2, (1000000, .cells (GParser.k2 vl.1) (GParser.h2_9f vl.1))], []⟩ (.cons (Z23 h830) .nil) ?_
      rcases oif h with ⟨h831, h⟩ | ⟨h831, h⟩
      · refine Wc.cT h831 ?_
        apply Wc.seq
        refine Wc.r0 ⟨[tP 2 2], [bX0 2, (1000000, .cells [.sl (List.map GSign.c vl.1.gList), aI (wr.i64 (vl.1.gAt + 1)), .slx, aI vl.1.gDeep, .bool vl.1.gBad] (GParser.h2_9f vl.1))], []⟩ ?_
        apply Wc.seq
        obtain ⟨ucr, h832, h⟩ := Z0 h
        refine Wc.r2 [{ r := some (.v (.agg (GTerm.q ucr)) [(3, .app 29)]) }, { tk := [17] }] ⟨[tP 2 2], [(2, .cells (GTerm.q ucr) [(3, .app 29)]), (1000000, .cells [.sl (List.map GSign.c vl.1.gList), aI (wr.i64 (vl.1.gAt + 1)), .slx, aI vl.1.gDeep, .bool vl.1.gBad] (GParser.h2_9f vl.1))], []⟩ (.cons (Zj6 h832) .nil) ?_
        refine Wc.fx [.un (.b 2 3)] ⟨[tP 2 2], [bC 2 (GTerm.q ucr), (1000000, .cells [.sl (List.map GSign.c vl.1.gList), aI (wr.i64 (vl.1.gAt + 1)), .slx, aI vl.1.gDeep, .bool vl.1.gBad] (GParser.h2_9f vl.1))], []⟩ ?_
        cases h; exact Wc.ret dn
      · refine Wc.cF h831 ?_
        refine Wc.fx [] ⟨[tP 0 1000000, tP 2 2], [bX0 2, (1000000, .cells (GParser.k2 vl.1) (GParser.h2_9f vl.1))], []⟩ ?_
        refine Wc.skip ?_
        apply Wc.seq
        obtain ⟨v8, h833, h⟩ := Z0 h
        refine Wc.r2 [{}, { r := some (.v (.sl (List.map GTerm.c v8.2)) [(0, .app 29)]), outs := [(0, .p (GParser.k2 v8.1) (GParser.h2_9f v8.1))] }, { tk := [19] }] ⟨[tP 0 1000000, tP 2 2, (3, (.v (.sl (List.map GTerm.c v8.2)), [(0, .app 29)]))], [bX0 2, (1000000, .cells (GParser.k2 v8.1) (GParser.h2_9f v8.1))], []⟩ (.cons (Z8w h833) .nil) ?_
        apply Wc.seq
        obtain ⟨u7u, h834, h⟩ := Z0 h
        refine Wc.r2 [{ r := some (.v (.agg (GTerm.q u7u)) [(3, .app 29)]) }, {}, { tk := [20] }] ⟨[tP 0 1000000, tP 2 2, (3, (.v (.sl (List.map GTerm.c v8.2)), [(0, .app 29)])), tP 4 4], [bX0 2, (4, .cells (GTerm.q u7u) [(3, .app 29)]), (1000000, .cells (GParser.k2 v8.1) (GParser.h2_9f v8.1))], []⟩ (.cons (Zj6 h834) .nil) ?_
        refine Wc.seqJ (fun st => ∃ (u7s : GTerm) (u6e : GParser), st = ⟨[tP 0 1000000, tP 2 2, (3, (.v (.sl (List.map GTerm.c v8.2)), [(0, .app 29)])), tP 4 4], [bX0 2, bC 4 (GTerm.q u7s), (1000000, .cells (GParser.k2 u6e) (GParser.h2_9f u6e))], []⟩ ∧ Z16 k (Z4 k) (Z1 k) (Z3 k) (Z7 k) v8 u7s u6e = some r) ?_ ?_
        · apply Wc.seq
          obtain ⟨ze, h840, h⟩ := Z0 h
          refine Wc.r2 [{}, { r := some (.v (.bool ze.2) []), outs := [(0, .p (GParser.k2 ze.1) (GParser.h2_9f ze.1))] }] ⟨[tP 0 1000000, tP 2 2, (3, (.v (.sl (List.map GTerm.c v8.2)), [(0, .app 29)])), tP 4 4, tB 22 ze.2], [bX0 2, (4, .cells (GTerm.q u7u) [(3, .app 29)]), (1000000, .cells (GParser.k2 ze.1) (GParser.h2_9f ze.1))], []⟩ (.cons (Z23 h840) .nil) ?_
          rcases oif h with ⟨h841, h⟩ | ⟨h841, h⟩
          · refine Wc.cT h841 ?_
            apply Wc.seq
            refine Wc.r0 ⟨[tP 0 1000000, tP 2 2, (3, (.v (.sl (List.map GTerm.c v8.2)), [(0, .app 29)])), tP 4 4], [bX0 2, (4, .cells (GTerm.q u7u) [(3, .app 29)]), (1000000, .cells [.sl (List.map GSign.c ze.1.gList), aI (wr.i64 (ze.1.gAt + 1)), .slx, aI ze.1.gDeep, .bool ze.1.gBad] (GParser.h2_9f ze.1))], []⟩ ?_
            obtain ⟨u3l, h842, h⟩ := Z0 h
            refine Wc.r2 [{}, { r := some (.v (.agg (GTerm.q u3l.2)) []), outs := [(0, .p (GParser.k2 u3l.1) (GParser.h2_9f u3l.1))] }] ⟨[tP 0 1000000, tP 2 2, (3, (.v (.sl (List.map GTerm.c v8.2)), [(0, .app 29)])), tP 4 4], [bX0 2, bC 4 (GTerm.q u3l.2), (1000000, .cells (GParser.k2 u3l.1) (GParser.h2_9f u3l.1))], []⟩ (.cons (Z3n h842) .nil) ?_
            exact ⟨_, _, rfl, h⟩
          · refine Wc.cF h841 ?_
            refine Wc.fx [.un (.b 4 3)] ⟨[tP 0 1000000, tP 2 2, (3, (.v (.sl (List.map GTerm.c v8.2)), [(0, .app 29)])), tP 4 4], [bX0 2, bC 4 (GTerm.q u7u), (1000000, .cells (GParser.k2 ze.1) (GParser.h2_9f ze.1))], []⟩ ?_
            refine Wc.skip ?_
            exact ⟨_, _, rfl, h⟩
        · rintro st ⟨u7s, u6e, rfl, h⟩
          apply Wc.seq
          obtain ⟨ut, h835, h⟩ := Z0 h
          refine Wc.r2 [{}, { r := some (.v (.tup []) []), outs := [(0, .p (GParser.k2 ut) (GParser.h2_9f ut))] }] ⟨[tP 2 2, (3, (.v (.sl (List.map GTerm.c v8.2)), [(0, .app 29)])), tP 4 4], [bX0 2, bC 4 (GTerm.q u7s), (1000000, .cells (GParser.k2 ut) (GParser.h2_9f ut))], []⟩ (.cons (Z5x h835) .nil) ?_
          apply Wc.seq
          apply Wc.seq
          refine Wc.r2 [{}, { v := some (aI (v8.2.length : Int)) }] ⟨[tP 2 2, (3, (.v (.sl (List.map GTerm.c v8.2)), [(0, .app 29)])), tP 4 4, tI 5 (wr.i64 ((v8.2.length : Int) - 1))], [bX0 2, bC 4 (GTerm.q u7s), (1000000, .cells (GParser.k2 ut) (GParser.h2_9f ut))], []⟩ (.cons (Zn GTerm.c v8.2) .nil) ?_
          obtain ⟨out2, h836, h⟩ := Z0 h
          refine Wc.lastJ (fun st => ∃ (u9c : GTerm), out2 = .done u9c ∧ st = ⟨[tP 2 2, tP 4 4], [bX0 2, bC 4 (GTerm.q u9c), (1000000, .cells (GParser.k2 ut) (GParser.h2_9f ut))], []⟩) ?_ ?_
          · refine Wc.block ?_
            refine Wc.loop (fun m st => ∃ (u4q : Int) (u4r : GTerm), st = ⟨[tP 2 2, (3, (.v (.sl (List.map GTerm.c v8.2)), [(0, .app 29)])), tP 4 4, tI 5 u4q], [bX0 2, bC 4 (GTerm.q u4r), (1000000, .cells (GParser.k2 ut) (GParser.h2_9f ut))], []⟩ ∧ Z2j k (Z4 k) (Z1 k) (Z3 k) (Z7 k) v8 m u4q u4r = some out2) ?_ k ⟨_, _, rfl, h836⟩
            rintro m st ⟨u4q, u4r, rfl, h836⟩
            cases m with
            | zero => exact (Z1r h836).elim
            | succ m =>
              apply Wc.seq
              apply Wc.seq
              refine Wc.r0 ⟨[tP 2 2, (3, (.v (.sl (List.map GTerm.c v8.2)), [(0, .app 29)])), tP 4 4, tI 5 u4q, tB 38 (decide (u4q ≥ 0))], [bX0 2, bC 4 (GTerm.q u4r), (1000000, .cells (GParser.k2 ut) (GParser.h2_9f ut))], []⟩ ?_
              rcases oif h836 with ⟨h837, h836⟩ | ⟨h837, h836⟩
              · refine Wc.cT h837 ?_
                refine Wc.fx [] ⟨[tP 2 2, (3, (.v (.sl (List.map GTerm.c v8.2)), [(0, .app 29)])), tP 4 4, tI 5 u4q], [bX0 2, bC 4 (GTerm.q u4r), (1000000, .cells (GParser.k2 ut) (GParser.h2_9f ut))], []⟩ ?_
                refine Wc.skip ?_
                apply Wc.seq
                refine Wc.block ?_
                obtain ⟨u6w, h838, h836⟩ := Z0 h836
                obtain ⟨ucf, h839, h836⟩ := Z0 h836
                refine Wc.draw hmix [{}, {}, { v := some (.vptr (GTerm.q u6w)) }, {}, {}, { c := some (List.map GTerm.c [u6w, u4r]) }, { r := some (.v (.agg (GTerm.q ucf)) []) }] [] [2, 3, 4, 5] [2, 4, 1000000] [] ⟨[tP 2 2, (3, (.v (.sl (List.map GTerm.c v8.2)), [(0, .app 29)])), tP 4 4, tI 5 u4q], [bX0 2, bC 4 (GTerm.q ucf), (1000000, .cells (GParser.k2 ut) (GParser.h2_9f ut))], []⟩ _ (by kernel_rfl) (fun X => by kernel_rfl) (.cons (Z19 (c := GTerm.c) (GTerm.c_eq u6w) GTerm.c_len h838) (.cons (Z18 4 (GTerm.q u6w)) (.cons (Z3r (c := GTerm.c) (x := u6w) (GTerm.c_eq u6w) (Z3r (c := GTerm.c) (x := u4r) (GTerm.c_eq u4r) (Z4g GTerm.c))) (.cons (Z7q h839) .nil)))) ?_
                refine Wc.r0 ⟨[tP 2 2, (3, (.v (.sl (List.map GTerm.c v8.2)), [(0, .app 29)])), tP 4 4, tI 5 (wr.i64 (u4q - 1))], [bX0 2, bC 4 (GTerm.q ucf), (1000000, .cells (GParser.k2 ut) (GParser.h2_9f ut))], []⟩ ?_
                exact ⟨_, Nat.lt_succ_self _, _, _, rfl, h836⟩
              · refine Wc.cF h837 ?_
                refine Wc.fx [] ⟨[tP 2 2, tP 4 4], [bX0 2, bC 4 (GTerm.q u4r), (1000000, .cells (GParser.k2 ut) (GParser.h2_9f ut))], []⟩ ?_
                refine Wc.exit ?_
                cases h836
                exact ⟨_, rfl, rfl⟩
          · rintro st ⟨u9c, rfl, rfl⟩
            apply Wc.seq
            refine Wc.r0 ⟨[tP 2 2], [bC 2 (GTerm.q u9c), (1000000, .cells (GParser.k2 ut) (GParser.h2_9f ut))], []⟩ ?_
            cases h; exact Wc.ret dn
    · intro u19 v6 r h
      rw [Z1] at h
      refine FnO.o2 Tryz.func84 (rfl : Tryz.f84.body = some _) ?_
      intro w0 X0 Fin pv0 pb gt
      apply Wc.seq
      refine Wc.r0 ⟨[tP 0 1000000, tI 1 v6, tP 4 4], [bX0 4, (1000000, .cells (GParser.k2 u19) (GParser.h2_9f u19))], []⟩ ?_
      apply Wc.seq
      obtain ⟨uc, h843, h⟩ := Z0 h
      refine Wc.r2 [{}, { r := some (.v (.agg (GSign.q uc.2)) []), outs := [(0, .p (GParser.k2 uc.1) (GParser.h2_9f uc.1))] }] ⟨[tP 0 1000000, tI 1 v6, tP 4 4, tP 6 6], [bX0 4, bC 6 (GSign.q uc.2), (1000000, .cells (GParser.k2 uc.1) (GParser.h2_9f uc.1))], []⟩ (.cons (Z51 h843) .nil) ?_
      apply Wc.seq
      obtain ⟨uj, h844, h⟩ := Z0 h
      refine Wc.r2 [{}, {}, { r := some (.v (.tup [.agg (GOp.q uj.1), .bool uj.2]) []) }] ⟨[tP 0 1000000, tI 1 v6, tP 4 4, tP 6 6, tP 7 7, tB 8 uj.2], [bX0 4, bC 6 (GSign.q uc.2), bC 7 (GOp.q uj.1), (1000000, .cells (GParser.k2 uc.1) (GParser.h2_9f uc.1))], []⟩ (.cons (Zgh h844) .nil) ?_
      apply Wc.seq
      obtain ⟨v5, h845, h⟩ := Z0 h
      refine Wc.r2 [{}, {}, { r := some (.v (.tup [.agg (GOp.q v5.1), .bool v5.2]) []) }] ⟨[tP 0 1000000, tI 1 v6, tP 4 4, tP 6 6, tP 7 7, tB 8 uj.2, tB 10 v5.2], [bX0 4, bC 6 (GSign.q uc.2), bC 7 (GOp.q uj.1), (1000000, .cells (GParser.k2 uc.1) (GParser.h2_9f uc.1))], []⟩ (.cons (Zbh h845) .nil) ?_
      apply Wc.seq
      obtain ⟨ug, h846, h⟩ := Z0 h
      refine Wc.r2 [{}, { r := some (.v (.agg (GSign.q ug.2)) []), outs := [(0, .p (GParser.k2 ug.1) (GParser.h2_9f ug.1))] }] ⟨[tP 0 1000000, tI 1 v6, tP 4 4, tP 6 6, tP 7 7, tB 8 uj.2, tB 10 v5.2, tP 11 11], [bX0 4, bC 6 (GSign.q uc.2), bC 7 (GOp.q uj.1), bC 11 (GSign.q ug.2), (1000000, .cells (GParser.k2 ug.1) (GParser.h2_9f ug.1))], []⟩ (.cons (Z51 h846) .nil) ?_
      apply Wc.seq
      refine Wc.block ?_
      refine Wc.seqJ (fun st => ∃ (uco : Bool), st = ⟨[tP 0 1000000, tI 1 v6, tP 4 4, tP 6 6, tP 7 7, tB 8 uj.2, tB 10 v5.2, tP 11 11, tB 30 uco], [bX0 4, bC 6 (GSign.q uc.2), bC 7 (GOp.q uj.1), bC 11 (GSign.q ug.2), (1000000, .cells (GParser.k2 ug.1) (GParser.h2_9f ug.1))], []⟩ ∧ Z13 k (Z4 k) (Z1 k) (Z3 k) (Z7 k) ug uc uj v5 v6 uco = some r) ?_ ?_
      · rcases oif h with ⟨h885, h⟩ | ⟨h885, h⟩
        · refine Wc.r2 [{}, {}, {}, rT] ⟨[tP 0 1000000, tI 1 v6, tP 4 4, tP 6 6, tP 7 7, tB 8 uj.2, tB 10 v5.2, tP 11 11, tB 30 uc.2.gNear], [bX0 4, bC 6 (GSign.q uc.2), bC 7 (GOp.q uj.1), bC 11 (GSign.q ug.2), (1000000, .cells (GParser.k2 ug.1) (GParser.h2_9f ug.1))], []⟩ (cb h885 .nil) ?_
          exact ⟨_, rfl, h⟩
        · refine Wc.r2 [{}, {}, {}, rF] ⟨[tP 0 1000000, tI 1 v6, tP 4 4, tP 6 6, tP 7 7, tB 8 uj.2, tB 10 v5.2, tP 11 11, tB 30 false], [bX0 4, bC 6 (GSign.q uc.2), bC 7 (GOp.q uj.1), bC 11 (GSign.q ug.2), (1000000, .cells (GParser.k2 ug.1) (GParser.h2_9f ug.1))], []⟩ (cb h885 .nil) ?_
          exact ⟨_, rfl, h⟩
      · rintro st ⟨uco, rfl, h⟩
        rcases oif h with ⟨h847, h⟩ | ⟨h847, h⟩
        · refine Wc.cT h847 ?_
          apply Wc.seq
          refine Wc.r0 ⟨[tP 0 1000000, tP 4 4, tP 6 6], [bX0 4, bC 6 (GSign.q uc.2), (1000000, .cells [.sl (List.map GSign.c ug.1.gList), aI (wr.i64 (ug.1.gAt + 1)), .slx, aI ug.1.gDeep, .bool ug.1.gBad] (GParser.h2_9f ug.1))], []⟩ ?_
          apply Wc.seq
          obtain ⟨u4s, h848, h⟩ := Z0 h
          refine Wc.r2 [{}, { r := some (.v (.tup []) []), outs := [(0, .p (GParser.k2 u4s) (GParser.h2_9f u4s))] }] ⟨[tP 0 1000000, tP 4 4, tP 6 6], [bX0 4, bC 6 (GSign.q uc.2), (1000000, .cells (GParser.k2 u4s) (GParser.h2_9f u4s))], []⟩ (.cons (Z5x h848) .nil) ?_
          apply Wc.seq
          obtain ⟨u0p, h849, h⟩ := Z0 h
          refine Wc.r2 [{}, { r := some (.v (.sl (List.map GTerm.c u0p.2)) [(0, .app 29)]), outs := [(0, .p (GParser.k2 u0p.1) (GParser.h2_9f u0p.1))] }, { tk := [48] }] ⟨[tP 0 1000000, tP 4 4, tP 6 6, (12, (.v (.sl (List.map GTerm.c u0p.2)), [(0, .app 29)]))], [bX0 4, bC 6 (GSign.q uc.2), (1000000, .cells (GParser.k2 u0p.1) (GParser.h2_9f u0p.1))], []⟩ (.cons (Z8w h849) .nil) ?_
          apply Wc.seq
          obtain ⟨vm, h850, h⟩ := Z0 h
          refine Wc.r2 [{}, { r := some (.v (.tup []) []), outs := [(0, .p (GParser.k2 vm) (GParser.h2_9f vm))] }] ⟨[tP 0 1000000, tP 4 4, tP 6 6, (12, (.v (.sl (List.map GTerm.c u0p.2)), [(0, .app 29)]))], [bX0 4, bC 6 (GSign.q uc.2), (1000000, .cells (GParser.k2 vm) (GParser.h2_9f vm))], []⟩ (.cons (Z5x h850) .nil) ?_
          apply Wc.seq
          apply Wc.seq
          refine Wc.r2 [{}, { v := some (aI (u0p.2.length : Int)) }] ⟨[tP 0 1000000, tP 4 4, tP 6 6, (12, (.v (.sl (List.map GTerm.c u0p.2)), [(0, .app 29)])), tB 53 (decide ((u0p.2.length : Int) > 5))], [bX0 4, bC 6 (GSign.q uc.2), (1000000, .cells (GParser.k2 vm) (GParser.h2_9f vm))], []⟩ (.cons (Zn GTerm.c u0p.2) .nil) ?_
          rcases oif h with ⟨h851, h⟩ | ⟨h851, h⟩
          · refine Wc.cT h851 ?_
            refine Wc.r0 ⟨[tP 4 4, tP 6 6, (12, (.v (.sl (List.map GTerm.c u0p.2)), [(0, .app 29)]))], [bX0 4, bC 6 (GSign.q uc.2), (1000000, .cells [.sl (List.map GSign.c vm.gList), aI vm.gAt, .slx, aI vm.gDeep, .bool true] (GParser.h2_9f vm))], []⟩ ?_
            apply Wc.seq
            obtain ⟨uf6, h852, h⟩ := Z0 h
            refine Wc.r2 [{}, {}, { tk := [12] }, { r := some (.v (.agg (GTerm.q uf6)) []) }] ⟨[tP 4 4, tI 5 0], [bC 4 (GTerm.q uf6), (1000000, .cells [.sl (List.map GSign.c vm.gList), aI vm.gAt, .slx, aI vm.gDeep, .bool true] (GParser.h2_9f vm))], []⟩ (.cons (Z7q h852) .nil) ?_
            cases h; exact Wc.ret dn
          · refine Wc.cF h851 ?_
            refine Wc.fx [] ⟨[tP 4 4, tP 6 6, (12, (.v (.sl (List.map GTerm.c u0p.2)), [(0, .app 29)]))], [bX0 4, bC 6 (GSign.q uc.2), (1000000, .cells (GParser.k2 vm) (GParser.h2_9f vm))], []⟩ ?_
            refine Wc.skip ?_
            apply Wc.seq
            obtain ⟨uf7, h853, h⟩ := Z0 h
            refine Wc.r2 [{}, {}, { tk := [12] }, { r := some (.v (.agg (GTerm.q uf7)) []) }] ⟨[tP 4 4, tI 5 0], [bC 4 (GTerm.q uf7), (1000000, .cells (GParser.k2 vm) (GParser.h2_9f vm))], []⟩ (.cons (Z7q h853) .nil) ?_
            cases h; exact Wc.ret dn
        · refine Wc.cF h847 ?_
          refine Wc.seqJ (fun st => ∃ (ucl : Bool) (zk : GParser), st = ⟨[tP 0 1000000, tI 1 v6, tP 4 4, tP 6 6, tP 7 7, tB 8 uj.2, tB 10 v5.2, tP 11 11, tB 61 ucl], [bX0 4, bC 6 (GSign.q uc.2), bC 7 (GOp.q uj.1), bC 11 (GSign.q ug.2), (1000000, .cells (GParser.k2 zk) (GParser.h2_9f zk))], []⟩ ∧ Z1h k (Z4 k) (Z1 k) (Z3 k) (Z7 k) ug uc uj v5 v6 ucl zk = some r) ?_ ?_
          · obtain ⟨z0, h881, h⟩ := Z0 h
            rcases oif h with ⟨h882, h⟩ | ⟨h882, h⟩
            · rcases oif h with ⟨h883, h⟩ | ⟨h883, h⟩
              · obtain ⟨u3k, h884, h⟩ := Z0 h
                refine Wc.r2 [{}, { r := some (.v (.bool z0.2) []), outs := [(0, .p (GParser.k2 z0.1) (GParser.h2_9f z0.1))] }, rT, {}, {}, {}, {}, rT, {}, { r := some (.v (.bool u3k.2) []), outs := [(0, .p (GParser.k2 u3k.1) (GParser.h2_9f u3k.1))] }] ⟨[tP 0 1000000, tI 1 v6, tP 4 4, tP 6 6, tP 7 7, tB 8 uj.2, tB 10 v5.2, tP 11 11, tB 61 u3k.2], [bX0 4, bC 6 (GSign.q uc.2), bC 7 (GOp.q uj.1), bC 11 (GSign.q ug.2), (1000000, .cells (GParser.k2 u3k.1) (GParser.h2_9f u3k.1))], []⟩ (.cons (Z23 h881) (cb h882 (cb h883 (.cons (Z23 h884) .nil)))) ?_
                exact ⟨_, _, rfl, h⟩
              · refine Wc.r2 [{}, { r := some (.v (.bool z0.2) []), outs := [(0, .p (GParser.k2 z0.1) (GParser.h2_9f z0.1))] }, rT, {}, {}, {}, {}, rF] ⟨[tP 0 1000000, tI 1 v6, tP 4 4, tP 6 6, tP 7 7, tB 8 uj.2, tB 10 v5.2, tP 11 11, tB 61 false], [bX0 4, bC 6 (GSign.q uc.2), bC 7 (GOp.q uj.1), bC 11 (GSign.q ug.2), (1000000, .cells (GParser.k2 z0.1) (GParser.h2_9f z0.1))], []⟩ (.cons (Z23 h881) (cb h882 (cb h883 .nil))) ?_
                exact ⟨_, _, rfl, h⟩
            · refine Wc.r2 [{}, { r := some (.v (.bool z0.2) []), outs := [(0, .p (GParser.k2 z0.1) (GParser.h2_9f z0.1))] }, rF] ⟨[tP 0 1000000, tI 1 v6, tP 4 4, tP 6 6, tP 7 7, tB 8 uj.2, tB 10 v5.2, tP 11 11, tB 61 false], [bX0 4, bC 6 (GSign.q uc.2), bC 7 (GOp.q uj.1), bC 11 (GSign.q ug.2), (1000000, .cells (GParser.k2 z0.1) (GParser.h2_9f z0.1))], []⟩ (.cons (Z23 h881) (cb h882 .nil)) ?_
              exact ⟨_, _, rfl, h⟩
          · rintro st ⟨ucl, zk, rfl, h⟩
            rcases oif h with ⟨h854, h⟩ | ⟨h854, h⟩
            · refine Wc.cT h854 ?_
              apply Wc.seq
              refine Wc.r0 ⟨[tP 4 4, tP 11 11], [bX0 4, bC 11 (GSign.q ug.2), (1000000, .cells [.sl (List.map GSign.c zk.gList), aI (wr.i64 (zk.gAt + 3)), .slx, aI zk.gDeep, .bool zk.gBad] (GParser.h2_9f zk))], []⟩ ?_
              apply Wc.seq
              obtain ⟨ucm, h855, h⟩ := Z0 h
              refine Wc.r2 [{}, {}, { r := some (.v (.agg (GTerm.q ucm)) [(3, .app 29)]) }, { tk := [82] }] ⟨[tP 4 4, tI 5 0], [(4, .cells (GTerm.q ucm) [(3, .app 29)]), (1000000, .cells [.sl (List.map GSign.c zk.gList), aI (wr.i64 (zk.gAt + 3)), .slx, aI zk.gDeep, .bool zk.gBad] (GParser.h2_9f zk))], []⟩ (.cons (Zj6 h855) .nil) ?_
              refine Wc.fx [.un (.b 4 3)] ⟨[tP 4 4, tI 5 0], [bC 4 (GTerm.q ucm), (1000000, .cells [.sl (List.map GSign.c zk.gList), aI (wr.i64 (zk.gAt + 3)), .slx, aI zk.gDeep, .bool zk.gBad] (GParser.h2_9f zk))], []⟩ ?_
              cases h; exact Wc.ret dn
            · refine Wc.cF h854 ?_
              apply Wc.seq
              obtain ⟨u0k, h856, h⟩ := Z0 h
              refine Wc.r2 [{}, { r := some (.v (.bool u0k.2) []), outs := [(0, .p (GParser.k2 u0k.1) (GParser.h2_9f u0k.1))] }] ⟨[tP 0 1000000, tI 1 v6, tP 4 4, tP 6 6, tP 7 7, tB 8 uj.2, tB 10 v5.2, tP 11 11, tB 83 u0k.2], [bX0 4, bC 6 (GSign.q uc.2), bC 7 (GOp.q uj.1), bC 11 (GSign.q ug.2), (1000000, .cells (GParser.k2 u0k.1) (GParser.h2_9f u0k.1))], []⟩ (.cons (Z23 h856) .nil) ?_
              rcases oif h with ⟨h857, h⟩ | ⟨h857, h⟩
              · refine Wc.cT h857 ?_
                apply Wc.seq
                refine Wc.r0 ⟨[tP 0 1000000, tP 4 4], [bX0 4, (1000000, .cells [.sl (List.map GSign.c u0k.1.gList), aI (wr.i64 (u0k.1.gAt + 1)), .slx, aI u0k.1.gDeep, .bool u0k.1.gBad] (GParser.h2_9f u0k.1))], []⟩ ?_
                apply Wc.seq
                obtain ⟨u2o, h858, h⟩ := Z0 h
                refine Wc.r2 [{}, { r := some (.v (.agg (GTerm.q u2o.2)) []), outs := [(0, .p (GParser.k2 u2o.1) (GParser.h2_9f u2o.1))] }] ⟨[tP 0 1000000, tP 4 4, tP 13 13], [bX0 4, bC 13 (GTerm.q u2o.2), (1000000, .cells (GParser.k2 u2o.1) (GParser.h2_9f u2o.1))], []⟩ (.cons (Z3n h858) .nil) ?_
                apply Wc.seq
                obtain ⟨u2p, h859, h⟩ := Z0 h
                refine Wc.r2 [{}, { r := some (.v (.tup []) []), outs := [(0, .p (GParser.k2 u2p) (GParser.h2_9f u2p))] }] ⟨[tP 4 4, tP 13 13], [bX0 4, bC 13 (GTerm.q u2o.2), (1000000, .cells (GParser.k2 u2p) (GParser.h2_9f u2p))], []⟩ (.cons (Z5x h859) .nil) ?_
                apply Wc.seq
                refine Wc.r0 ⟨[tP 4 4, tI 5 0], [bC 4 (GTerm.q u2o.2), (1000000, .cells (GParser.k2 u2p) (GParser.h2_9f u2p))], []⟩ ?_
                cases h; exact Wc.ret dn
              · refine Wc.cF h857 ?_
                apply Wc.seq
                obtain ⟨u3, h860, h⟩ := Z0 h
                refine Wc.r2 [{}, { r := some (.v (.bool u3.2) []), outs := [(0, .p (GParser.k2 u3.1) (GParser.h2_9f u3.1))] }] ⟨[tP 0 1000000, tI 1 v6, tP 4 4, tP 6 6, tP 7 7, tB 8 uj.2, tB 10 v5.2, tP 11 11, tB 98 u3.2], [bX0 4, bC 6 (GSign.q uc.2), bC 7 (GOp.q uj.1), bC 11 (GSign.q ug.2), (1000000, .cells (GParser.k2 u3.1) (GParser.h2_9f u3.1))], []⟩ (.cons (Z23 h860) .nil) ?_
                rcases oif h with ⟨h861, h⟩ | ⟨h861, h⟩
                · refine Wc.cT h861 ?_
                  apply Wc.seq
                  obtain ⟨u3j, h862, h⟩ := Z0 h
                  refine Wc.r2 [{}, { r := some (.v (.agg (GTerm.q u3j.2)) []), outs := [(0, .p (GParser.k2 u3j.1) (GParser.h2_9f u3j.1))] }] ⟨[tP 4 4, tI 5 0], [bC 4 (GTerm.q u3j.2), (1000000, .cells (GParser.k2 u3j.1) (GParser.h2_9f u3j.1))], []⟩ (.cons (Zaw h862) .nil) ?_
                  cases h; exact Wc.ret dn
                · refine Wc.cF h861 ?_
                  apply Wc.seq
                  refine Wc.r0 ⟨[tP 0 1000000, tI 1 v6, tP 4 4, tP 6 6, tP 7 7, tB 8 uj.2, tB 10 v5.2, tP 11 11, tB 103 (uc.2.gKind == 3)], [bX0 4, bC 6 (GSign.q uc.2), bC 7 (GOp.q uj.1), bC 11 (GSign.q ug.2), (1000000, .cells (GParser.k2 u3.1) (GParser.h2_9f u3.1))], []⟩ ?_
                  rcases oif h with ⟨h863, h⟩ | ⟨h863, h⟩
                  · refine Wc.cT h863 ?_
                    apply Wc.seq
                    refine Wc.r0 ⟨[tP 4 4, tP 6 6], [bX0 4, bC 6 (GSign.q uc.2), (1000000, .cells [.sl (List.map GSign.c u3.1.gList), aI (wr.i64 (u3.1.gAt + 1)), .slx, aI u3.1.gDeep, .bool u3.1.gBad] (GParser.h2_9f u3.1))], []⟩ ?_
                    apply Wc.seq
                    obtain ⟨ucn, h864, h⟩ := Z0 h
                    refine Wc.r2 [{}, {}, { r := some (.v (.agg (GTerm.q ucn)) [(3, .app 29)]) }, { tk := [116] }] ⟨[tP 4 4, tI 5 0], [(4, .cells (GTerm.q ucn) [(3, .app 29)]), (1000000, .cells [.sl (List.map GSign.c u3.1.gList), aI (wr.i64 (u3.1.gAt + 1)), .slx, aI u3.1.gDeep, .bool u3.1.gBad] (GParser.h2_9f u3.1))], []⟩ (.cons (Zko h864) .nil) ?_
                    refine Wc.fx [.un (.b 4 3)] ⟨[tP 4 4, tI 5 0], [bC 4 (GTerm.q ucn), (1000000, .cells [.sl (List.map GSign.c u3.1.gList), aI (wr.i64 (u3.1.gAt + 1)), .slx, aI u3.1.gDeep, .bool u3.1.gBad] (GParser.h2_9f u3.1))], []⟩ ?_
                    cases h; exact Wc.ret dn
                  · refine Wc.cF h863 ?_
                    apply Wc.seq
                    refine Wc.r0 ⟨[tP 0 1000000, tI 1 v6, tP 4 4, tP 6 6, tP 7 7, tB 8 uj.2, tB 10 v5.2, tP 11 11, tB 117 (uc.2.gKind == 2)], [bX0 4, bC 6 (GSign.q uc.2), bC 7 (GOp.q uj.1), bC 11 (GSign.q ug.2), (1000000, .cells (GParser.k2 u3.1) (GParser.h2_9f u3.1))], []⟩ ?_
                    rcases oif h with ⟨h865, h⟩ | ⟨h865, h⟩
                    · refine Wc.cT h865 ?_
                      apply Wc.seq
                      refine Wc.r0 ⟨[tP 0 1000000, tP 4 4, tP 6 6], [bX0 4, bC 6 (GSign.q uc.2), (1000000, .cells [.sl (List.map GSign.c u3.1.gList), aI (wr.i64 (u3.1.gAt + 1)), .slx, aI u3.1.gDeep, .bool u3.1.gBad] (GParser.h2_9f u3.1))], []⟩ ?_
                      apply Wc.seq
                      obtain ⟨u1l, h866, h⟩ := Z0 h
                      refine Wc.r2 [{}, {}, {}, { r := some (.v (.agg (GTerm.q u1l.2)) [(3, .app 29)]), outs := [(0, .p (GParser.k2 u1l.1) (GParser.h2_9f u1l.1))] }, { tk := [131] }] ⟨[tP 4 4, tI 5 0], [(4, .cells (GTerm.q u1l.2) [(3, .app 29)]), (1000000, .cells (GParser.k2 u1l.1) (GParser.h2_9f u1l.1))], []⟩ (.cons (Zd6 h866) .nil) ?_
                      refine Wc.fx [.un (.b 4 3)] ⟨[tP 4 4, tI 5 0], [bC 4 (GTerm.q u1l.2), (1000000, .cells (GParser.k2 u1l.1) (GParser.h2_9f u1l.1))], []⟩ ?_
                      cases h; exact Wc.ret dn
                    · refine Wc.cF h865 ?_
                      refine Wc.seqJ (fun st => ∃ (ucj : Bool), st = ⟨[tP 0 1000000, tI 1 v6, tP 4 4, tP 6 6, tP 7 7, tB 8 uj.2, tB 10 v5.2, tP 11 11, tB 132 ucj], [bX0 4, bC 6 (GSign.q uc.2), bC 7 (GOp.q uj.1), bC 11 (GSign.q ug.2), (1000000, .cells (GParser.k2 u3.1) (GParser.h2_9f u3.1))], []⟩ ∧ Z1g k (Z4 k) (Z1 k) (Z3 k) (Z7 k) ug u3 uc uj v5 v6 ucj = some r) ?_ ?_
                      · rcases oif h with ⟨h878, h⟩ | ⟨h878, h⟩
                        · rcases oif h with ⟨h879, h⟩ | ⟨h879, h⟩
                          · rcases oif h with ⟨h880, h⟩ | ⟨h880, h⟩
                            · refine Wc.r2 [{}, {}, {}, rT, {}, {}, {}, {}, rT, {}, {}, {}, {}, rT] ⟨[tP 0 1000000, tI 1 v6, tP 4 4, tP 6 6, tP 7 7, tB 8 uj.2, tB 10 v5.2, tP 11 11, tB 132 (ug.2.gAt == (wr.i64 (uc.2.gAt + 1)))], [bX0 4, bC 6 (GSign.q uc.2), bC 7 (GOp.q uj.1), bC 11 (GSign.q ug.2), (1000000, .cells (GParser.k2 u3.1) (GParser.h2_9f u3.1))], []⟩ (cb h878 (cb h879 (cb h880 .nil))) ?_
                              exact ⟨_, rfl, h⟩
                            · refine Wc.r2 [{}, {}, {}, rT, {}, {}, {}, {}, rT, {}, {}, {}, {}, rF] ⟨[tP 0 1000000, tI 1 v6, tP 4 4, tP 6 6, tP 7 7, tB 8 uj.2, tB 10 v5.2, tP 11 11, tB 132 false], [bX0 4, bC 6 (GSign.q uc.2), bC 7 (GOp.q uj.1), bC 11 (GSign.q ug.2), (1000000, .cells (GParser.k2 u3.1) (GParser.h2_9f u3.1))], []⟩ (cb h878 (cb h879 (cb h880 .nil))) ?_
                              exact ⟨_, rfl, h⟩
                          · refine Wc.r2 [{}, {}, {}, rT, {}, {}, {}, {}, rF] ⟨[tP 0 1000000, tI 1 v6, tP 4 4, tP 6 6, tP 7 7, tB 8 uj.2, tB 10 v5.2, tP 11 11, tB 132 false], [bX0 4, bC 6 (GSign.q uc.2), bC 7 (GOp.q uj.1), bC 11 (GSign.q ug.2), (1000000, .cells (GParser.k2 u3.1) (GParser.h2_9f u3.1))], []⟩ (cb h878 (cb h879 .nil)) ?_
                            exact ⟨_, rfl, h⟩
                        · refine Wc.r2 [{}, {}, {}, rF] ⟨[tP 0 1000000, tI 1 v6, tP 4 4, tP 6 6, tP 7 7, tB 8 uj.2, tB 10 v5.2, tP 11 11, tB 132 false], [bX0 4, bC 6 (GSign.q uc.2), bC 7 (GOp.q uj.1), bC 11 (GSign.q ug.2), (1000000, .cells (GParser.k2 u3.1) (GParser.h2_9f u3.1))], []⟩ (cb h878 .nil) ?_
                          exact ⟨_, rfl, h⟩
                      · rintro st ⟨ucj, rfl, h⟩
                        rcases oif h with ⟨h867, h⟩ | ⟨h867, h⟩
                        · refine Wc.cT h867 ?_
                          apply Wc.seq
                          refine Wc.r0 ⟨[tP 4 4, tP 11 11], [bX0 4, bC 11 (GSign.q ug.2), (1000000, .cells [.sl (List.map GSign.c u3.1.gList), aI (wr.i64 (u3.1.gAt + 2)), .slx, aI u3.1.gDeep, .bool u3.1.gBad] (GParser.h2_9f u3.1))], []⟩ ?_
                          apply Wc.seq
                          obtain ⟨uck, h868, h⟩ := Z0 h
                          refine Wc.r2 [{}, {}, {}, { r := some (.v (.agg (GTerm.q uck)) [(3, .app 29)]) }, { tk := [164] }] ⟨[tP 4 4, tI 5 0], [(4, .cells (GTerm.q uck) [(3, .app 29)]), (1000000, .cells [.sl (List.map GSign.c u3.1.gList), aI (wr.i64 (u3.1.gAt + 2)), .slx, aI u3.1.gDeep, .bool u3.1.gBad] (GParser.h2_9f u3.1))], []⟩ (.cons (Zko h868) .nil) ?_
                          refine Wc.fx [.un (.b 4 3)] ⟨[tP 4 4, tI 5 0], [bC 4 (GTerm.q uck), (1000000, .cells [.sl (List.map GSign.c u3.1.gList), aI (wr.i64 (u3.1.gAt + 2)), .slx, aI u3.1.gDeep, .bool u3.1.gBad] (GParser.h2_9f u3.1))], []⟩ ?_
                          cases h; exact Wc.ret dn
                        · refine Wc.cF h867 ?_
                          refine Wc.seqJ (fun st => ∃ (uci : Bool), st = ⟨[tP 0 1000000, tP 4 4, tP 6 6, tP 7 7, tB 8 uj.2, tB 10 v5.2, tB 165 uci], [bX0 4, bC 6 (GSign.q uc.2), bC 7 (GOp.q uj.1), (1000000, .cells (GParser.k2 u3.1) (GParser.h2_9f u3.1))], []⟩ ∧ Z26 k (Z4 k) (Z1 k) (Z3 k) (Z7 k) u3 uj uc v5 uci = some r) ?_ ?_
                          · rcases oif h with ⟨h876, h⟩ | ⟨h876, h⟩
                            · rcases oif h with ⟨h877, h⟩ | ⟨h877, h⟩
                              · refine Wc.r2 [{}, {}, {}, rT, {}, {}, rT] ⟨[tP 0 1000000, tP 4 4, tP 6 6, tP 7 7, tB 8 uj.2, tB 10 v5.2, tB 165 (decide (uj.1.gPrio ≤ v6))], [bX0 4, bC 6 (GSign.q uc.2), bC 7 (GOp.q uj.1), (1000000, .cells (GParser.k2 u3.1) (GParser.h2_9f u3.1))], []⟩ (cb h876 (cb h877 .nil)) ?_
                                exact ⟨_, rfl, h⟩
                              · refine Wc.r2 [{}, {}, {}, rT, {}, {}, rF] ⟨[tP 0 1000000, tP 4 4, tP 6 6, tP 7 7, tB 8 uj.2, tB 10 v5.2, tB 165 false], [bX0 4, bC 6 (GSign.q uc.2), bC 7 (GOp.q uj.1), (1000000, .cells (GParser.k2 u3.1) (GParser.h2_9f u3.1))], []⟩ (cb h876 (cb h877 .nil)) ?_
                                exact ⟨_, rfl, h⟩
                            · refine Wc.r2 [{}, {}, {}, rF] ⟨[tP 0 1000000, tP 4 4, tP 6 6, tP 7 7, tB 8 uj.2, tB 10 v5.2, tB 165 false], [bX0 4, bC 6 (GSign.q uc.2), bC 7 (GOp.q uj.1), (1000000, .cells (GParser.k2 u3.1) (GParser.h2_9f u3.1))], []⟩ (cb h876 .nil) ?_
                              exact ⟨_, rfl, h⟩
                          · rintro st ⟨uci, rfl, h⟩
                            rcases oif h with ⟨h869, h⟩ | ⟨h869, h⟩
                            · refine Wc.cT h869 ?_
                              apply Wc.seq
                              refine Wc.r0 ⟨[tP 0 1000000, tP 4 4, tP 6 6, tP 7 7], [bX0 4, bC 6 (GSign.q uc.2), bC 7 (GOp.q uj.1), (1000000, .cells [.sl (List.map GSign.c u3.1.gList), aI (wr.i64 (u3.1.gAt + 1)), .slx, aI u3.1.gDeep, .bool u3.1.gBad] (GParser.h2_9f u3.1))], []⟩ ?_
                              apply Wc.seq
                              obtain ⟨u2n, h870, h⟩ := Z0 h
                              obtain ⟨uf5, h871, h⟩ := Z0 h
                              refine Wc.draw hmix [{}, {}, {}, {}, {}, { r := some (.v (.agg (GTerm.q u2n.2)) []), outs := [(0, .p (GParser.k2 u2n.1) (GParser.h2_9f u2n.1))] }, { c := some (List.map GTerm.c [u2n.2]) }, { r := some (.v (.agg (GTerm.q uf5)) []) }] [] [4, 5] [4, 1000000] [] ⟨[tP 4 4, tI 5 uj.1.gPrio], [bC 4 (GTerm.q uf5), (1000000, .cells (GParser.k2 u2n.1) (GParser.h2_9f u2n.1))], []⟩ _ (by kernel_rfl) (fun X => by kernel_rfl) (.cons (Z3n h870) (.cons (Z3r (c := GTerm.c) (x := u2n.2) (GTerm.c_eq u2n.2) (Z4g GTerm.c)) (.cons (Z7q h871) .nil))) ?_
                              cases h; exact Wc.ret dn
                            · refine Wc.cF h869 ?_
                              refine Wc.seqJ (fun st => ∃ (ucg : Bool), st = ⟨[tP 0 1000000, tP 4 4, tP 6 6, tB 195 ucg], [bX0 4, bC 6 (GSign.q uc.2), (1000000, .cells (GParser.k2 u3.1) (GParser.h2_9f u3.1))], []⟩ ∧ Z25 k (Z4 k) (Z1 k) (Z3 k) (Z7 k) uc u3 ucg = some r) ?_ ?_
                              · rcases oif h with ⟨h874, h⟩ | ⟨h874, h⟩
                                · rcases oif h with ⟨h875, h⟩ | ⟨h875, h⟩
                                  · refine Wc.r2 [{}, {}, {}, rT, {}, {}, {}, rT] ⟨[tP 0 1000000, tP 4 4, tP 6 6, tB 195 (!v5.2)], [bX0 4, bC 6 (GSign.q uc.2), (1000000, .cells (GParser.k2 u3.1) (GParser.h2_9f u3.1))], []⟩ (cb h874 (cb h875 .nil)) ?_
                                    exact ⟨_, rfl, h⟩
                                  · refine Wc.r2 [{}, {}, {}, rT, {}, {}, {}, rF] ⟨[tP 0 1000000, tP 4 4, tP 6 6, tB 195 false], [bX0 4, bC 6 (GSign.q uc.2), (1000000, .cells (GParser.k2 u3.1) (GParser.h2_9f u3.1))], []⟩ (cb h874 (cb h875 .nil)) ?_
                                    exact ⟨_, rfl, h⟩
                                · refine Wc.r2 [{}, {}, {}, rF] ⟨[tP 0 1000000, tP 4 4, tP 6 6, tB 195 false], [bX0 4, bC 6 (GSign.q uc.2), (1000000, .cells (GParser.k2 u3.1) (GParser.h2_9f u3.1))], []⟩ (cb h874 .nil) ?_
                                  exact ⟨_, rfl, h⟩
                              · rintro st ⟨ucg, rfl, h⟩
                                rcases oif h with ⟨h872, h⟩ | ⟨h872, h⟩
                                · refine Wc.cT h872 ?_
                                  apply Wc.seq
                                  refine Wc.r0 ⟨[tP 4 4, tP 6 6], [bX0 4, bC 6 (GSign.q uc.2), (1000000, .cells [.sl (List.map GSign.c u3.1.gList), aI (wr.i64 (u3.1.gAt + 1)), .slx, aI u3.1.gDeep, .bool u3.1.gBad] (GParser.h2_9f u3.1))], []⟩ ?_
                                  apply Wc.seq
                                  obtain ⟨uch, h873, h⟩ := Z0 h
                                  refine Wc.r2 [{}, {}, { r := some (.v (.agg (GTerm.q uch)) [(3, .app 29)]) }, { tk := [216] }] ⟨[tP 4 4, tI 5 0], [(4, .cells (GTerm.q uch) [(3, .app 29)]), (1000000, .cells [.sl (List.map GSign.c u3.1.gList), aI (wr.i64 (u3.1.gAt + 1)), .slx, aI u3.1.gDeep, .bool u3.1.gBad] (GParser.h2_9f u3.1))], []⟩ (.cons (Zj6 h873) .nil) ?_
                                  refine Wc.fx [.un (.b 4 3)] ⟨[tP 4 4, tI 5 0], [bC 4 (GTerm.q uch), (1000000, .cells [.sl (List.map GSign.c u3.1.gList), aI (wr.i64 (u3.1.gAt + 1)), .slx, aI u3.1.gDeep, .bool u3.1.gBad] (GParser.h2_9f u3.1))], []⟩ ?_
                                  cases h; exact Wc.ret dn
                                · refine Wc.cF h872 ?_
                                  refine Wc.fx [] ⟨[tP 0 1000000, tP 4 4], [bX0 4, (1000000, .cells (GParser.k2 u3.1) (GParser.h2_9f u3.1))], []⟩ ?_
                                  refine Wc.skip ?_
                                  apply Wc.seq
                                  refine Wc.r0 ⟨[tP 4 4], [bX0 4, (1000000, .cells [.sl (List.map GSign.c u3.1.gList), aI u3.1.gAt, .slx, aI u3.1.gDeep, .bool true] (GParser.h2_9f u3.1))], []⟩ ?_
                                  apply Wc.seq
                                  refine Wc.r1 [{}, { tk := [220] }] ⟨[tP 4 4, tI 5 0], [bX0 4, (1000000, .cells [.sl (List.map GSign.c u3.1.gList), aI u3.1.gAt, .slx, aI u3.1.gDeep, .bool true] (GParser.h2_9f u3.1))], []⟩ ?_
                                  refine Wc.fx [.un (.b 4 3)] ⟨[tP 4 4, tI 5 0], [bC 4 GTerm.z, (1000000, .cells [.sl (List.map GSign.c u3.1.gList), aI u3.1.gAt, .slx, aI u3.1.gDeep, .bool true] (GParser.h2_9f u3.1))], []⟩ ?_
                                  cases h; exact Wc.ret dn
    · intro um v7 r h
      rw [Z3] at h
      refine FnO.o2 Tryz.func55 (rfl : Tryz.f55.body = some _) ?_
      intro w0 X0 Fin pv0 pb gt
      apply Wc.seq
      refine Wc.r0 ⟨[tP 0 1000000, tI 1 v7, tP 4 4], [bX0 4, (1000000, .cells (GParser.k2 um) (GParser.h2_9f um))], []⟩ ?_
      apply Wc.seq
      refine Wc.seqJ (fun st => ∃ (ucq : Bool), st = ⟨[tP 0 1000000, tI 1 v7, tP 4 4, tB 20 ucq], [bX0 4, (1000000, .cells (GParser.k2 um) (GParser.h2_9f um))], []⟩ ∧ Z3l k (Z4 k) (Z1 k) (Z3 k) (Z7 k) um v7 ucq = some r) ?_ ?_
      · rcases oif h with ⟨h901, h⟩ | ⟨h901, h⟩
        · refine Wc.r2 [{}, {}, {}, {}, {}, rT] ⟨[tP 0 1000000, tI 1 v7, tP 4 4, tB 20 true], [bX0 4, (1000000, .cells (GParser.k2 um) (GParser.h2_9f um))], []⟩ (cb h901 .nil) ?_
          exact ⟨_, rfl, h⟩
        · refine Wc.r2 [{}, {}, {}, {}, {}, rF] ⟨[tP 0 1000000, tI 1 v7, tP 4 4, tB 20 um.gBad], [bX0 4, (1000000, .cells (GParser.k2 um) (GParser.h2_9f um))], []⟩ (cb h901 .nil) ?_
          exact ⟨_, rfl, h⟩
      · rintro st ⟨ucq, rfl, h⟩
        rcases oif h with ⟨h886, h⟩ | ⟨h886, h⟩
        · refine Wc.cT h886 ?_
          apply Wc.seq
          refine Wc.r0 ⟨[tP 4 4], [bX0 4, (1000000, .cells [.sl (List.map GSign.c um.gList), aI um.gAt, .slx, aI um.gDeep, .bool true] (GParser.h2_9f um))], []⟩ ?_
          apply Wc.seq
          refine Wc.r1 [{}, { tk := [24] }] ⟨[tP 4 4], [bX0 4, (1000000, .cells [.sl (List.map GSign.c um.gList), aI um.gAt, .slx, aI um.gDeep, .bool true] (GParser.h2_9f um))], []⟩ ?_
          refine Wc.fx [.un (.b 4 3)] ⟨[tP 4 4], [bC 4 GTerm.z, (1000000, .cells [.sl (List.map GSign.c um.gList), aI um.gAt, .slx, aI um.gDeep, .bool true] (GParser.h2_9f um))], []⟩ ?_
          cases h; exact Wc.ret dn
        · refine Wc.cF h886 ?_
          refine Wc.fx [] ⟨[tP 0 1000000, tI 1 v7, tP 4 4], [bX0 4, (1000000, .cells (GParser.k2 um) (GParser.h2_9f um))], []⟩ ?_
          refine Wc.skip ?_
          apply Wc.seq
          refine Wc.r0 ⟨[tP 0 1000000, tI 1 v7, tP 4 4], [bX0 4, (1000000, .cells [.sl (List.map GSign.c um.gList), aI um.gAt, .slx, aI (wr.i64 (um.gDeep + 1)), .bool um.gBad] (GParser.h2_9f um))], []⟩ ?_
          apply Wc.seq
          obtain ⟨u25, h887, h⟩ := Z0 h
          refine Wc.r2 [{}, {}, { r := some (.v (.tup [.agg (GTerm.q u25.2.1), aI u25.2.2]) []), outs := [(0, .p (GParser.k2 u25.1) (GParser.h2_9f u25.1))] }] ⟨[tP 0 1000000, tI 1 v7, tP 4 4, tP 5 5, tI 6 u25.2.2], [bX0 4, bC 5 (GTerm.q u25.2.1), (1000000, .cells (GParser.k2 u25.1) (GParser.h2_9f u25.1))], []⟩ (.cons (Zbl h887) .nil) ?_
          obtain ⟨out2, h888, h⟩ := Z0 h
          refine Wc.seqJ (fun st => ∃ (u7t : GTerm) (u0w : GParser), out2 = .done (u7t, u0w) ∧ st = ⟨[tP 0 1000000, tP 4 4, tP 5 5], [bX0 4, bC 5 (GTerm.q u7t), (1000000, .cells (GParser.k2 u0w) (GParser.h2_9f u0w))], []⟩) ?_ ?_
          · refine Wc.block ?_
            refine Wc.loop (fun m st => ∃ (u4t : Int) (vc : GTerm) (u04 : GParser), st = ⟨[tP 0 1000000, tI 1 v7, tP 4 4, tP 5 5, tI 6 u4t], [bX0 4, bC 5 (GTerm.q vc), (1000000, .cells (GParser.k2 u04) (GParser.h2_9f u04))], []⟩ ∧ Zx k (Z4 k) (Z1 k) (Z3 k) (Z7 k) v7 m u4t vc u04 = some out2) ?_ k ⟨_, _, _, rfl, h888⟩
            rintro m st ⟨u4t, vc, u04, rfl, h888⟩
            cases m with
            | zero => exact (Z1r h888).elim
            | succ m =>
              apply Wc.seq
              apply Wc.seq
              refine Wc.r0 ⟨[tP 0 1000000, tI 1 v7, tP 4 4, tP 5 5, tI 6 u4t, tB 42 (!u04.gBad)], [bX0 4, bC 5 (GTerm.q vc), (1000000, .cells (GParser.k2 u04) (GParser.h2_9f u04))], []⟩ ?_
              rcases oif h888 with ⟨h889, h888⟩ | ⟨h889, h888⟩
              · refine Wc.cT h889 ?_
                refine Wc.fx [] ⟨[tP 0 1000000, tI 1 v7, tP 4 4, tP 5 5, tI 6 u4t], [bX0 4, bC 5 (GTerm.q vc), (1000000, .cells (GParser.k2 u04) (GParser.h2_9f u04))], []⟩ ?_
                refine Wc.skip ?_
                refine Wc.block ?_
                apply Wc.seq
                obtain ⟨u6, h890, h888⟩ := Z0 h888
                refine Wc.r2 [{}, { r := some (.v (.agg (GSign.q u6.2)) []), outs := [(0, .p (GParser.k2 u6.1) (GParser.h2_9f u6.1))] }] ⟨[tP 0 1000000, tI 1 v7, tP 4 4, tP 5 5, tI 6 u4t, tP 7 7], [bX0 4, bC 5 (GTerm.q vc), bC 7 (GSign.q u6.2), (1000000, .cells (GParser.k2 u6.1) (GParser.h2_9f u6.1))], []⟩ (.cons (Z51 h890) .nil) ?_
                apply Wc.seq
                obtain ⟨z5, h891, h888⟩ := Z0 h888
                refine Wc.r2 [{}, {}, { r := some (.v (.tup [.agg (GOp.q z5.1), .bool z5.2]) []) }] ⟨[tP 0 1000000, tI 1 v7, tP 4 4, tP 5 5, tI 6 u4t, tP 7 7, tP 8 8, tB 9 z5.2], [bX0 4, bC 5 (GTerm.q vc), bC 7 (GSign.q u6.2), bC 8 (GOp.q z5.1), (1000000, .cells (GParser.k2 u6.1) (GParser.h2_9f u6.1))], []⟩ (.cons (Zbh h891) .nil) ?_
                refine Wc.seqJ (fun st => st = ⟨[tP 0 1000000, tI 1 v7, tP 4 4, tP 5 5, tP 8 8], [bX0 4, bC 5 (GTerm.q vc), bC 8 (GOp.q z5.1), (1000000, .cells (GParser.k2 u6.1) (GParser.h2_9f u6.1))], []⟩ ∧ Z4d k (Z4 k) (Z1 k) (Z3 k) (Z7 k) (Zx k (Z4 k) (Z1 k) (Z3 k) (Z7 k) v7 m) u6 z5 vc = some out2) ?_ ?_
                · apply Wc.seq
                  rcases oif h888 with ⟨h894, h888⟩ | ⟨h894, h888⟩
                  · refine Wc.r2 [{}, {}, rT] ⟨[tP 0 1000000, tI 1 v7, tP 4 4, tP 5 5, tP 8 8, tB 78 true], [bX0 4, bC 5 (GTerm.q vc), bC 8 (GOp.q z5.1), (1000000, .cells (GParser.k2 u6.1) (GParser.h2_9f u6.1))], []⟩ (cb h894 .nil) ?_
                    refine Wc.cT rfl ?_
                    refine Wc.fx [] ⟨[tP 0 1000000, tP 4 4, tP 5 5], [bX0 4, bC 5 (GTerm.q vc), (1000000, .cells (GParser.k2 u6.1) (GParser.h2_9f u6.1))], []⟩ ?_
                    refine Wc.exit ?_
                    cases h888
                    exact ⟨_, _, rfl, rfl⟩
                  · rcases oif h888 with ⟨h895, h888⟩ | ⟨h895, h888⟩
                    · rcases oif h888 with ⟨h896, h888⟩ | ⟨h896, h888⟩
                      · refine Wc.r2 [{}, {}, rF, {}, {}, {}, rT, {}, {}, {}, rT] ⟨[tP 0 1000000, tI 1 v7, tP 4 4, tP 5 5, tP 8 8, tB 78 true], [bX0 4, bC 5 (GTerm.q vc), bC 8 (GOp.q z5.1), (1000000, .cells (GParser.k2 u6.1) (GParser.h2_9f u6.1))], []⟩ (cb h894 (cb h895 (cb h896 .nil))) ?_
                        refine Wc.cT rfl ?_
                        refine Wc.fx [] ⟨[tP 0 1000000, tP 4 4, tP 5 5], [bX0 4, bC 5 (GTerm.q vc), (1000000, .cells (GParser.k2 u6.1) (GParser.h2_9f u6.1))], []⟩ ?_
                        refine Wc.exit ?_
                        cases h888
                        exact ⟨_, _, rfl, rfl⟩
                      · rcases oif h888 with ⟨h897, h888⟩ | ⟨h897, h888⟩
                        · refine Wc.r2 [{}, {}, rF, {}, {}, {}, rT, {}, {}, {}, rF, {}, {}, {}, {}, {}, rT] ⟨[tP 0 1000000, tI 1 v7, tP 4 4, tP 5 5, tP 8 8, tB 78 true], [bX0 4, bC 5 (GTerm.q vc), bC 8 (GOp.q z5.1), (1000000, .cells (GParser.k2 u6.1) (GParser.h2_9f u6.1))], []⟩ (cb h894 (cb h895 (cb h896 (cb h897 .nil)))) ?_
                          refine Wc.cT rfl ?_
                          refine Wc.fx [] ⟨[tP 0 1000000, tP 4 4, tP 5 5], [bX0 4, bC 5 (GTerm.q vc), (1000000, .cells (GParser.k2 u6.1) (GParser.h2_9f u6.1))], []⟩ ?_
                          refine Wc.exit ?_
                          cases h888
                          exact ⟨_, _, rfl, rfl⟩
                        · rcases oif h888 with ⟨h898, h888⟩ | ⟨h898, h888⟩
                          · refine Wc.r2 [{}, {}, rF, {}, {}, {}, rT, {}, {}, {}, rF, {}, {}, {}, {}, {}, rF, {}, {}, {}, {}, {}, rT] ⟨[tP 0 1000000, tI 1 v7, tP 4 4, tP 5 5, tP 8 8, tB 78 true], [bX0 4, bC 5 (GTerm.q vc), bC 8 (GOp.q z5.1), (1000000, .cells (GParser.k2 u6.1) (GParser.h2_9f u6.1))], []⟩ (cb h894 (cb h895 (cb h896 (cb h897 (cb h898 .nil))))) ?_
                            refine Wc.cT rfl ?_
                            refine Wc.fx [] ⟨[tP 0 1000000, tP 4 4, tP 5 5], [bX0 4, bC 5 (GTerm.q vc), (1000000, .cells (GParser.k2 u6.1) (GParser.h2_9f u6.1))], []⟩ ?_
                            refine Wc.exit ?_
                            cases h888
                            exact ⟨_, _, rfl, rfl⟩
                          · refine Wc.r2 [{}, {}, rF, {}, {}, {}, rT, {}, {}, {}, rF, {}, {}, {}, {}, {}, rF, {}, {}, {}, {}, {}, rF] ⟨[tP 0 1000000, tI 1 v7, tP 4 4, tP 5 5, tP 8 8, tB 78 (decide (z5.1.gLeft < u4t))], [bX0 4, bC 5 (GTerm.q vc), bC 8 (GOp.q z5.1), (1000000, .cells (GParser.k2 u6.1) (GParser.h2_9f u6.1))], []⟩ (cb h894 (cb h895 (cb h896 (cb h897 (cb h898 .nil))))) ?_
                            rcases oif h888 with ⟨h899, h888⟩ | ⟨h899, h888⟩
                            · refine Wc.cT h899 ?_
                              refine Wc.fx [] ⟨[tP 0 1000000, tP 4 4, tP 5 5], [bX0 4, bC 5 (GTerm.q vc), (1000000, .cells (GParser.k2 u6.1) (GParser.h2_9f u6.1))], []⟩ ?_
                              refine Wc.exit ?_
                              cases h888
                              exact ⟨_, _, rfl, rfl⟩
                            · refine Wc.cF h899 ?_
                              refine Wc.fx [] ⟨[tP 0 1000000, tI 1 v7, tP 4 4, tP 5 5, tP 8 8], [bX0 4, bC 5 (GTerm.q vc), bC 8 (GOp.q z5.1), (1000000, .cells (GParser.k2 u6.1) (GParser.h2_9f u6.1))], []⟩ ?_
                              refine Wc.skip ?_
                              exact ⟨rfl, h888⟩
                    · rcases oif h888 with ⟨h896, h888⟩ | ⟨h896, h888⟩
                      · refine Wc.r2 [{}, {}, rF, {}, {}, {}, rF, {}, {}, {}, {}, {}, {}, {}, {}, {}, {}, {}, {}, {}, {}, {}, rT] ⟨[tP 0 1000000, tI 1 v7, tP 4 4, tP 5 5, tP 8 8, tB 78 true], [bX0 4, bC 5 (GTerm.q vc), bC 8 (GOp.q z5.1), (1000000, .cells (GParser.k2 u6.1) (GParser.h2_9f u6.1))], []⟩ (cb h894 (cb h895 (cb h896 .nil))) ?_
                        refine Wc.cT rfl ?_
                        refine Wc.fx [] ⟨[tP 0 1000000, tP 4 4, tP 5 5], [bX0 4, bC 5 (GTerm.q vc), (1000000, .cells (GParser.k2 u6.1) (GParser.h2_9f u6.1))], []⟩ ?_
                        refine Wc.exit ?_
                        cases h888
                        exact ⟨_, _, rfl, rfl⟩
                      · refine Wc.r2 [{}, {}, rF, {}, {}, {}, rF, {}, {}, {}, {}, {}, {}, {}, {}, {}, {}, {}, {}, {}, {}, {}, rF] ⟨[tP 0 1000000, tI 1 v7, tP 4 4, tP 5 5, tP 8 8, tB 78 (decide (z5.1.gLeft < u4t))], [bX0 4, bC 5 (GTerm.q vc), bC 8 (GOp.q z5.1), (1000000, .cells (GParser.k2 u6.1) (GParser.h2_9f u6.1))], []⟩ (cb h894 (cb h895 (cb h896 .nil))) ?_
                        rcases oif h888 with ⟨h900, h888⟩ | ⟨h900, h888⟩
                        · refine Wc.cT h900 ?_
                          refine Wc.fx [] ⟨[tP 0 1000000, tP 4 4, tP 5 5], [bX0 4, bC 5 (GTerm.q vc), (1000000, .cells (GParser.k2 u6.1) (GParser.h2_9f u6.1))], []⟩ ?_
                          refine Wc.exit ?_
                          cases h888
                          exact ⟨_, _, rfl, rfl⟩
                        · refine Wc.cF h900 ?_
                          refine Wc.fx [] ⟨[tP 0 1000000, tI 1 v7, tP 4 4, tP 5 5, tP 8 8], [bX0 4, bC 5 (GTerm.q vc), bC 8 (GOp.q z5.1), (1000000, .cells (GParser.k2 u6.1) (GParser.h2_9f u6.1))], []⟩ ?_
                          refine Wc.skip ?_
                          exact ⟨rfl, h888⟩
                · rintro st ⟨rfl, h888⟩
                  apply Wc.seq
                  refine Wc.r0 ⟨[tP 0 1000000, tI 1 v7, tP 4 4, tP 5 5, tP 8 8], [bX0 4, bC 5 (GTerm.q vc), bC 8 (GOp.q z5.1), (1000000, .cells [.sl (List.map GSign.c u6.1.gList), aI (wr.i64 (u6.1.gAt + 1)), .slx, aI u6.1.gDeep, .bool u6.1.gBad] (GParser.h2_9f u6.1))], []⟩ ?_
                  apply Wc.seq
                  obtain ⟨u17, h892, h888⟩ := Z0 h888
                  obtain ⟨ucp, h893, h888⟩ := Z0 h888
                  refine Wc.draw hmix [{}, {}, {}, {}, {}, {}, { r := some (.v (.agg (GTerm.q u17.2)) []), outs := [(0, .p (GParser.k2 u17.1) (GParser.h2_9f u17.1))] }, { c := some (List.map GTerm.c [vc, u17.2]) }, { r := some (.v (.agg (GTerm.q ucp)) []) }] [] [0, 1, 4, 5, 8] [4, 5, 8, 1000000] [] ⟨[tP 0 1000000, tI 1 v7, tP 4 4, tP 5 5, tP 8 8], [bX0 4, bC 5 (GTerm.q ucp), bC 8 (GOp.q z5.1), (1000000, .cells (GParser.k2 u17.1) (GParser.h2_9f u17.1))], []⟩ _ (by kernel_rfl) (fun X => by kernel_rfl) (.cons (Z3n h892) (.cons (Z3r (c := GTerm.c) (x := vc) (GTerm.c_eq vc) (Z3r (c := GTerm.c) (x := u17.2) (GTerm.c_eq u17.2) (Z4g GTerm.c))) (.cons (Z7q h893) .nil))) ?_
                  refine Wc.r0 ⟨[tP 0 1000000, tI 1 v7, tP 4 4, tP 5 5, tI 6 z5.1.gPrio], [bX0 4, bC 5 (GTerm.q ucp), (1000000, .cells (GParser.k2 u17.1) (GParser.h2_9f u17.1))], []⟩ ?_
                  exact ⟨_, Nat.lt_succ_self _, _, _, _, rfl, h888⟩
              · refine Wc.cF h889 ?_
                refine Wc.fx [] ⟨[tP 0 1000000, tP 4 4, tP 5 5], [bX0 4, bC 5 (GTerm.q vc), (1000000, .cells (GParser.k2 u04) (GParser.h2_9f u04))], []⟩ ?_
                refine Wc.exit ?_
                cases h888
                exact ⟨_, _, rfl, rfl⟩
          · rintro st ⟨u7t, u0w, rfl, rfl⟩
            apply Wc.seq
            refine Wc.r0 ⟨[tP 4 4, tP 5 5], [bX0 4, bC 5 (GTerm.q u7t), (1000000, .cells [.sl (List.map GSign.c u0w.gList), aI u0w.gAt, .slx, aI (wr.i64 (u0w.gDeep - 1)), .bool u0w.gBad] (GParser.h2_9f u0w))], []⟩ ?_
            apply Wc.seq
            refine Wc.r0 ⟨[tP 4 4], [bC 4 (GTerm.q u7t), (1000000, .cells [.sl (List.map GSign.c u0w.gList), aI u0w.gAt, .slx, aI (wr.i64 (u0w.gDeep - 1)), .bool u0w.gBad] (GParser.h2_9f u0w))], []⟩ ?_
            cases h; exact Wc.ret dn
    · intro u1a r h
      rw [Z7] at h
      refine FnO.o2 Tryz.func105 (rfl : Tryz.f105.body = some _) ?_
      intro w0 X0 Fin pv0 pb gt
      apply Wc.seq
      refine Wc.r0 ⟨[tP 0 1000000], [(1000000, .cells (GParser.k2 u1a) (GParser.h2_9f u1a))], []⟩ ?_
      apply Wc.seq
      obtain ⟨u27, h902, h⟩ := Z0 h
      refine Wc.r2 [{}, { r := some (.v (.agg (GTerm.q u27.2)) []), outs := [(0, .p (GParser.k2 u27.1) (GParser.h2_9f u27.1))] }, { c := some (List.map GTerm.c [u27.2]) }, { tk := [6] }] ⟨[tP 0 1000000, (3, (.v (.sl (List.map GTerm.c [u27.2])), [(0, .app 29)]))], [(1000000, .cells (GParser.k2 u27.1) (GParser.h2_9f u27.1))], []⟩ (.cons (Z3n h902) (.cons (Z3r (c := GTerm.c) (x := u27.2) (GTerm.c_eq u27.2) (Z4g GTerm.c)) .nil)) ?_
      obtain ⟨out1, h903, h⟩ := Z0 h
      refine Wc.seqJ (fun st => ∃ (u9d : List GTerm) (u3w : GParser), out1 = .done (u9d, u3w) ∧ st = ⟨[(3, (.v (.sl (List.map GTerm.c u9d)), [(0, .app 29)]))], [(1000000, .cells (GParser.k2 u3w) (GParser.h2_9f u3w))], []⟩) ?_ ?_
      · refine Wc.block ?_
        refine Wc.loop (fun m st => ∃ (u26 : List GTerm) (u1m : GParser), st = ⟨[tP 0 1000000, (3, (.v (.sl (List.map GTerm.c u26)), [(0, .app 29)]))], [(1000000, .cells (GParser.k2 u1m) (GParser.h2_9f u1m))], []⟩ ∧ Zv k (Z4 k) (Z1 k) (Z3 k) (Z7 k) m u26 u1m = some out1) ?_ k ⟨_, _, rfl, h903⟩
        rintro m st ⟨u26, u1m, rfl, h903⟩
        cases m with
        | zero => exact (Z1r h903).elim
        | succ m =>
          apply Wc.seq
          apply Wc.seq
          rcases oif h903 with ⟨h904, h903⟩ | ⟨h904, h903⟩
          · obtain ⟨vu, h905, h903⟩ := Z0 h903
            refine Wc.r2 [{}, {}, {}, {}, {}, rT, {}, { r := some (.v (.bool vu.2) []), outs := [(0, .p (GParser.k2 vu.1) (GParser.h2_9f vu.1))] }] ⟨[tP 0 1000000, (3, (.v (.sl (List.map GTerm.c u26)), [(0, .app 29)])), tB 15 vu.2], [(1000000, .cells (GParser.k2 vu.1) (GParser.h2_9f vu.1))], []⟩ (cb h904 (.cons (Z23 h905) .nil)) ?_
            rcases oif h903 with ⟨h906, h903⟩ | ⟨h906, h903⟩
            · refine Wc.cT h906 ?_
              refine Wc.fx [] ⟨[tP 0 1000000, (3, (.v (.sl (List.map GTerm.c u26)), [(0, .app 29)]))], [(1000000, .cells (GParser.k2 vu.1) (GParser.h2_9f vu.1))], []⟩ ?_
              refine Wc.skip ?_
              refine Wc.block ?_
              apply Wc.seq
              refine Wc.r0 ⟨[tP 0 1000000, (3, (.v (.sl (List.map GTerm.c u26)), [(0, .app 29)]))], [(1000000, .cells [.sl (List.map GSign.c vu.1.gList), aI (wr.i64 (vu.1.gAt + 1)), .slx, aI vu.1.gDeep, .bool vu.1.gBad] (GParser.h2_9f vu.1))], []⟩ ?_
              obtain ⟨u0x, h907, h903⟩ := Z0 h903
              obtain ⟨h908, h903⟩ := Zg h903
              refine Wc.r2 [{ tk := [3] }, {}, { r := some (.v (.agg (GTerm.q u0x.2)) []), outs := [(0, .p (GParser.k2 u0x.1) (GParser.h2_9f u0x.1))] }, { c := some (List.map GTerm.c [u0x.2]) }, { c := some (List.map GTerm.c (u26 ++ [u0x.2])), tk := [23] }, { tk := [27] }] ⟨[tP 0 1000000, (3, (.v (.sl (List.map GTerm.c (u26 ++ [u0x.2]))), [(0, .app 29)]))], [(1000000, .cells (GParser.k2 u0x.1) (GParser.h2_9f u0x.1))], []⟩ (.cons (Z3n h907) (.cons (Z3r (c := GTerm.c) (x := u0x.2) (GTerm.c_eq u0x.2) (Z4g GTerm.c)) (.cons (Z75 GTerm.c u26 [u0x.2]) (.cons (Z53 (c := GTerm.c) (ys := [u0x.2]) GTerm.c_leaf) (.cons (Z52 (c := GTerm.c) (xs := u26) (ys := [u0x.2]) GTerm.c_len h908) .nil))))) ?_
              exact ⟨_, Nat.lt_succ_self _, _, _, rfl, h903⟩
            · refine Wc.cF h906 ?_
              refine Wc.fx [] ⟨[(3, (.v (.sl (List.map GTerm.c u26)), [(0, .app 29)]))], [(1000000, .cells (GParser.k2 vu.1) (GParser.h2_9f vu.1))], []⟩ ?_
              refine Wc.exit ?_
              cases h903
              exact ⟨_, _, rfl, rfl⟩
          · refine Wc.r2 [{}, {}, {}, {}, {}, rF] ⟨[tP 0 1000000, (3, (.v (.sl (List.map GTerm.c u26)), [(0, .app 29)])), tB 15 false], [(1000000, .cells (GParser.k2 u1m) (GParser.h2_9f u1m))], []⟩ (cb h904 .nil) ?_
            refine Wc.cF rfl ?_
            refine Wc.fx [] ⟨[(3, (.v (.sl (List.map GTerm.c u26)), [(0, .app 29)]))], [(1000000, .cells (GParser.k2 u1m) (GParser.h2_9f u1m))], []⟩ ?_
            refine Wc.exit ?_
            cases h903
            exact ⟨_, _, rfl, rfl⟩
      · rintro st ⟨u9d, u3w, rfl, rfl⟩
        apply Wc.seq
        refine Wc.r1 [{ tk := [3] }, { tk := [28] }] ⟨[(2, (.v (.sl (List.map GTerm.c u9d)), [(0, .app 29)]))], [(1000000, .cells (GParser.k2 u3w) (GParser.h2_9f u3w))], []⟩ ?_
        cases h; exact Wc.ret dn
theorem Zgy {k : Nat} {um : GParser} {v7 : Int} {r : GParser × GTerm} (h : Z3 k um v7 = some r) : FnO Tryz.prog 55 [.p (GParser.k2 um) (GParser.h2_9f um), .v (aI v7) []] (.v (.agg (GTerm.q r.2)) []) [(0, .p (GParser.k2 r.1) (GParser.h2_9f r.1))] := (Zaf k).2.2.1 h


def Z58 (k : Nat) (uz : List GSign) : Nat → Int → Option (Out (GTerm × (List ByteArray) × Int × Bool) Unit)
  | 0, _ => none
  | m + 1, u39 =>
    if (decide (u39 < (uz.length : Int))) = true then
      (at' uz (wr.i64 ((wr.i64 (u39 + 1)) - 1))).bind fun u9e =>
      if (u9e.gKind == 5) = true then
        some (.ret (GTerm.mk 0 (bs []) 0 [], [], wr.i64 (u39 + 1), false))
      else
        Z58 k uz m (wr.i64 (u39 + 1))
    else
      some (.done ())
def Z59 (k : Nat) (uz : List GSign) (z6 : Int) : Option (GTerm × (List ByteArray) × Int × Bool) :=
  (Z58 k uz k (if 0 > z6 then 0 else z6)).bind fun out2 => match out2 with
  | .ret r => some r
  | .done () =>
    some (GTerm.mk 0 (bs []) 0 [], [], (uz.length : Int), false)
def Z3p (k : Nat) (vw : GParser × GTerm) (uz : List GSign) (z6 : Int) (u9f : Bool) (u49 : GParser) : Option (GTerm × (List ByteArray) × Int × Bool) :=
  if u9f = true then
    some (vw.2, u49.gNames, wr.i64 (u49.gAt + 1), true)
  else
    Z59 k uz z6
def Z7f (k : Nat) (uz : List GSign) (z6 : Int) : Option (GTerm × (List ByteArray) × Int × Bool) :=
  (Z4w k z6 0 (wr.i64 ((uz.length : Int) - 1))).bind fun uf8 =>
  if uf8 = true then
    (Z3 k (GParser.mk uz z6 [] 0 false) 1200).bind fun vw =>
    if (!vw.1.gBad) = true then
      (Z2c k vw.1 0).bind fun u0c =>
      if (u0c.2.gKind == 5) = true then
        (Z8b k vw.2).bind fun uf9 =>
        Z3p k vw uz z6 uf9 u0c.1
      else
        Z3p k vw uz z6 false u0c.1
    else
      Z3p k vw uz z6 false vw.1
  else
    Z59 k uz z6
set_option maxHeartbeats 4000000 in
theorem Zkw {k : Nat} {uz : List GSign} {z6 : Int} {r : GTerm × (List ByteArray) × Int × Bool} (h : Z7f k uz z6 = some r) : FnO Tryz.prog 29 [.v (.sl (List.map GSign.c uz)) [], .v (aI z6) []] (.v (.tup [.agg (GTerm.q r.1), .sl (List.map cS r.2.1), aI r.2.2.1, .bool r.2.2.2]) []) [] := by
  refine FnO.o2 Tryz.func29 (rfl : Tryz.f29.body = some _) ?_
  intro w0 X0 Fin pv0 pb gt
  unfold Z7f at h
  apply Wc.seq
  refine Wc.r0 ⟨[tV 0 (.sl (List.map GSign.c uz)), tI 1 z6, tP 4 4], [bX0 4], []⟩ ?_
  refine Wc.seqJ (fun st => st = ⟨[tV 0 (.sl (List.map GSign.c uz)), tI 1 z6, tP 4 4], [bX0 4], []⟩ ∧ Z59 k uz z6 = some r) ?_ ?_
  · apply Wc.seq
    obtain ⟨uf8, h925, h⟩ := Z0 h
    refine Wc.r2 [{}, {}, { v := some (aI (uz.length : Int)) }, {}, { r := some (.v (.bool uf8) []) }] ⟨[tV 0 (.sl (List.map GSign.c uz)), tI 1 z6, tP 4 4, tB 15 uf8], [bX0 4], []⟩ (.cons (Zn GSign.c uz) (.cons (Z46 h925) .nil)) ?_
    rcases oif h with ⟨h926, h⟩ | ⟨h926, h⟩
    · refine Wc.cT h926 ?_
      apply Wc.seq
      refine Wc.r1 [{}, {}, {}, { tk := [18] }] ⟨[tV 0 (.sl (List.map GSign.c uz)), tI 1 z6, tP 4 4, tP 8 19], [bX0 4, (19, .cells [.sl (List.map GSign.c uz), aI z6, .sl (List.map cS []), aI 0, .bool false] [(2, .app 9)])], []⟩ ?_
      apply Wc.seq
      obtain ⟨vw, h927, h⟩ := Z0 h
      refine Wc.r2 [{}, { r := some (.v (.agg (GTerm.q vw.2)) []), outs := [(0, .p (GParser.k2 vw.1) (GParser.h2_9f vw.1))], fx := [.ow (.b 19 2) false] }] ⟨[tV 0 (.sl (List.map GSign.c uz)), tI 1 z6, tP 4 4, tP 8 19, tP 9 9], [bX0 4, bC 9 (GTerm.q vw.2), (19, .cells (GParser.k2 vw.1) (GParser.h2_9f vw.1))], []⟩ (.cons (Zgy h927) .nil) ?_
      refine Wc.seqJ (fun st => ∃ (u9f : Bool) (u49 : GParser), st = ⟨[tV 0 (.sl (List.map GSign.c uz)), tI 1 z6, tP 4 4, tP 8 19, tP 9 9, tB 36 u9f], [bX0 4, bC 9 (GTerm.q vw.2), (19, .cells (GParser.k2 u49) (GParser.h2_9f u49))], []⟩ ∧ Z3p k vw uz z6 u9f u49 = some r) ?_ ?_
      · rcases oif h with ⟨h929, h⟩ | ⟨h929, h⟩
        · obtain ⟨u0c, h930, h⟩ := Z0 h
          rcases oif h with ⟨h931, h⟩ | ⟨h931, h⟩
          · obtain ⟨uf9, h932, h⟩ := Z0 h
            refine Wc.r2 [{}, {}, {}, {}, {}, rT, {}, { r := some (.v (.agg (GSign.q u0c.2)) []), outs := [(0, .p (GParser.k2 u0c.1) (GParser.h2_9f u0c.1))] }, {}, {}, {}, rT, {}, { r := some (.v (.bool uf9) []) }] ⟨[tV 0 (.sl (List.map GSign.c uz)), tI 1 z6, tP 4 4, tP 8 19, tP 9 9, tB 36 uf9], [bX0 4, bC 9 (GTerm.q vw.2), (19, .cells (GParser.k2 u0c.1) (GParser.h2_9f u0c.1))], []⟩ (cb h929 (.cons (Z51 h930) (cb h931 (.cons (Zgg h932) .nil)))) ?_
            exact ⟨_, _, rfl, h⟩
          · refine Wc.r2 [{}, {}, {}, {}, {}, rT, {}, { r := some (.v (.agg (GSign.q u0c.2)) []), outs := [(0, .p (GParser.k2 u0c.1) (GParser.h2_9f u0c.1))] }, {}, {}, {}, rF] ⟨[tV 0 (.sl (List.map GSign.c uz)), tI 1 z6, tP 4 4, tP 8 19, tP 9 9, tB 36 false], [bX0 4, bC 9 (GTerm.q vw.2), (19, .cells (GParser.k2 u0c.1) (GParser.h2_9f u0c.1))], []⟩ (cb h929 (.cons (Z51 h930) (cb h931 .nil))) ?_
            exact ⟨_, _, rfl, h⟩
        · refine Wc.r2 [{}, {}, {}, {}, {}, rF] ⟨[tV 0 (.sl (List.map GSign.c uz)), tI 1 z6, tP 4 4, tP 8 19, tP 9 9, tB 36 false], [bX0 4, bC 9 (GTerm.q vw.2), (19, .cells (GParser.k2 vw.1) (GParser.h2_9f vw.1))], []⟩ (cb h929 .nil) ?_
          exact ⟨_, _, rfl, h⟩
      · rintro st ⟨u9f, u49, rfl, h⟩
        rcases oif h with ⟨h928, h⟩ | ⟨h928, h⟩
        · refine Wc.cT h928 ?_
          apply Wc.seq
          refine Wc.fx [.sh (.b 19 2)] ⟨[tV 0 (.sl (List.map GSign.c uz)), tI 1 z6, tP 4 4, tP 8 19, tP 9 9, tB 36 u9f], [bX0 4, bC 9 (GTerm.q vw.2), bC 19 (GParser.q u49)], []⟩ ?_
          refine Wc.draw hmix [] [] [4, 5, 6, 7] [4] [] ⟨[tP 4 4, tV 5 (.sl (List.map cS u49.gNames)), tI 6 (wr.i64 (u49.gAt + 1)), tB 7 true], [bC 4 (GTerm.q vw.2)], []⟩ _ (by kernel_rfl) (fun X => by kernel_rfl) .nil ?_
          cases h; exact Wc.ret dn
        · refine Wc.cF h928 ?_
          refine Wc.fx [] ⟨[tV 0 (.sl (List.map GSign.c uz)), tI 1 z6, tP 4 4], [bX0 4], []⟩ ?_
          refine Wc.skip ?_
          exact ⟨rfl, h⟩
    · refine Wc.cF h926 ?_
      refine Wc.fx [] ⟨[tV 0 (.sl (List.map GSign.c uz)), tI 1 z6, tP 4 4], [bX0 4], []⟩ ?_
      refine Wc.skip ?_
      exact ⟨rfl, h⟩
  · rintro st ⟨rfl, h⟩
    apply Wc.seq
    refine Wc.r0 ⟨[tV 0 (.sl (List.map GSign.c uz)), tP 4 4, tI 10 (if 0 > z6 then 0 else z6)], [bX0 4], []⟩ ?_
    obtain ⟨out2, h921, h⟩ := Z0 h
    refine Wc.seqJ (fun st => out2 = .done () ∧ st = ⟨[tV 0 (.sl (List.map GSign.c uz)), tP 4 4], [bX0 4], []⟩) ?_ ?_
    · refine Wc.block ?_
      refine Wc.loop (fun m st => ∃ (u39 : Int), st = ⟨[tV 0 (.sl (List.map GSign.c uz)), tP 4 4, tI 10 u39], [bX0 4], []⟩ ∧ Z58 k uz m u39 = some out2) ?_ k ⟨_, rfl, h921⟩
      rintro m st ⟨u39, rfl, h921⟩
      cases m with
      | zero => exact (Z1r h921).elim
      | succ m =>
        apply Wc.seq
        apply Wc.seq
        refine Wc.r2 [{}, {}, { v := some (aI (uz.length : Int)) }] ⟨[tV 0 (.sl (List.map GSign.c uz)), tP 4 4, tI 10 u39, tB 52 (decide (u39 < (uz.length : Int)))], [bX0 4], []⟩ (.cons (Zn GSign.c uz) .nil) ?_
        rcases oif h921 with ⟨h922, h921⟩ | ⟨h922, h921⟩
        · refine Wc.cT h922 ?_
          refine Wc.fx [] ⟨[tV 0 (.sl (List.map GSign.c uz)), tP 4 4, tI 10 u39], [bX0 4], []⟩ ?_
          refine Wc.skip ?_
          refine Wc.block ?_
          apply Wc.seq
          refine Wc.r0 ⟨[tV 0 (.sl (List.map GSign.c uz)), tP 4 4, tI 10 (wr.i64 (u39 + 1))], [bX0 4], []⟩ ?_
          apply Wc.seq
          obtain ⟨u9e, h923, h921⟩ := Z0 h921
          refine Wc.r2 [{}, {}, {}, { v := some (.vptr (GSign.q u9e)) }] ⟨[tV 0 (.sl (List.map GSign.c uz)), tP 4 4, tI 10 (wr.i64 (u39 + 1)), tB 61 (u9e.gKind == 5)], [bX0 4], []⟩ (.cons (Z19 (c := GSign.c) (GSign.c_eq u9e) GSign.c_len h923) (.cons (Z18 1 (GSign.q u9e)) .nil)) ?_
          rcases oif h921 with ⟨h924, h921⟩ | ⟨h924, h921⟩
          · refine Wc.cT h924 ?_
            apply Wc.seq
            refine Wc.r1 [{}, {}, { tk := [62] }] ⟨[tP 4 4, (5, (.v (.sl (List.map cS [])), [(0, .app 9)])), tI 6 (wr.i64 (u39 + 1)), tB 7 false], [bX0 4], []⟩ ?_
            refine Wc.fx [.un (.b 4 3), .un (.t 5 0)] ⟨[tP 4 4, tV 5 (.sl (List.map cS [])), tI 6 (wr.i64 (u39 + 1)), tB 7 false], [bC 4 GTerm.z], []⟩ ?_
            refine Wc.ret ?_
            cases h921
            cases h
            exact ⟨.inl rfl, by kernel_rfl, by kernel_rfl⟩
          · refine Wc.cF h924 ?_
            refine Wc.fx [] ⟨[tV 0 (.sl (List.map GSign.c uz)), tP 4 4, tI 10 (wr.i64 (u39 + 1))], [bX0 4], []⟩ ?_
            refine Wc.skip ?_
            exact ⟨_, Nat.lt_succ_self _, _, rfl, h921⟩
        · refine Wc.cF h922 ?_
          refine Wc.fx [] ⟨[tV 0 (.sl (List.map GSign.c uz)), tP 4 4], [bX0 4], []⟩ ?_
          refine Wc.exit ?_
          cases h921
          exact ⟨rfl, rfl⟩
    · rintro st ⟨rfl, rfl⟩
      apply Wc.seq
      refine Wc.r2 [{}, {}, { v := some (aI (uz.length : Int)) }, { tk := [64] }] ⟨[tP 4 4, (5, (.v (.sl (List.map cS [])), [(0, .app 9)])), tI 6 (uz.length : Int), tB 7 false], [bX0 4], []⟩ (.cons (Zn GSign.c uz) .nil) ?_
      refine Wc.fx [.un (.b 4 3), .un (.t 5 0)] ⟨[tP 4 4, tV 5 (.sl (List.map cS [])), tI 6 (uz.length : Int), tB 7 false], [bC 4 GTerm.z], []⟩ ?_
      cases h; exact Wc.ret dn

def Z8c (k : Nat) (ucs : ByteArray) : Option (GTerm × (List ByteArray) × Bool) :=
  (Z65 k ucs).bind fun u3m =>
  if (!u3m.2) = true then
    some (GTerm.mk 0 (bs []) 0 [], [], false)
  else
    (Z7f k u3m.1 0).bind fun u1b =>
    if (!u1b.2.2.2) = true then
      some (GTerm.mk 0 (bs []) 0 [], [], false)
    else
      if (u1b.2.2.1 != (u3m.1.length : Int)) = true then
        some (GTerm.mk 0 (bs []) 0 [], [], false)
      else
        some (u1b.1, u1b.2.1, true)
theorem Zmj {k : Nat} {ucs : ByteArray} {r : GTerm × (List ByteArray) × Bool} (h : Z8c k ucs = some r) : FnO Tryz.prog 16 [.v (.str ucs) []] (.v (.tup [.agg (GTerm.q r.1), .sl (List.map cS r.2.1), .bool r.2.2]) []) [] := by
  refine FnO.o2 Tryz.func16 (rfl : Tryz.f16.body = some _) ?_
  intro w0 X0 Fin pv0 pb gt
  unfold Z8c at h
  apply Wc.seq
  refine Wc.r0 ⟨[tS 0 ucs, tP 2 2], [bX0 2], []⟩ ?_
  apply Wc.seq
  obtain ⟨u3m, h938, h⟩ := Z0 h
  refine Wc.r2 [{}, { r := some (.v (.tup [.sl (List.map GSign.c u3m.1), .bool u3m.2]) [(0, .app 55)]) }, { tk := [12] }, { tk := [10] }, {}, { tk := [13] }] ⟨[tP 2 2, (5, (.v (.sl (List.map GSign.c u3m.1)), [(0, .app 55)])), tB 6 u3m.2], [bX0 2], []⟩ (.cons (Zhr h938) .nil) ?_
  apply Wc.seq
  apply Wc.seq
  refine Wc.r0 ⟨[tP 2 2, (5, (.v (.sl (List.map GSign.c u3m.1)), [(0, .app 55)])), tB 16 (!u3m.2)], [bX0 2], []⟩ ?_
  rcases oif h with ⟨h939, h⟩ | ⟨h939, h⟩
  · refine Wc.cT h939 ?_
    apply Wc.seq
    refine Wc.r1 [{}, { tk := [17] }] ⟨[tP 2 2, (3, (.v (.sl (List.map cS [])), [(0, .app 9)])), tB 4 false], [bX0 2], []⟩ ?_
    refine Wc.fx [.un (.b 2 3), .un (.t 3 0)] ⟨[tP 2 2, tV 3 (.sl (List.map cS [])), tB 4 false], [bC 2 GTerm.z], []⟩ ?_
    cases h; exact Wc.ret dn
  · refine Wc.cF h939 ?_
    refine Wc.fx [] ⟨[tP 2 2, (5, (.v (.sl (List.map GSign.c u3m.1)), [(0, .app 55)]))], [bX0 2], []⟩ ?_
    refine Wc.skip ?_
    apply Wc.seq
    obtain ⟨u1b, h940, h⟩ := Z0 h
    refine Wc.r2 [{}, { r := some (.v (.tup [.agg (GTerm.q u1b.1), .sl (List.map cS u1b.2.1), aI u1b.2.2.1, .bool u1b.2.2.2]) []) }] ⟨[tP 2 2, (5, (.v (.sl (List.map GSign.c u3m.1)), [(0, .app 55)])), tB 6 u1b.2.2.2, tP 7 7, tV 8 (.sl (List.map cS u1b.2.1)), tI 9 u1b.2.2.1], [bX0 2, bC 7 (GTerm.q u1b.1)], []⟩ (.cons (Zkw h940) .nil) ?_
    apply Wc.seq
    apply Wc.seq
    rcases oif h with ⟨h941, h⟩ | ⟨h941, h⟩
    · refine Wc.r2 [{}, {}, rT] ⟨[tP 2 2, tP 7 7, tV 8 (.sl (List.map cS u1b.2.1)), tB 32 true], [bX0 2, bC 7 (GTerm.q u1b.1)], []⟩ (cb h941 .nil) ?_
      refine Wc.cT rfl ?_
      apply Wc.seq
      refine Wc.r1 [{}, { tk := [33] }] ⟨[tP 2 2, (3, (.v (.sl (List.map cS [])), [(0, .app 9)])), tB 4 false], [bX0 2], []⟩ ?_
      refine Wc.fx [.un (.b 2 3), .un (.t 3 0)] ⟨[tP 2 2, tV 3 (.sl (List.map cS [])), tB 4 false], [bC 2 GTerm.z], []⟩ ?_
      cases h; exact Wc.ret dn
    · refine Wc.r2 [{}, {}, rF, {}, { tk := [5] }, { v := some (aI (u3m.1.length : Int)) }] ⟨[tP 2 2, tP 7 7, tV 8 (.sl (List.map cS u1b.2.1)), tB 32 (u1b.2.2.1 != (u3m.1.length : Int))], [bX0 2, bC 7 (GTerm.q u1b.1)], []⟩ (cb h941 (.cons (Zn GSign.c u3m.1) .nil)) ?_
      rcases oif h with ⟨h942, h⟩ | ⟨h942, h⟩
      · refine Wc.cT h942 ?_
        apply Wc.seq
        refine Wc.r1 [{}, { tk := [33] }] ⟨[tP 2 2, (3, (.v (.sl (List.map cS [])), [(0, .app 9)])), tB 4 false], [bX0 2], []⟩ ?_
        refine Wc.fx [.un (.b 2 3), .un (.t 3 0)] ⟨[tP 2 2, tV 3 (.sl (List.map cS [])), tB 4 false], [bC 2 GTerm.z], []⟩ ?_
        cases h; exact Wc.ret dn
      · refine Wc.cF h942 ?_
        refine Wc.fx [] ⟨[tP 2 2, tP 7 7, tV 8 (.sl (List.map cS u1b.2.1))], [bX0 2, bC 7 (GTerm.q u1b.1)], []⟩ ?_
        refine Wc.skip ?_
        apply Wc.seq
        refine Wc.r0 ⟨[tP 2 2, tV 3 (.sl (List.map cS u1b.2.1)), tB 4 true], [bC 2 (GTerm.q u1b.1)], []⟩ ?_
        cases h; exact Wc.ret dn

def Z7x (k : Nat) (n : Int) : Option ByteArray :=
  if -9223372036854775808 ≤ n ∧ n ≤ 9223372036854775807 then some ⟨(Lib.itoa n).toArray⟩ else none
theorem Zj4 {k : Nat} {n : Int} {r : ByteArray} (h : Z7x k n = some r) : FnO Tryz.prog 111 [.v (aI n) []] (.v (.str r) []) [] := Zvn Tryz.strconv_Itoa Zuo h

def Z67 (k : Nat) (uct : Int) : Option ByteArray :=
  (Z7x k uct).bind fun ufa =>
  some ufa
theorem Zhs {k : Nat} {uct : Int} {r : ByteArray} (h : Z67 k uct = some r) : FnO Tryz.prog 87 [.v (aI uct) []] (.v (.str r) []) [] := by
  refine FnO.o2 Tryz.func87 (rfl : Tryz.f87.body = some _) ?_
  intro w0 X0 Fin pv0 pb gt
  unfold Z67 at h
  apply Wc.seq
  refine Wc.r0 ⟨[tI 0 uct], [], []⟩ ?_
  apply Wc.seq
  obtain ⟨ufa, h943, h⟩ := Z0 h
  refine Wc.r2 [{}, { r := some (.v (.str ufa) []) }] ⟨[tS 2 ufa], [], []⟩ (.cons (Zj4 h943) .nil) ?_
  cases h; exact Wc.ret dn

def Z88 (k : Nat) (u7v : GTerm) (u9g : ByteArray) : Option Bool :=
  if (u7v.gKind == 2) = true then
    some (sEq u7v.gName u9g)
  else
    some false
theorem Zkq {k : Nat} {u7v : GTerm} {u9g : ByteArray} {r : Bool} (h : Z88 k u7v u9g = some r) : FnO Tryz.prog 88 [.v (.agg (GTerm.q u7v)) [], .v (.str u9g) []] (.v (.bool r) []) [] := by
  refine FnO.o2 Tryz.func88 (rfl : Tryz.f88.body = some _) ?_
  intro w0 X0 Fin pv0 pb gt
  unfold Z88 at h
  apply Wc.seq
  refine Wc.r0 ⟨[tS 1 u9g, tP 2 2], [bC 2 (GTerm.q u7v)], []⟩ ?_
  apply Wc.seq
  rcases oif h with ⟨h944, h⟩ | ⟨h944, h⟩
  · refine Wc.r2 [{}, {}, {}, rT] ⟨[tB 4 (sEq u7v.gName u9g)], [], []⟩ (cb h944 .nil) ?_
    cases h; exact Wc.ret dn
  · refine Wc.r2 [{}, {}, {}, rF] ⟨[tB 4 false], [], []⟩ (cb h944 .nil) ?_
    cases h; exact Wc.ret dn

def Zig (k : Nat) (u7w : ByteArray) : Option Bool :=
  (Z66 k u7w).bind fun u9h =>
  (Z6y k u7w).bind fun u9i =>
  if u9h.2 = true then
    some true
  else
    some u9i.2
theorem Zub {k : Nat} {u7w : ByteArray} {r : Bool} (h : Zig k u7w = some r) : FnO Tryz.prog 89 [.v (.str u7w) []] (.v (.bool r) []) [] := by
  refine FnO.o2 Tryz.func89 (rfl : Tryz.f89.body = some _) ?_
  intro w0 X0 Fin pv0 pb gt
  unfold Zig at h
  apply Wc.seq
  refine Wc.r0 ⟨[tS 0 u7w], [], []⟩ ?_
  apply Wc.seq
  obtain ⟨u9h, h945, h⟩ := Z0 h
  refine Wc.r2 [{}, { r := some (.v (.tup [.agg (GOp.q u9h.1), .bool u9h.2]) []) }] ⟨[tS 0 u7w, tB 4 u9h.2], [], []⟩ (.cons (Zbh h945) .nil) ?_
  apply Wc.seq
  obtain ⟨u9i, h946, h⟩ := Z0 h
  refine Wc.r2 [{}, { r := some (.v (.tup [.agg (GOp.q u9i.1), .bool u9i.2]) []) }] ⟨[tB 4 u9h.2, tB 6 u9i.2], [], []⟩ (.cons (Zgh h946) .nil) ?_
  apply Wc.seq
  rcases oif h with ⟨h947, h⟩ | ⟨h947, h⟩
  · refine Wc.r2 [{}, rT] ⟨[tB 2 true], [], []⟩ (cb h947 .nil) ?_
    cases h; exact Wc.ret dn
  · refine Wc.r2 [{}, rF] ⟨[tB 2 u9i.2], [], []⟩ (cb h947 .nil) ?_
    cases h; exact Wc.ret dn

def Z3c (k : Nat) (vx : ByteArray) : Option ByteArray :=
  (Z65 k vx).bind fun u3n =>
  if u3n.2 = true then
    if ((u3n.1.length : Int) == 1) = true then
      (at' u3n.1 0).bind fun u6x =>
      if (u6x.gKind == 1) = true then
        (at' u3n.1 0).bind fun u6f =>
        if (sEq u6f.gText vx) = true then
          some vx
        else
          if Z11 (bs [39]) vx then
            if Z11 ((bs [39]) ++ vx) (bs [39]) then
              some (((bs [39]) ++ vx) ++ (bs [39]))
            else none
          else none
      else
        if Z11 (bs [39]) vx then
          if Z11 ((bs [39]) ++ vx) (bs [39]) then
            some (((bs [39]) ++ vx) ++ (bs [39]))
          else none
        else none
    else
      if Z11 (bs [39]) vx then
        if Z11 ((bs [39]) ++ vx) (bs [39]) then
          some (((bs [39]) ++ vx) ++ (bs [39]))
        else none
      else none
  else
    if Z11 (bs [39]) vx then
      if Z11 ((bs [39]) ++ vx) (bs [39]) then
        some (((bs [39]) ++ vx) ++ (bs [39]))
      else none
    else none
theorem Za9 {k : Nat} {vx : ByteArray} {r : ByteArray} (h : Z3c k vx = some r) : FnO Tryz.prog 90 [.v (.str vx) []] (.v (.str r) []) [] := by
  refine FnO.o2 Tryz.func90 (rfl : Tryz.f90.body = some _) ?_
  intro w0 X0 Fin pv0 pb gt
  unfold Z3c at h
  apply Wc.seq
  refine Wc.r0 ⟨[tS 0 vx], [], []⟩ ?_
  apply Wc.seq
  obtain ⟨u3n, h948, h⟩ := Z0 h
  refine Wc.r2 [{}, { r := some (.v (.tup [.sl (List.map GSign.c u3n.1), .bool u3n.2]) [(0, .app 55)]) }, { tk := [7] }, { tk := [5] }, {}, { tk := [8] }] ⟨[tS 0 vx, (3, (.v (.sl (List.map GSign.c u3n.1)), [(0, .app 55)])), tB 4 u3n.2], [], []⟩ (.cons (Zhr h948) .nil) ?_
  apply Wc.seq
  apply Wc.seq
  rcases oif h with ⟨h949, h⟩ | ⟨h949, h⟩
  · rcases oif h with ⟨h950, h⟩ | ⟨h950, h⟩
    · obtain ⟨u6x, h951, h⟩ := Z0 h
      rcases oif h with ⟨h952, h⟩ | ⟨h952, h⟩
      · obtain ⟨u6f, h953, h⟩ := Z0 h
        refine Wc.r2 [{}, rT, {}, { v := some (aI (u3n.1.length : Int)) }, {}, {}, rT, {}, { v := some (.vptr (GSign.q u6x)) }, {}, {}, {}, {}, rT, { tk := [3] }, { v := some (.vptr (GSign.q u6f)) }] ⟨[tS 0 vx, tB 30 (sEq u6f.gText vx)], [], []⟩ (cb h949 (.cons (Zn GSign.c u3n.1) (cb h950 (.cons (Z19 (c := GSign.c) (GSign.c_eq u6x) GSign.c_len h951) (.cons (Z18 1 (GSign.q u6x)) (cb h952 (.cons (Z19 (c := GSign.c) (GSign.c_eq u6f) GSign.c_len h953) (.cons (Z18 1 [.str u6f.gText, aI u6f.gNum, aI u6f.gAt, .bool u6f.gNear]) .nil)))))))) ?_
        rcases oif h with ⟨h954, h⟩ | ⟨h954, h⟩
        · refine Wc.cT h954 ?_
          apply Wc.seq
          refine Wc.r0 ⟨[tS 2 vx], [], []⟩ ?_
          cases h; exact Wc.ret dn
        · refine Wc.cF h954 ?_
          refine Wc.fx [] ⟨[tS 0 vx], [], []⟩ ?_
          refine Wc.skip ?_
          apply Wc.seq
          obtain ⟨h955, h⟩ := Zg h
          obtain ⟨h956, h⟩ := Zg h
          refine Wc.r2 [] ⟨[tS 2 (((bs [39]) ++ vx) ++ (bs [39]))], [], []⟩ (.cons h955 (.cons h956 .nil)) ?_
          cases h; exact Wc.ret dn
      · refine Wc.r2 [{}, rT, {}, { v := some (aI (u3n.1.length : Int)) }, {}, {}, rT, {}, { v := some (.vptr (GSign.q u6x)) }, {}, {}, {}, {}, rF] ⟨[tS 0 vx, tB 30 false], [], []⟩ (cb h949 (.cons (Zn GSign.c u3n.1) (cb h950 (.cons (Z19 (c := GSign.c) (GSign.c_eq u6x) GSign.c_len h951) (.cons (Z18 1 (GSign.q u6x)) (cb h952 .nil)))))) ?_
        refine Wc.cF rfl ?_
        refine Wc.fx [] ⟨[tS 0 vx], [], []⟩ ?_
        refine Wc.skip ?_
        apply Wc.seq
        obtain ⟨h957, h⟩ := Zg h
        obtain ⟨h958, h⟩ := Zg h
        refine Wc.r2 [] ⟨[tS 2 (((bs [39]) ++ vx) ++ (bs [39]))], [], []⟩ (.cons h957 (.cons h958 .nil)) ?_
        cases h; exact Wc.ret dn
    · refine Wc.r2 [{}, rT, {}, { v := some (aI (u3n.1.length : Int)) }, {}, {}, rF] ⟨[tS 0 vx, tB 30 false], [], []⟩ (cb h949 (.cons (Zn GSign.c u3n.1) (cb h950 .nil))) ?_
      refine Wc.cF rfl ?_
      refine Wc.fx [] ⟨[tS 0 vx], [], []⟩ ?_
      refine Wc.skip ?_
      apply Wc.seq
      obtain ⟨h959, h⟩ := Zg h
      obtain ⟨h960, h⟩ := Zg h
      refine Wc.r2 [] ⟨[tS 2 (((bs [39]) ++ vx) ++ (bs [39]))], [], []⟩ (.cons h959 (.cons h960 .nil)) ?_
      cases h; exact Wc.ret dn
  · refine Wc.r2 [{}, rF] ⟨[tS 0 vx, tB 30 false], [], []⟩ (cb h949 .nil) ?_
    refine Wc.cF rfl ?_
    refine Wc.fx [] ⟨[tS 0 vx], [], []⟩ ?_
    refine Wc.skip ?_
    apply Wc.seq
    obtain ⟨h961, h⟩ := Zg h
    obtain ⟨h962, h⟩ := Zg h
    refine Wc.r2 [] ⟨[tS 2 (((bs [39]) ++ vx) ++ (bs [39]))], [], []⟩ (.cons h961 (.cons h962 .nil)) ?_
    cases h; exact Wc.ret dn

def Z9w (k : Nat) (u5p : GTerm) (ucu : ByteArray) (u9j : Int) : Option Bool :=
  if (u5p.gKind == 4) = true then
    if (sEq u5p.gName ucu) = true then
      some ((u5p.gKids.length : Int) == u9j)
    else
      some false
  else
    some false
theorem Zmg {k : Nat} {u5p : GTerm} {ucu : ByteArray} {u9j : Int} {r : Bool} (h : Z9w k u5p ucu u9j = some r) : FnO Tryz.prog 112 [.v (.agg (GTerm.q u5p)) [], .v (.str ucu) [], .v (aI u9j) []] (.v (.bool r) []) [] := by
  refine FnO.o2 Tryz.func112 (rfl : Tryz.f112.body = some _) ?_
  intro w0 X0 Fin pv0 pb gt
  unfold Z9w at h
  apply Wc.seq
  refine Wc.r0 ⟨[tS 1 ucu, tI 2 u9j, tP 3 3], [bC 3 (GTerm.q u5p)], []⟩ ?_
  apply Wc.seq
  rcases oif h with ⟨h963, h⟩ | ⟨h963, h⟩
  · rcases oif h with ⟨h964, h⟩ | ⟨h964, h⟩
    · refine Wc.r2 [{}, {}, {}, rT, {}, {}, {}, {}, {}, rT, {}, {}, { v := some (aI (u5p.gKids.length : Int)) }] ⟨[tB 6 ((u5p.gKids.length : Int) == u9j)], [], []⟩ (cb h963 (cb h964 (.cons (Zn GTerm.c u5p.gKids) .nil))) ?_
      cases h; exact Wc.ret dn
    · refine Wc.r2 [{}, {}, {}, rT, {}, {}, {}, {}, {}, rF] ⟨[tB 6 false], [], []⟩ (cb h963 (cb h964 .nil)) ?_
      cases h; exact Wc.ret dn
  · refine Wc.r2 [{}, {}, {}, rF] ⟨[tB 6 false], [], []⟩ (cb h963 .nil) ?_
    cases h; exact Wc.ret dn

def Z9c (k : Nat) (ucv : GTerm) : Option Bool :=
  (Z9w k ucv (bs [46]) 2).bind fun ufb =>
  some ufb
theorem Zkp {k : Nat} {ucv : GTerm} {r : Bool} (h : Z9c k ucv = some r) : FnO Tryz.prog 91 [.v (.agg (GTerm.q ucv)) []] (.v (.bool r) []) [] := by
  refine FnO.o2 Tryz.func91 (rfl : Tryz.f91.body = some _) ?_
  intro w0 X0 Fin pv0 pb gt
  unfold Z9c at h
  apply Wc.seq
  refine Wc.r0 ⟨[tP 1 1], [bC 1 (GTerm.q ucv)], []⟩ ?_
  apply Wc.seq
  obtain ⟨ufb, h965, h⟩ := Z0 h
  refine Wc.r2 [{}, { r := some (.v (.bool ufb) []) }] ⟨[tB 2 ufb], [], []⟩ (.cons (Zmg h965) .nil) ?_
  cases h; exact Wc.ret dn

def Zb9 (k : Nat) (u5b : GTerm) : Option Bool :=
  (Z66 k u5b.gName).bind fun ucw =>
  if ucw.2 = true then
    if (u5b.gKind == 4) = true then
      some ((u5b.gKids.length : Int) == 2)
    else
      some false
  else
    some false
theorem Zof {k : Nat} {u5b : GTerm} {r : Bool} (h : Zb9 k u5b = some r) : FnO Tryz.prog 92 [.v (.agg (GTerm.q u5b)) []] (.v (.bool r) []) [] := by
  refine FnO.o2 Tryz.func92 (rfl : Tryz.f92.body = some _) ?_
  intro w0 X0 Fin pv0 pb gt
  unfold Zb9 at h
  apply Wc.seq
  refine Wc.r0 ⟨[tP 1 1], [bC 1 (GTerm.q u5b)], []⟩ ?_
  apply Wc.seq
  obtain ⟨ucw, h966, h⟩ := Z0 h
  refine Wc.r2 [{}, {}, { r := some (.v (.tup [.agg (GOp.q ucw.1), .bool ucw.2]) []) }] ⟨[tP 1 1, tB 4 ucw.2], [bC 1 (GTerm.q u5b)], []⟩ (.cons (Zbh h966) .nil) ?_
  apply Wc.seq
  rcases oif h with ⟨h967, h⟩ | ⟨h967, h⟩
  · rcases oif h with ⟨h968, h⟩ | ⟨h968, h⟩
    · refine Wc.r2 [{}, rT, {}, {}, {}, {}, rT, {}, {}, { v := some (aI (u5b.gKids.length : Int)) }] ⟨[tB 2 ((u5b.gKids.length : Int) == 2)], [], []⟩ (cb h967 (cb h968 (.cons (Zn GTerm.c u5b.gKids) .nil))) ?_
      cases h; exact Wc.ret dn
    · refine Wc.r2 [{}, rT, {}, {}, {}, {}, rF] ⟨[tB 2 false], [], []⟩ (cb h967 (cb h968 .nil)) ?_
      cases h; exact Wc.ret dn
  · refine Wc.r2 [{}, rF] ⟨[tB 2 false], [], []⟩ (cb h967 .nil) ?_
    cases h; exact Wc.ret dn

def Z7w (k : Nat) (l : List ByteArray) (s : ByteArray) : Option ByteArray :=
  if l.length ≤ 1073741824 ∧ (Z5w l s).size ≤ 1073741824 then some (Z5w l s) else none
theorem Zj3 {k : Nat} {l : List ByteArray} {s r : ByteArray} (h : Z7w k l s = some r) : FnO Tryz.prog 93 [.v (.sl (List.map cS l)) [], .v (.str s) []] (.v (.str r) []) [] := Zvm Tryz.strings_Join_none Tryz.strings_Join h

def Z6x (k : Nat) (u5c : ByteArray) : Option ByteArray :=
  if (sEq u5c (bs [44])) = true then
    some u5c
  else
    (Z3c k u5c).bind fun ufc =>
    some ufc
theorem Zme {k : Nat} {u5c : ByteArray} {r : ByteArray} (h : Z6x k u5c = some r) : FnO Tryz.prog 59 [.v (.str u5c) []] (.v (.str r) []) [] := by
  refine FnO.o2 Tryz.func59 (rfl : Tryz.f59.body = some _) ?_
  intro w0 X0 Fin pv0 pb gt
  unfold Z6x at h
  apply Wc.seq
  refine Wc.r0 ⟨[tS 0 u5c], [], []⟩ ?_
  apply Wc.seq
  apply Wc.seq
  refine Wc.r0 ⟨[tS 0 u5c, tB 4 (sEq u5c (bs [44]))], [], []⟩ ?_
  rcases oif h with ⟨h969, h⟩ | ⟨h969, h⟩
  · refine Wc.cT h969 ?_
    apply Wc.seq
    refine Wc.r0 ⟨[tS 2 u5c], [], []⟩ ?_
    cases h; exact Wc.ret dn
  · refine Wc.cF h969 ?_
    refine Wc.fx [] ⟨[tS 0 u5c], [], []⟩ ?_
    refine Wc.skip ?_
    apply Wc.seq
    obtain ⟨ufc, h970, h⟩ := Z0 h
    refine Wc.r2 [{}, { r := some (.v (.str ufc) []) }] ⟨[tS 2 ufc], [], []⟩ (.cons (Za9 h970) .nil) ?_
    cases h; exact Wc.ret dn

def Zt (k : Nat) (Z1p : GTerm → Option ByteArray) (Z1f : GTerm → Option ByteArray) : Nat → ByteArray → GTerm → Option (Out ByteArray (ByteArray × GTerm))
  | 0, _, _ => none
  | m + 1, u4v, u4w =>
    (Z9c k u4w).bind fun ufd =>
    if ufd = true then
      (at' u4w.gKids 0).bind fun u4x =>
      (Z1p u4x).bind fun u1t =>
      if Z11 (bs [44]) u1t then
        if Z11 u4v ((bs [44]) ++ u1t) then
          (at' u4w.gKids 1).bind fun up =>
          Zt k Z1p Z1f m (u4v ++ ((bs [44]) ++ u1t)) up
        else none
      else none
    else
      some (.done (u4v, u4w))
def Zs (k : Nat) (Z1p : GTerm → Option ByteArray) (Z1f : GTerm → Option ByteArray) (uh : GTerm) : Nat → (List ByteArray) → Int → Option (Out ByteArray (List ByteArray))
  | 0, _, _ => none
  | m + 1, u3a, u4a =>
    if (decide (u4a < (uh.gKids.length : Int))) = true then
      (at' uh.gKids u4a).bind fun u9k =>
      (Z1p u9k).bind fun u4y =>
      if u3a.length + [u4y].length ≤ 1073741824 then
        Zs k Z1p Z1f uh m (u3a ++ [u4y]) (wr.i64 (u4a + 1))
      else none
    else
      some (.done u3a)
def Zu (k : Nat) (Z1p : GTerm → Option ByteArray) (Z1f : GTerm → Option ByteArray) (uh : GTerm) (ucx : Bool) : Option ByteArray :=
  if ucx = true then
    (Z3c k uh.gName).bind fun u9l =>
    if Z11 (bs [40]) u9l then
      if Z11 ((bs [40]) ++ u9l) (bs [41]) then
        some (((bs [40]) ++ u9l) ++ (bs [41]))
      else none
    else none
  else
    if (uh.gKind == 2) = true then
      (Z3c k uh.gName).bind fun ufe =>
      some ufe
    else
      (Z9c k uh).bind fun uff =>
      if uff = true then
        (at' uh.gKids 0).bind fun u4z =>
        (Z1p u4z).bind fun u9m =>
        if Z11 (bs [91]) u9m then
          (at' uh.gKids 1).bind fun u9n =>
          (Zt k Z1p Z1f k ((bs [91]) ++ u9m) u9n).bind fun out2 => match out2 with
          | .ret r => some r
          | .done (u3x, u7x) =>
            (Z88 k u7x (bs [91, 93])).bind fun ufg =>
            if (!ufg) = true then
              (Z1p u7x).bind fun u6y =>
              if Z11 (bs [124]) u6y then
                if Z11 u3x ((bs [124]) ++ u6y) then
                  if Z11 (u3x ++ ((bs [124]) ++ u6y)) (bs [93]) then
                    some ((u3x ++ ((bs [124]) ++ u6y)) ++ (bs [93]))
                  else none
                else none
              else none
            else
              if Z11 u3x (bs [93]) then
                some (u3x ++ (bs [93]))
              else none
        else none
      else
        (Zb9 k uh).bind fun ufh =>
        if ufh = true then
          (Z1f uh).bind fun ufi =>
          some ufi
        else
          (Zs k Z1p Z1f uh k [] 0).bind fun out3 => match out3 with
          | .ret r => some r
          | .done ucy =>
            (Z3c k uh.gName).bind fun u7y =>
            if Z11 u7y (bs [40]) then
              (Z7w k ucy (bs [44])).bind fun u9o =>
              if Z11 (u7y ++ (bs [40])) u9o then
                if Z11 ((u7y ++ (bs [40])) ++ u9o) (bs [41]) then
                  some (((u7y ++ (bs [40])) ++ u9o) ++ (bs [41]))
                else none
              else none
            else none
def Z1d (k : Nat) (Z1p : GTerm → Option ByteArray) (Z1f : GTerm → Option ByteArray) (uh : GTerm) : Option ByteArray :=
  if (uh.gKind == 1) = true then
    (Z67 k uh.gNum).bind fun u28 =>
    if Z11 (bs [95]) u28 then
      some ((bs [95]) ++ u28)
    else none
  else
    if (uh.gKind == 3) = true then
      (Z67 k uh.gNum).bind fun ufj =>
      some ufj
    else
      (Z88 k uh (bs [91, 93])).bind fun ufk =>
      if ufk = true then
        some (bs [91, 93])
      else
        if (uh.gKind == 2) = true then
          (Zig k uh.gName).bind fun ufl =>
          Zu k Z1p Z1f uh ufl
        else
          Zu k Z1p Z1f uh false
set_option maxHeartbeats 4000000 in
theorem Z55 {k : Nat} {Z1p : GTerm → Option ByteArray} {Z1f : GTerm → Option ByteArray} (Z5h : ∀ {y0 : GTerm} {r : ByteArray}, Z1p y0 = some r → FnO Tryz.prog 30 [.v (.agg (GTerm.q y0)) []] (.v (.str r) []) []) (Za4 : ∀ {y0 : GTerm} {r : ByteArray}, Z1f y0 = some r → FnO Tryz.prog 58 [.v (.agg (GTerm.q y0)) []] (.v (.str r) []) []) {uh : GTerm} {r : ByteArray} (h : Z1d k Z1p Z1f uh = some r) : FnO Tryz.prog 57 [.v (.agg (GTerm.q uh)) [], .v (.func 30 []) [], .v (.func 58 []) []] (.v (.str r) []) [] := by
  refine FnO.o2 Tryz.func57 (rfl : Tryz.f57.body = some _) ?_
  intro w0 X0 Fin pv0 pb gt
  unfold Z1d at h
  apply Wc.seq
  refine Wc.r0 ⟨[tV 1 (.func 30 []), tV 2 (.func 58 []), tP 3 3], [bC 3 (GTerm.q uh)], []⟩ ?_
  apply Wc.seq
  refine Wc.block ?_
  apply Wc.seq
  refine Wc.r0 ⟨[tV 1 (.func 30 []), tV 2 (.func 58 []), tP 3 3, tB 12 (uh.gKind == 1)], [bC 3 (GTerm.q uh)], []⟩ ?_
  rcases oif h with ⟨h987, h⟩ | ⟨h987, h⟩
  · refine Wc.cT h987 ?_
    apply Wc.seq
    obtain ⟨u28, h988, h⟩ := Z0 h
    obtain ⟨h989, h⟩ := Zg h
    refine Wc.r2 [{}, {}, { r := some (.v (.str u28) []) }] ⟨[tS 6 ((bs [95]) ++ u28)], [], []⟩ (.cons (Zhs h988) (.cons h989 .nil)) ?_
    cases h; exact Wc.ret dn
  · refine Wc.cF h987 ?_
    apply Wc.seq
    refine Wc.r0 ⟨[tV 1 (.func 30 []), tV 2 (.func 58 []), tP 3 3, tB 20 (uh.gKind == 3)], [bC 3 (GTerm.q uh)], []⟩ ?_
    rcases oif h with ⟨h990, h⟩ | ⟨h990, h⟩
    · refine Wc.cT h990 ?_
      apply Wc.seq
      obtain ⟨ufj, h991, h⟩ := Z0 h
      refine Wc.r2 [{}, {}, { r := some (.v (.str ufj) []) }] ⟨[tS 6 ufj], [], []⟩ (.cons (Zhs h991) .nil) ?_
      cases h; exact Wc.ret dn
    · refine Wc.cF h990 ?_
      apply Wc.seq
      obtain ⟨ufk, h992, h⟩ := Z0 h
      refine Wc.r2 [{}, { r := some (.v (.bool ufk) []) }] ⟨[tV 1 (.func 30 []), tV 2 (.func 58 []), tP 3 3, tB 27 ufk], [bC 3 (GTerm.q uh)], []⟩ (.cons (Zkq h992) .nil) ?_
      rcases oif h with ⟨h993, h⟩ | ⟨h993, h⟩
      · refine Wc.cT h993 ?_
        apply Wc.seq
        refine Wc.r0 ⟨[tS 6 (bs [91, 93])], [], []⟩ ?_
        cases h; exact Wc.ret dn
      · refine Wc.cF h993 ?_
        refine Wc.seqJ (fun st => ∃ (ucx : Bool), st = ⟨[tV 1 (.func 30 []), tV 2 (.func 58 []), tP 3 3, tB 30 ucx], [bC 3 (GTerm.q uh)], []⟩ ∧ Zu k Z1p Z1f uh ucx = some r) ?_ ?_
        · rcases oif h with ⟨h1034, h⟩ | ⟨h1034, h⟩
          · obtain ⟨ufl, h1035, h⟩ := Z0 h
            refine Wc.r2 [{}, {}, {}, rT, {}, {}, { r := some (.v (.bool ufl) []) }] ⟨[tV 1 (.func 30 []), tV 2 (.func 58 []), tP 3 3, tB 30 ufl], [bC 3 (GTerm.q uh)], []⟩ (cb h1034 (.cons (Zub h1035) .nil)) ?_
            exact ⟨_, rfl, h⟩
          · refine Wc.r2 [{}, {}, {}, rF] ⟨[tV 1 (.func 30 []), tV 2 (.func 58 []), tP 3 3, tB 30 false], [bC 3 (GTerm.q uh)], []⟩ (cb h1034 .nil) ?_
            exact ⟨_, rfl, h⟩
        · rintro st ⟨ucx, rfl, h⟩
          rcases oif h with ⟨h994, h⟩ | ⟨h994, h⟩
          · refine Wc.cT h994 ?_
            apply Wc.seq
            obtain ⟨u9l, h995, h⟩ := Z0 h
            obtain ⟨h996, h⟩ := Zg h
            obtain ⟨h997, h⟩ := Zg h
            refine Wc.r2 [{}, {}, { r := some (.v (.str u9l) []) }] ⟨[tS 6 (((bs [40]) ++ u9l) ++ (bs [41]))], [], []⟩ (.cons (Za9 h995) (.cons h996 (.cons h997 .nil))) ?_
            cases h; exact Wc.ret dn
          · refine Wc.cF h994 ?_
            apply Wc.seq
            refine Wc.r0 ⟨[tV 1 (.func 30 []), tV 2 (.func 58 []), tP 3 3, tB 44 (uh.gKind == 2)], [bC 3 (GTerm.q uh)], []⟩ ?_
            rcases oif h with ⟨h998, h⟩ | ⟨h998, h⟩
            · refine Wc.cT h998 ?_
              apply Wc.seq
              obtain ⟨ufe, h999, h⟩ := Z0 h
              refine Wc.r2 [{}, {}, { r := some (.v (.str ufe) []) }] ⟨[tS 6 ufe], [], []⟩ (.cons (Za9 h999) .nil) ?_
              cases h; exact Wc.ret dn
            · refine Wc.cF h998 ?_
              apply Wc.seq
              obtain ⟨uff, h1000, h⟩ := Z0 h
              refine Wc.r2 [{}, { r := some (.v (.bool uff) []) }] ⟨[tV 1 (.func 30 []), tV 2 (.func 58 []), tP 3 3, tB 51 uff], [bC 3 (GTerm.q uh)], []⟩ (.cons (Zkp h1000) .nil) ?_
              rcases oif h with ⟨h1001, h⟩ | ⟨h1001, h⟩
              · refine Wc.cT h1001 ?_
                apply Wc.seq
                obtain ⟨u4z, h1002, h⟩ := Z0 h
                obtain ⟨u9m, h1003, h⟩ := Z0 h
                obtain ⟨h1004, h⟩ := Zg h
                refine Wc.r2 [{}, {}, {}, { v := some (.vptr (GTerm.q u4z)) }, {}, { r := some (.v (.str u9m) []) }] ⟨[tV 1 (.func 30 []), tP 3 3, tS 7 ((bs [91]) ++ u9m)], [bC 3 (GTerm.q uh)], []⟩ (.cons (Z19 (c := GTerm.c) (GTerm.c_eq u4z) GTerm.c_len h1002) (.cons (Z18 4 (GTerm.q u4z)) (.cons (Z5h h1003) (.cons h1004 .nil)))) ?_
                apply Wc.seq
                obtain ⟨u9n, h1005, h⟩ := Z0 h
                refine Wc.r2 [{}, {}, { v := some (.vptr (GTerm.q u9n)) }] ⟨[tV 1 (.func 30 []), tS 7 ((bs [91]) ++ u9m), tP 8 8], [bC 8 (GTerm.q u9n)], []⟩ (.cons (Z19 (c := GTerm.c) (GTerm.c_eq u9n) GTerm.c_len h1005) (.cons (Z18 4 (GTerm.q u9n)) .nil)) ?_
                obtain ⟨out2, h1006, h⟩ := Z0 h
                refine Wc.seqJ (fun st => ∃ (u3x : ByteArray) (u7x : GTerm), out2 = .done (u3x, u7x) ∧ st = ⟨[tV 1 (.func 30 []), tS 7 u3x, tP 8 8], [bC 8 (GTerm.q u7x)], []⟩) ?_ ?_
                · refine Wc.block ?_
                  refine Wc.loop (fun m st => ∃ (u4v : ByteArray) (u4w : GTerm), st = ⟨[tV 1 (.func 30 []), tS 7 u4v, tP 8 8], [bC 8 (GTerm.q u4w)], []⟩ ∧ Zt k Z1p Z1f m u4v u4w = some out2) ?_ k ⟨_, _, rfl, h1006⟩
                  rintro m st ⟨u4v, u4w, rfl, h1006⟩
                  cases m with
                  | zero => exact (Z1r h1006).elim
                  | succ m =>
                    apply Wc.seq
                    apply Wc.seq
                    obtain ⟨ufd, h1007, h1006⟩ := Z0 h1006
                    refine Wc.r2 [{}, { r := some (.v (.bool ufd) []) }] ⟨[tV 1 (.func 30 []), tS 7 u4v, tP 8 8, tB 66 ufd], [bC 8 (GTerm.q u4w)], []⟩ (.cons (Zkp h1007) .nil) ?_
                    rcases oif h1006 with ⟨h1008, h1006⟩ | ⟨h1008, h1006⟩
                    · refine Wc.cT h1008 ?_
                      refine Wc.fx [] ⟨[tV 1 (.func 30 []), tS 7 u4v, tP 8 8], [bC 8 (GTerm.q u4w)], []⟩ ?_
                      refine Wc.skip ?_
                      apply Wc.seq
                      refine Wc.block ?_
                      obtain ⟨u4x, h1009, h1006⟩ := Z0 h1006
                      obtain ⟨u1t, h1010, h1006⟩ := Z0 h1006
                      obtain ⟨h1011, h1006⟩ := Zg h1006
                      obtain ⟨h1012, h1006⟩ := Zg h1006
                      refine Wc.r2 [{}, {}, {}, {}, { v := some (.vptr (GTerm.q u4x)) }, {}, { r := some (.v (.str u1t) []) }] ⟨[tV 1 (.func 30 []), tS 7 (u4v ++ ((bs [44]) ++ u1t)), tP 8 8], [bC 8 (GTerm.q u4w)], []⟩ (.cons (Z19 (c := GTerm.c) (GTerm.c_eq u4x) GTerm.c_len h1009) (.cons (Z18 4 (GTerm.q u4x)) (.cons (Z5h h1010) (.cons h1011 (.cons h1012 .nil))))) ?_
                      obtain ⟨up, h1013, h1006⟩ := Z0 h1006
                      refine Wc.r2 [{}, {}, { v := some (.vptr (GTerm.q up)) }] ⟨[tV 1 (.func 30 []), tS 7 (u4v ++ ((bs [44]) ++ u1t)), tP 8 8], [bC 8 (GTerm.q up)], []⟩ (.cons (Z19 (c := GTerm.c) (GTerm.c_eq up) GTerm.c_len h1013) (.cons (Z18 4 (GTerm.q up)) .nil)) ?_
                      exact ⟨_, Nat.lt_succ_self _, _, _, rfl, h1006⟩
                    · refine Wc.cF h1008 ?_
                      refine Wc.fx [] ⟨[tV 1 (.func 30 []), tS 7 u4v, tP 8 8], [bC 8 (GTerm.q u4w)], []⟩ ?_
                      refine Wc.exit ?_
                      cases h1006
                      exact ⟨_, _, rfl, rfl⟩
                · rintro st ⟨u3x, u7x, rfl, rfl⟩
                  apply Wc.seq
                  apply Wc.seq
                  obtain ⟨ufg, h1014, h⟩ := Z0 h
                  refine Wc.r2 [{}, { r := some (.v (.bool ufg) []) }] ⟨[tV 1 (.func 30 []), tS 7 u3x, tP 8 8, tB 82 (!ufg)], [bC 8 (GTerm.q u7x)], []⟩ (.cons (Zkq h1014) .nil) ?_
                  rcases oif h with ⟨h1015, h⟩ | ⟨h1015, h⟩
                  · refine Wc.cT h1015 ?_
                    obtain ⟨u6y, h1016, h⟩ := Z0 h
                    obtain ⟨h1017, h⟩ := Zg h
                    obtain ⟨h1018, h⟩ := Zg h
                    refine Wc.r2 [{}, {}, {}, { r := some (.v (.str u6y) []) }] ⟨[tS 7 (u3x ++ ((bs [124]) ++ u6y))], [], []⟩ (.cons (Z5h h1016) (.cons h1017 (.cons h1018 .nil))) ?_
                    apply Wc.seq
                    obtain ⟨h1019, h⟩ := Zg h
                    refine Wc.r2 [] ⟨[tS 6 ((u3x ++ ((bs [124]) ++ u6y)) ++ (bs [93]))], [], []⟩ (.cons h1019 .nil) ?_
                    cases h; exact Wc.ret dn
                  · refine Wc.cF h1015 ?_
                    refine Wc.fx [] ⟨[tS 7 u3x], [], []⟩ ?_
                    refine Wc.skip ?_
                    apply Wc.seq
                    obtain ⟨h1020, h⟩ := Zg h
                    refine Wc.r2 [] ⟨[tS 6 (u3x ++ (bs [93]))], [], []⟩ (.cons h1020 .nil) ?_
                    cases h; exact Wc.ret dn
              · refine Wc.cF h1001 ?_
                apply Wc.seq
                obtain ⟨ufh, h1021, h⟩ := Z0 h
                refine Wc.r2 [{}, { r := some (.v (.bool ufh) []) }] ⟨[tV 1 (.func 30 []), tV 2 (.func 58 []), tP 3 3, tB 91 ufh], [bC 3 (GTerm.q uh)], []⟩ (.cons (Zof h1021) .nil) ?_
                rcases oif h with ⟨h1022, h⟩ | ⟨h1022, h⟩
                · refine Wc.cT h1022 ?_
                  apply Wc.seq
                  obtain ⟨ufi, h1023, h⟩ := Z0 h
                  refine Wc.r2 [{}, {}, { r := some (.v (.str ufi) []) }] ⟨[tS 6 ufi], [], []⟩ (.cons (Za4 h1023) .nil) ?_
                  cases h; exact Wc.ret dn
                · refine Wc.cF h1022 ?_
                  refine Wc.fx [] ⟨[tV 1 (.func 30 []), tP 3 3], [bC 3 (GTerm.q uh)], []⟩ ?_
                  refine Wc.skip ?_
                  apply Wc.seq
                  refine Wc.r0 ⟨[tV 1 (.func 30 []), tP 3 3, (9, (.v (.sl (List.map cS [])), [(0, .app 9)]))], [bC 3 (GTerm.q uh)], []⟩ ?_
                  apply Wc.seq
                  apply Wc.seq
                  refine Wc.r2 [{}, {}, { v := some (aI (uh.gKids.length : Int)) }] ⟨[tV 1 (.func 30 []), tP 3 3, (9, (.v (.sl (List.map cS [])), [(0, .app 9)])), tV 98 (.sl (List.map GTerm.c uh.gKids)), tI 99 (uh.gKids.length : Int), tI 100 0], [bC 3 (GTerm.q uh)], []⟩ (.cons (Zn GTerm.c uh.gKids) .nil) ?_
                  obtain ⟨out3, h1024, h⟩ := Z0 h
                  refine Wc.lastJ (fun st => ∃ (ucy : List ByteArray), out3 = .done ucy ∧ st = ⟨[tP 3 3, (9, (.v (.sl (List.map cS ucy)), [(0, .app 9)]))], [bC 3 (GTerm.q uh)], []⟩) ?_ ?_
                  · refine Wc.block ?_
                    refine Wc.loop (fun m st => ∃ (u3a : List ByteArray) (u4a : Int), st = ⟨[tV 1 (.func 30 []), tP 3 3, (9, (.v (.sl (List.map cS u3a)), [(0, .app 9)])), tV 98 (.sl (List.map GTerm.c uh.gKids)), tI 99 (uh.gKids.length : Int), tI 100 u4a], [bC 3 (GTerm.q uh)], []⟩ ∧ Zs k Z1p Z1f uh m u3a u4a = some out3) ?_ k ⟨_, _, rfl, h1024⟩
                    rintro m st ⟨u3a, u4a, rfl, h1024⟩
                    cases m with
                    | zero => exact (Z1r h1024).elim
                    | succ m =>
                      apply Wc.seq
                      refine Wc.r0 ⟨[tV 1 (.func 30 []), tP 3 3, (9, (.v (.sl (List.map cS u3a)), [(0, .app 9)])), tV 98 (.sl (List.map GTerm.c uh.gKids)), tI 99 (uh.gKids.length : Int), tI 100 u4a, tB 101 (decide (u4a < (uh.gKids.length : Int)))], [bC 3 (GTerm.q uh)], []⟩ ?_
                      apply Wc.seq
                      rcases oif h1024 with ⟨h1025, h1024⟩ | ⟨h1025, h1024⟩
                      · refine Wc.cT h1025 ?_
                        refine Wc.fx [] ⟨[tV 1 (.func 30 []), tP 3 3, (9, (.v (.sl (List.map cS u3a)), [(0, .app 9)])), tV 98 (.sl (List.map GTerm.c uh.gKids)), tI 99 (uh.gKids.length : Int), tI 100 u4a], [bC 3 (GTerm.q uh)], []⟩ ?_
                        refine Wc.skip ?_
                        apply Wc.seq
                        refine Wc.block ?_
                        apply Wc.seq
                        obtain ⟨u9k, h1026, h1024⟩ := Z0 h1024
                        refine Wc.r2 [{ v := some (.vptr (GTerm.q u9k)) }] ⟨[tV 1 (.func 30 []), tP 3 3, (9, (.v (.sl (List.map cS u3a)), [(0, .app 9)])), tP 11 11, tV 98 (.sl (List.map GTerm.c uh.gKids)), tI 99 (uh.gKids.length : Int), tI 100 u4a], [bC 3 (GTerm.q uh), bC 11 (GTerm.q u9k)], []⟩ (.cons (Z19 (c := GTerm.c) (GTerm.c_eq u9k) GTerm.c_len h1026) (.cons (Z18 4 (GTerm.q u9k)) .nil)) ?_
                        obtain ⟨u4y, h1027, h1024⟩ := Z0 h1024
                        obtain ⟨h1028, h1024⟩ := Zg h1024
                        refine Wc.r2 [{ tk := [9] }, {}, {}, { r := some (.v (.str u4y) []) }, { c := some (List.map cS [u4y]) }, { c := some (List.map cS (u3a ++ [u4y])), tk := [104] }, { tk := [109] }] ⟨[tV 1 (.func 30 []), tP 3 3, (9, (.v (.sl (List.map cS (u3a ++ [u4y]))), [(0, .app 9)])), tV 98 (.sl (List.map GTerm.c uh.gKids)), tI 99 (uh.gKids.length : Int), tI 100 u4a], [bC 3 (GTerm.q uh)], []⟩ (.cons (Z5h h1027) (.cons (Z3r (c := cS) (x := u4y) rfl (Z4g cS)) (.cons (Z75 cS u3a [u4y]) (.cons (Z53 (c := cS) (ys := [u4y]) Zj7) (.cons (Z52 (c := cS) (xs := u3a) (ys := [u4y]) Zht h1028) .nil))))) ?_
                        refine Wc.r0 ⟨[tV 1 (.func 30 []), tP 3 3, (9, (.v (.sl (List.map cS (u3a ++ [u4y]))), [(0, .app 9)])), tV 98 (.sl (List.map GTerm.c uh.gKids)), tI 99 (uh.gKids.length : Int), tI 100 (wr.i64 (u4a + 1))], [bC 3 (GTerm.q uh)], []⟩ ?_
                        exact ⟨_, Nat.lt_succ_self _, _, _, rfl, h1024⟩
                      · refine Wc.cF h1025 ?_
                        refine Wc.fx [] ⟨[tP 3 3, (9, (.v (.sl (List.map cS u3a)), [(0, .app 9)]))], [bC 3 (GTerm.q uh)], []⟩ ?_
                        refine Wc.exit ?_
                        cases h1024
                        exact ⟨_, rfl, rfl⟩
                  · rintro st ⟨ucy, rfl, rfl⟩
                    apply Wc.seq
                    obtain ⟨u7y, h1029, h⟩ := Z0 h
                    obtain ⟨h1030, h⟩ := Zg h
                    obtain ⟨u9o, h1031, h⟩ := Z0 h
                    obtain ⟨h1032, h⟩ := Zg h
                    obtain ⟨h1033, h⟩ := Zg h
                    refine Wc.r2 [{}, {}, { r := some (.v (.str u7y) []) }, {}, { tk := [9] }, { r := some (.v (.str u9o) []) }] ⟨[tS 6 (((u7y ++ (bs [40])) ++ u9o) ++ (bs [41]))], [], []⟩ (.cons (Za9 h1029) (.cons h1030 (.cons (Zj3 h1031) (.cons h1032 (.cons h1033 .nil))))) ?_
                    cases h; exact Wc.ret dn

mutual
def Z5j : Nat → GTerm → Option ByteArray
  | 0, _ => none
  | k + 1, u5q =>
    (Z1d k (Z5j k) (Z64 k) u5q).bind fun ufm =>
    some ufm
def Z64 : Nat → GTerm → Option ByteArray
  | 0, _ => none
  | k + 1, z1 =>
    (at' z1.gKids 0).bind fun u0d =>
    (Z5j k u0d).bind fun u5r =>
    if Z11 (bs [40]) u5r then
      if Z11 ((bs [40]) ++ u5r) (bs [32]) then
        (Z6x k z1.gName).bind fun u6z =>
        if Z11 (((bs [40]) ++ u5r) ++ (bs [32])) u6z then
          if Z11 ((((bs [40]) ++ u5r) ++ (bs [32])) ++ u6z) (bs [32]) then
            (at' z1.gKids 1).bind fun u1x =>
            (Z5j k u1x).bind fun u9p =>
            if Z11 (((((bs [40]) ++ u5r) ++ (bs [32])) ++ u6z) ++ (bs [32])) u9p then
              if Z11 ((((((bs [40]) ++ u5r) ++ (bs [32])) ++ u6z) ++ (bs [32])) ++ u9p) (bs [41]) then
                some (((((((bs [40]) ++ u5r) ++ (bs [32])) ++ u6z) ++ (bs [32])) ++ u9p) ++ (bs [41]))
              else none
            else none
          else none
        else none
      else none
    else none
end
theorem Zlb : ∀ k : Nat, (∀ {u5q : GTerm} {r : ByteArray}, Z5j k u5q = some r → FnO Tryz.prog 30 [.v (.agg (GTerm.q u5q)) []] (.v (.str r) []) []) ∧
    (∀ {z1 : GTerm} {r : ByteArray}, Z64 k z1 = some r → FnO Tryz.prog 58 [.v (.agg (GTerm.q z1)) []] (.v (.str r) []) []) := by
  intro k
  induction k with
  | zero =>
    refine ⟨?_, ?_⟩
    · intro u5q r h
      exact (Z1r (by rw [Z5j] at h; exact h)).elim
    · intro z1 r h
      exact (Z1r (by rw [Z64] at h; exact h)).elim
  | succ k ih =>
    obtain ⟨Z5h, Za4⟩ := ih
    refine ⟨?_, ?_⟩
    · intro u5q r h
      rw [Z5j] at h
      refine FnO.o2 Tryz.func30 (rfl : Tryz.f30.body = some _) ?_
      intro w0 X0 Fin pv0 pb gt
      apply Wc.seq
      refine Wc.r0 ⟨[tP 1 1], [bC 1 (GTerm.q u5q)], []⟩ ?_
      apply Wc.seq
      obtain ⟨ufm, h1036, h⟩ := Z0 h
      refine Wc.r2 [{}, { r := some (.v (.str ufm) []) }] ⟨[tS 2 ufm], [], []⟩ (.cons (Z55 (fun h => Z5h h) (fun h => Za4 h) h1036) .nil) ?_
      cases h; exact Wc.ret dn
    · intro z1 r h
      rw [Z64] at h
      refine FnO.o2 Tryz.func58 (rfl : Tryz.f58.body = some _) ?_
      intro w0 X0 Fin pv0 pb gt
      apply Wc.seq
      refine Wc.r0 ⟨[tP 1 1], [bC 1 (GTerm.q z1)], []⟩ ?_
      apply Wc.seq
      obtain ⟨u0d, h1037, h⟩ := Z0 h
      obtain ⟨u5r, h1038, h⟩ := Z0 h
      obtain ⟨h1039, h⟩ := Zg h
      obtain ⟨h1040, h⟩ := Zg h
      obtain ⟨u6z, h1041, h⟩ := Z0 h
      obtain ⟨h1042, h⟩ := Zg h
      obtain ⟨h1043, h⟩ := Zg h
      obtain ⟨u1x, h1044, h⟩ := Z0 h
      obtain ⟨u9p, h1045, h⟩ := Z0 h
      obtain ⟨h1046, h⟩ := Zg h
      obtain ⟨h1047, h⟩ := Zg h
      refine Wc.draw hmix [{}, {}, { v := some (.vptr (GTerm.q u0d)) }, {}, { r := some (.v (.str u5r) []) }, {}, {}, {}, {}, { r := some (.v (.str u6z) []) }, {}, {}, {}, {}, { v := some (.vptr (GTerm.q u1x)) }, {}, { r := some (.v (.str u9p) []) }] [] [2] [] [] ⟨[tS 2 (((((((bs [40]) ++ u5r) ++ (bs [32])) ++ u6z) ++ (bs [32])) ++ u9p) ++ (bs [41]))], [], []⟩ _ (by kernel_rfl) (fun X => by kernel_rfl) (.cons (Z19 (c := GTerm.c) (GTerm.c_eq u0d) GTerm.c_len h1037) (.cons (Z18 4 (GTerm.q u0d)) (.cons (Z5h h1038) (.cons h1039 (.cons h1040 (.cons (Zme h1041) (.cons h1042 (.cons h1043 (.cons (Z19 (c := GTerm.c) (GTerm.c_eq u1x) GTerm.c_len h1044) (.cons (Z18 4 (GTerm.q u1x)) (.cons (Z5h h1045) (.cons h1046 (.cons h1047 .nil))))))))))))) ?_
      cases h; exact Wc.ret dn
theorem Zsa {k : Nat} {u5q : GTerm} {r : ByteArray} (h : Z5j k u5q = some r) : FnO Tryz.prog 30 [.v (.agg (GTerm.q u5q)) []] (.v (.str r) []) [] := (Zlb k).1 h


def Z7c (k : Nat) (u72 : GTerm) : Option ByteArray :=
  (Z8b k u72).bind fun ufw =>
  if (!ufw) = true then
    some (bs [])
  else
    (Z5j k u72).bind fun u5e =>
    some u5e
theorem Zkr {k : Nat} {u72 : GTerm} {r : ByteArray} (h : Z7c k u72 = some r) : FnO Tryz.prog 17 [.v (.agg (GTerm.q u72)) []] (.v (.str r) []) [] := by
  refine FnO.o2 Tryz.func17 (rfl : Tryz.f17.body = some _) ?_
  intro w0 X0 Fin pv0 pb gt
  unfold Z7c at h
  apply Wc.seq
  refine Wc.r0 ⟨[tP 1 1], [bC 1 (GTerm.q u72)], []⟩ ?_
  apply Wc.seq
  apply Wc.seq
  obtain ⟨ufw, h983, h⟩ := Z0 h
  refine Wc.r2 [{}, { r := some (.v (.bool ufw) []) }] ⟨[tP 1 1, tB 5 (!ufw)], [bC 1 (GTerm.q u72)], []⟩ (.cons (Zgg h983) .nil) ?_
  rcases oif h with ⟨h984, h⟩ | ⟨h984, h⟩
  · refine Wc.cT h984 ?_
    apply Wc.seq
    refine Wc.r0 ⟨[tS 2 (bs [])], [], []⟩ ?_
    cases h; exact Wc.ret dn
  · refine Wc.cF h984 ?_
    refine Wc.fx [] ⟨[tP 1 1], [bC 1 (GTerm.q u72)], []⟩ ?_
    refine Wc.skip ?_
    apply Wc.seq
    obtain ⟨u5e, h985, h⟩ := Z0 h
    refine Wc.r2 [{}, { r := some (.v (.str u5e) []) }] ⟨[tS 2 u5e], [], []⟩ (.cons (Zsa h985) .nil) ?_
    cases h; exact Wc.ret dn

def Z1j (k : Nat) (zl : List Int) (u29 : Int) : Nat → Int → Option (Out Int Unit)
  | 0, _ => none
  | m + 1, u2a =>
    if (decide (u2a < (zl.length : Int))) = true then
      (at' zl u2a).bind fun ud6 =>
      if (u29 == ud6) = true then
        some (.ret u2a)
      else
        Z1j k zl u29 m (wr.i64 (u2a + 1))
    else
      some (.done ())
def Z36 (k : Nat) (zl : List Int) (u29 : Int) : Option Int :=
  (Z1j k zl u29 k 0).bind fun out1 => match out1 with
  | .ret r => some r
  | .done () =>
    some (-1)
theorem Z9n {k : Nat} {zl : List Int} {u29 : Int} {r : Int} (h : Z36 k zl u29 = some r) : FnO Tryz.prog 116 [.v (.sl (List.map cI.i64 zl)) [], .v (aI u29) []] (.v (aI r) []) [] := by
  refine FnO.o2 Tryz.func116 (rfl : Tryz.f116.body = some _) ?_
  intro w0 X0 Fin pv0 pb gt
  unfold Z36 at h
  apply Wc.seq
  refine Wc.r0 ⟨[tV 0 (.sl (List.map cI.i64 zl)), tI 1 u29], [], []⟩ ?_
  apply Wc.seq
  apply Wc.seq
  refine Wc.r2 [{}, { v := some (aI (zl.length : Int)) }] ⟨[tV 0 (.sl (List.map cI.i64 zl)), tI 1 u29, tI 7 (zl.length : Int), tI 8 0], [], []⟩ (.cons (Zn cI.i64 zl) .nil) ?_
  obtain ⟨out1, h986, h⟩ := Z0 h
  refine Wc.lastJ (fun st => out1 = .done () ∧ st = ⟨[], [], []⟩) ?_ ?_
  · refine Wc.block ?_
    refine Wc.loop (fun m st => ∃ (u2a : Int), st = ⟨[tV 0 (.sl (List.map cI.i64 zl)), tI 1 u29, tI 7 (zl.length : Int), tI 8 u2a], [], []⟩ ∧ Z1j k zl u29 m u2a = some out1) ?_ k ⟨_, rfl, h986⟩
    rintro m st ⟨u2a, rfl, h986⟩
    cases m with
    | zero => exact (Z1r h986).elim
    | succ m =>
      apply Wc.seq
      refine Wc.r0 ⟨[tV 0 (.sl (List.map cI.i64 zl)), tI 1 u29, tI 7 (zl.length : Int), tI 8 u2a, tB 9 (decide (u2a < (zl.length : Int)))], [], []⟩ ?_
      apply Wc.seq
      rcases oif h986 with ⟨h987, h986⟩ | ⟨h987, h986⟩
      · refine Wc.cT h987 ?_
        refine Wc.fx [] ⟨[tV 0 (.sl (List.map cI.i64 zl)), tI 1 u29, tI 7 (zl.length : Int), tI 8 u2a], [], []⟩ ?_
        refine Wc.skip ?_
        apply Wc.seq
        refine Wc.block ?_
        apply Wc.seq
        refine Wc.r0 ⟨[tV 0 (.sl (List.map cI.i64 zl)), tI 1 u29, tI 5 u2a, tI 7 (zl.length : Int), tI 8 u2a], [], []⟩ ?_
        apply Wc.seq
        obtain ⟨ud6, h988, h986⟩ := Z0 h986
        refine Wc.r2 [{}, {}, {}, { v := some (.vptr [aI ud6]) }] ⟨[tV 0 (.sl (List.map cI.i64 zl)), tI 1 u29, tI 5 u2a, tI 7 (zl.length : Int), tI 8 u2a, tB 16 (u29 == ud6)], [], []⟩ (.cons (Z19 (c := cI.i64) rfl cI.i64_len h988) (.cons (Z18 1 [aI ud6]) .nil)) ?_
        rcases oif h986 with ⟨h989, h986⟩ | ⟨h989, h986⟩
        · refine Wc.cT h989 ?_
          apply Wc.seq
          refine Wc.r0 ⟨[tI 4 u2a], [], []⟩ ?_
          refine Wc.ret ?_
          cases h986
          cases h
          exact ⟨.inl rfl, by kernel_rfl, by kernel_rfl⟩
        · refine Wc.cF h989 ?_
          refine Wc.fx [] ⟨[tV 0 (.sl (List.map cI.i64 zl)), tI 1 u29, tI 7 (zl.length : Int), tI 8 u2a], [], []⟩ ?_
          refine Wc.skip ?_
          refine Wc.r0 ⟨[tV 0 (.sl (List.map cI.i64 zl)), tI 1 u29, tI 7 (zl.length : Int), tI 8 (wr.i64 (u2a + 1))], [], []⟩ ?_
          exact ⟨_, Nat.lt_succ_self _, _, rfl, h986⟩
      · refine Wc.cF h987 ?_
        refine Wc.fx [] ⟨[], [], []⟩ ?_
        refine Wc.exit ?_
        cases h986
        exact ⟨rfl, rfl⟩
  · rintro st ⟨rfl, rfl⟩
    apply Wc.seq
    refine Wc.r0 ⟨[tI 4 (-1)], [], []⟩ ?_
    cases h; exact Wc.ret dn

def Z1x (k : Nat) (ud7 : List Int) (ud8 : Int) : Option Bool :=
  (Z36 k ud7 ud8).bind fun ufx =>
  some (decide (ufx ≥ 0))
theorem Z8k {k : Nat} {ud7 : List Int} {ud8 : Int} {r : Bool} (h : Z1x k ud7 ud8 = some r) : FnO Tryz.prog 94 [.v (.sl (List.map cI.i64 ud7)) [], .v (aI ud8) []] (.v (.bool r) []) [] := by
  refine FnO.o2 Tryz.func94 (rfl : Tryz.f94.body = some _) ?_
  intro w0 X0 Fin pv0 pb gt
  unfold Z1x at h
  apply Wc.seq
  refine Wc.r0 ⟨[tV 0 (.sl (List.map cI.i64 ud7)), tI 1 ud8], [], []⟩ ?_
  apply Wc.seq
  obtain ⟨ufx, h990, h⟩ := Z0 h
  refine Wc.r2 [{}, {}, { r := some (.v (aI ufx) []) }] ⟨[tB 4 (decide (ufx ≥ 0))], [], []⟩ (.cons (Z9n h990) .nil) ?_
  cases h; exact Wc.ret dn

def Z6d (k : Nat) (Z4k : (List Int) → GTerm → Option (List Int)) (up : GTerm) : Nat → (List Int) → Int → Option (Out (List Int) (List Int))
  | 0, _, _ => none
  | m + 1, u5u, u4c =>
    if (decide (u4c < (up.gKids.length : Int))) = true then
      (at' up.gKids u4c).bind fun u9s =>
      (Z4k u5u u9s).bind fun ud9 =>
      Z6d k Z4k up m ud9 (wr.i64 (u4c + 1))
    else
      some (.done u5u)
def Z6f (k : Nat) (Z4k : (List Int) → GTerm → Option (List Int)) (up : GTerm) (u9t : List Int) : Option (List Int) :=
  (Z6d k Z4k up k u9t 0).bind fun out2 => match out2 with
  | .ret r => some r
  | .done u9u =>
    some u9u
def Z6e (k : Nat) (Z4k : (List Int) → GTerm → Option (List Int)) (u0l : List Int) (up : GTerm) (uda : Bool) : Option (List Int) :=
  if uda = true then
    if u0l.length + [up.gNum].length ≤ 1073741824 then
      Z6f k Z4k up (u0l ++ [up.gNum])
    else none
  else
    Z6f k Z4k up u0l
mutual
def Z38 : Nat → (List Int) → GTerm → Option (List Int)
  | 0, _, _ => none
  | k + 1, u0l, up =>
    if (up.gKind == 1) = true then
      (Z1x k u0l up.gNum).bind fun ufy =>
      Z6e k (Z38 k) u0l up (!ufy)
    else
      Z6e k (Z38 k) u0l up false
end
theorem Zgz : ∀ k : Nat, (∀ {u0l : List Int} {up : GTerm} {r : (List Int)}, Z38 k u0l up = some r → FnO Tryz.prog 60 [.v (.slx) [(0, .ex 3 false (List.map cI.i64 u0l))], .v (.agg (GTerm.q up)) []] (.v (.slx) [(0, .ex 3 false (List.map cI.i64 r))]) []) := by
  intro k
  induction k with
  | zero =>
    · intro u0l up r h
      exact (Z1r (by rw [Z38] at h; exact h)).elim
  | succ k ih =>
    have Zis := @ih
    · intro u0l up r h
      rw [Z38] at h
      refine FnO.o2 Tryz.func60 (rfl : Tryz.f60.body = some _) ?_
      intro w0 X0 Fin pv0 pb gt
      apply Wc.seq
      refine Wc.r0 ⟨[(0, (.v (.slx), [(0, .ex 3 false (List.map cI.i64 u0l))])), tP 3 3], [bC 3 (GTerm.q up)], []⟩ ?_
      refine Wc.seqJ (fun st => ∃ (u9t : List Int), st = ⟨[(0, (.v (.slx), [(0, .ex 3 false (List.map cI.i64 u9t))])), tP 3 3], [bC 3 (GTerm.q up)], []⟩ ∧ Z6f k (Z38 k) up u9t = some r) ?_ ?_
      · refine Wc.seqJ (fun st => ∃ (uda : Bool), st = ⟨[(0, (.v (.slx), [(0, .ex 3 false (List.map cI.i64 u0l))])), tP 3 3, tB 16 uda], [bC 3 (GTerm.q up)], []⟩ ∧ Z6e k (Z38 k) u0l up uda = some r) ?_ ?_
        · rcases oif h with ⟨h1005, h⟩ | ⟨h1005, h⟩
          · obtain ⟨ufy, h1006, h⟩ := Z0 h
            refine Wc.r2 [{}, {}, {}, rT, {}, {}, {}, { r := some (.v (.bool ufy) []) }] ⟨[(0, (.v (.slx), [(0, .ex 3 false (List.map cI.i64 u0l))])), tP 3 3, tB 16 (!ufy)], [bC 3 (GTerm.q up)], []⟩ (cb h1005 (.cons (Z8k h1006) .nil)) ?_
            exact ⟨_, rfl, h⟩
          · refine Wc.r2 [{}, {}, {}, rF] ⟨[(0, (.v (.slx), [(0, .ex 3 false (List.map cI.i64 u0l))])), tP 3 3, tB 16 false], [bC 3 (GTerm.q up)], []⟩ (cb h1005 .nil) ?_
            exact ⟨_, rfl, h⟩
        · rintro st ⟨uda, rfl, h⟩
          rcases oif h with ⟨h1003, h⟩ | ⟨h1003, h⟩
          · refine Wc.cT h1003 ?_
            obtain ⟨h1004, h⟩ := Zg h
            refine Wc.r2 [{ tk := [0] }, {}, {}, { c := some (List.map cI.i64 [up.gNum]) }, { c := some (List.map cI.i64 (u0l ++ [up.gNum])), tk := [17], md := 1 }, { tk := [21] }] ⟨[(0, (.v (.slx), [(0, .ex 3 false (List.map cI.i64 (u0l ++ [up.gNum])))])), tP 3 3], [bC 3 (GTerm.q up)], []⟩ (.cons (Z3r (c := cI.i64) (x := up.gNum) rfl (Z4g cI.i64)) (.cons (Z75 cI.i64 u0l [up.gNum]) (.cons (Z53 (c := cI.i64) (ys := [up.gNum]) cI.i64_leaf) (.cons (Z52 (c := cI.i64) (xs := u0l) (ys := [up.gNum]) cI.i64_len h1004) .nil)))) ?_
            exact ⟨_, rfl, h⟩
          · refine Wc.cF h1003 ?_
            refine Wc.fx [] ⟨[(0, (.v (.slx), [(0, .ex 3 false (List.map cI.i64 u0l))])), tP 3 3], [bC 3 (GTerm.q up)], []⟩ ?_
            refine Wc.skip ?_
            exact ⟨_, rfl, h⟩
      · rintro st ⟨u9t, rfl, h⟩
        apply Wc.seq
        apply Wc.seq
        refine Wc.r2 [{}, {}, { v := some (aI (up.gKids.length : Int)) }] ⟨[(0, (.v (.slx), [(0, .ex 3 false (List.map cI.i64 u9t))])), tV 23 (.sl (List.map GTerm.c up.gKids)), tI 24 (up.gKids.length : Int), tI 25 0], [], []⟩ (.cons (Zn GTerm.c up.gKids) .nil) ?_
        obtain ⟨out2, h999, h⟩ := Z0 h
        refine Wc.lastJ (fun st => ∃ (u9u : List Int), out2 = .done u9u ∧ st = ⟨[(0, (.v (.slx), [(0, .ex 3 false (List.map cI.i64 u9u))]))], [], []⟩) ?_ ?_
        · refine Wc.block ?_
          refine Wc.loop (fun m st => ∃ (u5u : List Int) (u4c : Int), st = ⟨[(0, (.v (.slx), [(0, .ex 3 false (List.map cI.i64 u5u))])), tV 23 (.sl (List.map GTerm.c up.gKids)), tI 24 (up.gKids.length : Int), tI 25 u4c], [], []⟩ ∧ Z6d k (Z38 k) up m u5u u4c = some out2) ?_ k ⟨_, _, rfl, h999⟩
          rintro m st ⟨u5u, u4c, rfl, h999⟩
          cases m with
          | zero => exact (Z1r h999).elim
          | succ m =>
            apply Wc.seq
            refine Wc.r0 ⟨[(0, (.v (.slx), [(0, .ex 3 false (List.map cI.i64 u5u))])), tV 23 (.sl (List.map GTerm.c up.gKids)), tI 24 (up.gKids.length : Int), tI 25 u4c, tB 26 (decide (u4c < (up.gKids.length : Int)))], [], []⟩ ?_
            apply Wc.seq
            rcases oif h999 with ⟨h1000, h999⟩ | ⟨h1000, h999⟩
            · refine Wc.cT h1000 ?_
              refine Wc.fx [] ⟨[(0, (.v (.slx), [(0, .ex 3 false (List.map cI.i64 u5u))])), tV 23 (.sl (List.map GTerm.c up.gKids)), tI 24 (up.gKids.length : Int), tI 25 u4c], [], []⟩ ?_
              refine Wc.skip ?_
              apply Wc.seq
              refine Wc.block ?_
              apply Wc.seq
              obtain ⟨u9s, h1001, h999⟩ := Z0 h999
              refine Wc.r2 [{ v := some (.vptr (GTerm.q u9s)) }] ⟨[(0, (.v (.slx), [(0, .ex 3 false (List.map cI.i64 u5u))])), tP 6 6, tV 23 (.sl (List.map GTerm.c up.gKids)), tI 24 (up.gKids.length : Int), tI 25 u4c], [bC 6 (GTerm.q u9s)], []⟩ (.cons (Z19 (c := GTerm.c) (GTerm.c_eq u9s) GTerm.c_len h1001) (.cons (Z18 4 (GTerm.q u9s)) .nil)) ?_
              obtain ⟨ud9, h1002, h999⟩ := Z0 h999
              refine Wc.r2 [{ tk := [0] }, {}, { tk := [29], r := some (.v (.slx) [(0, .ex 3 false (List.map cI.i64 ud9))]) }, { tk := [31] }] ⟨[(0, (.v (.slx), [(0, .ex 3 false (List.map cI.i64 ud9))])), tV 23 (.sl (List.map GTerm.c up.gKids)), tI 24 (up.gKids.length : Int), tI 25 u4c], [], []⟩ (.cons (Zis h1002) .nil) ?_
              refine Wc.r0 ⟨[(0, (.v (.slx), [(0, .ex 3 false (List.map cI.i64 ud9))])), tV 23 (.sl (List.map GTerm.c up.gKids)), tI 24 (up.gKids.length : Int), tI 25 (wr.i64 (u4c + 1))], [], []⟩ ?_
              exact ⟨_, Nat.lt_succ_self _, _, _, rfl, h999⟩
            · refine Wc.cF h1000 ?_
              refine Wc.fx [] ⟨[(0, (.v (.slx), [(0, .ex 3 false (List.map cI.i64 u5u))]))], [], []⟩ ?_
              refine Wc.exit ?_
              cases h999
              exact ⟨_, rfl, rfl⟩
        · rintro st ⟨u9u, rfl, rfl⟩
          apply Wc.seq
          refine Wc.r1 [{ tk := [0] }, { tk := [33] }] ⟨[(4, (.v (.slx), [(0, .ex 3 false (List.map cI.i64 u9u))]))], [], []⟩ ?_
          cases h; exact Wc.ret dn
theorem Zog {k : Nat} {u0l : List Int} {up : GTerm} {r : (List Int)} (h : Z38 k u0l up = some r) : FnO Tryz.prog 60 [.v (.slx) [(0, .ex 3 false (List.map cI.i64 u0l))], .v (.agg (GTerm.q up)) []] (.v (.slx) [(0, .ex 3 false (List.map cI.i64 r))]) [] := (Zgz k) h

def Zal (k : Nat) (udb : GTerm) : Option (List Int) :=
  (Z38 k [] udb).bind fun udc =>
  some udc
theorem Zks {k : Nat} {udb : GTerm} {r : (List Int)} (h : Zal k udb = some r) : FnO Tryz.prog 31 [.v (.agg (GTerm.q udb)) []] (.v (.sl (List.map cI.i64 r)) []) [] := by
  refine FnO.o2 Tryz.func31 (rfl : Tryz.f31.body = some _) ?_
  intro w0 X0 Fin pv0 pb gt
  unfold Zal at h
  apply Wc.seq
  refine Wc.r0 ⟨[tP 1 1], [bC 1 (GTerm.q udb)], []⟩ ?_
  apply Wc.seq
  obtain ⟨udc, h1007, h⟩ := Z0 h
  refine Wc.r2 [{}, { tk := [1000006], r := some (.v (.slx) [(0, .ex 3 false (List.map cI.i64 udc))]) }, { tk := [4] }] ⟨[(2, (.v (.slx), [(0, .ex 3 false (List.map cI.i64 udc))]))], [], []⟩ (.cons (Zog h1007) .nil) ?_
  refine Wc.fx [.sh (.t 2 0)] ⟨[tV 2 (.sl (List.map cI.i64 udc))], [], []⟩ ?_
  cases h; exact Wc.ret dn

def Zf (k : Nat) (Z3i : GTerm → GTerm → Option Bool) (vr : List GTerm) (u0q : List GTerm) : Nat → Int → Option (Out Bool Unit)
  | 0, _ => none
  | m + 1, zm =>
    if (decide (zm < (vr.length : Int))) = true then
      (at' vr zm).bind fun u5f =>
      (at' u0q zm).bind fun u9v =>
      (Z3i u5f u9v).bind fun ufz =>
      if (!ufz) = true then
        some (.ret false)
      else
        Zf k Z3i vr u0q m (wr.i64 (zm + 1))
    else
      some (.done ())
def Zh (k : Nat) (Z3i : GTerm → GTerm → Option Bool) (vr : List GTerm) (u0q : List GTerm) : Option Bool :=
  if ((vr.length : Int) != (u0q.length : Int)) = true then
    some false
  else
    (Zf k Z3i vr u0q k 0).bind fun out1 => match out1 with
    | .ret r => some r
    | .done () =>
      some true
theorem Z1t {k : Nat} {Z3i : GTerm → GTerm → Option Bool} (Z96 : ∀ {y0 : GTerm} {y1 : GTerm} {r : Bool}, Z3i y0 y1 = some r → FnO Tryz.prog 32 [.v (.agg (GTerm.q y0)) [], .v (.agg (GTerm.q y1)) []] (.v (.bool r) []) []) {vr : List GTerm} {u0q : List GTerm} {r : Bool} (h : Zh k Z3i vr u0q = some r) : FnO Tryz.prog 61 [.v (.sl (List.map GTerm.c vr)) [], .v (.sl (List.map GTerm.c u0q)) [], .v (.func 32 []) []] (.v (.bool r) []) [] := by
  refine FnO.o2 Tryz.func61 (rfl : Tryz.f61.body = some _) ?_
  intro w0 X0 Fin pv0 pb gt
  unfold Zh at h
  apply Wc.seq
  refine Wc.r0 ⟨[tV 0 (.sl (List.map GTerm.c vr)), tV 1 (.sl (List.map GTerm.c u0q)), tV 2 (.func 32 [])], [], []⟩ ?_
  apply Wc.seq
  apply Wc.seq
  refine Wc.r2 [{}, { v := some (aI (vr.length : Int)) }, {}, { v := some (aI (u0q.length : Int)) }] ⟨[tV 0 (.sl (List.map GTerm.c vr)), tV 1 (.sl (List.map GTerm.c u0q)), tV 2 (.func 32 []), tB 14 ((vr.length : Int) != (u0q.length : Int))], [], []⟩ (.cons (Zn GTerm.c vr) (.cons (Zn GTerm.c u0q) .nil)) ?_
  rcases oif h with ⟨h1018, h⟩ | ⟨h1018, h⟩
  · refine Wc.cT h1018 ?_
    apply Wc.seq
    refine Wc.r0 ⟨[tB 6 false], [], []⟩ ?_
    cases h; exact Wc.ret dn
  · refine Wc.cF h1018 ?_
    refine Wc.fx [] ⟨[tV 0 (.sl (List.map GTerm.c vr)), tV 1 (.sl (List.map GTerm.c u0q)), tV 2 (.func 32 [])], [], []⟩ ?_
    refine Wc.skip ?_
    apply Wc.seq
    apply Wc.seq
    refine Wc.r2 [{}, { v := some (aI (vr.length : Int)) }] ⟨[tV 1 (.sl (List.map GTerm.c u0q)), tV 2 (.func 32 []), tV 15 (.sl (List.map GTerm.c vr)), tI 16 (vr.length : Int), tI 17 0], [], []⟩ (.cons (Zn GTerm.c vr) .nil) ?_
    obtain ⟨out1, h1019, h⟩ := Z0 h
    refine Wc.lastJ (fun st => out1 = .done () ∧ st = ⟨[], [], []⟩) ?_ ?_
    · refine Wc.block ?_
      refine Wc.loop (fun m st => ∃ (zm : Int), st = ⟨[tV 1 (.sl (List.map GTerm.c u0q)), tV 2 (.func 32 []), tV 15 (.sl (List.map GTerm.c vr)), tI 16 (vr.length : Int), tI 17 zm], [], []⟩ ∧ Zf k Z3i vr u0q m zm = some out1) ?_ k ⟨_, rfl, h1019⟩
      rintro m st ⟨zm, rfl, h1019⟩
      cases m with
      | zero => exact (Z1r h1019).elim
      | succ m =>
        apply Wc.seq
        refine Wc.r0 ⟨[tV 1 (.sl (List.map GTerm.c u0q)), tV 2 (.func 32 []), tV 15 (.sl (List.map GTerm.c vr)), tI 16 (vr.length : Int), tI 17 zm, tB 18 (decide (zm < (vr.length : Int)))], [], []⟩ ?_
        apply Wc.seq
        rcases oif h1019 with ⟨h1020, h1019⟩ | ⟨h1020, h1019⟩
        · refine Wc.cT h1020 ?_
          refine Wc.fx [] ⟨[tV 1 (.sl (List.map GTerm.c u0q)), tV 2 (.func 32 []), tV 15 (.sl (List.map GTerm.c vr)), tI 16 (vr.length : Int), tI 17 zm], [], []⟩ ?_
          refine Wc.skip ?_
          apply Wc.seq
          refine Wc.block ?_
          apply Wc.seq
          obtain ⟨u5f, h1021, h1019⟩ := Z0 h1019
          refine Wc.r2 [{}, { v := some (.vptr (GTerm.q u5f)) }] ⟨[tV 1 (.sl (List.map GTerm.c u0q)), tV 2 (.func 32 []), tI 7 zm, tP 8 8, tV 15 (.sl (List.map GTerm.c vr)), tI 16 (vr.length : Int), tI 17 zm], [bC 8 (GTerm.q u5f)], []⟩ (.cons (Z19 (c := GTerm.c) (GTerm.c_eq u5f) GTerm.c_len h1021) (.cons (Z18 4 (GTerm.q u5f)) .nil)) ?_
          apply Wc.seq
          obtain ⟨u9v, h1022, h1019⟩ := Z0 h1019
          refine Wc.r2 [{}, {}, { v := some (.vptr (GTerm.q u9v)) }] ⟨[tV 1 (.sl (List.map GTerm.c u0q)), tV 2 (.func 32 []), tP 8 8, tP 9 9, tV 15 (.sl (List.map GTerm.c vr)), tI 16 (vr.length : Int), tI 17 zm], [bC 8 (GTerm.q u5f), bC 9 (GTerm.q u9v)], []⟩ (.cons (Z19 (c := GTerm.c) (GTerm.c_eq u9v) GTerm.c_len h1022) (.cons (Z18 4 (GTerm.q u9v)) .nil)) ?_
          apply Wc.seq
          obtain ⟨ufz, h1023, h1019⟩ := Z0 h1019
          refine Wc.r2 [{}, {}, {}, { r := some (.v (.bool ufz) []) }] ⟨[tV 1 (.sl (List.map GTerm.c u0q)), tV 2 (.func 32 []), tV 15 (.sl (List.map GTerm.c vr)), tI 16 (vr.length : Int), tI 17 zm, tB 30 (!ufz)], [], []⟩ (.cons (Z96 h1023) .nil) ?_
          rcases oif h1019 with ⟨h1024, h1019⟩ | ⟨h1024, h1019⟩
          · refine Wc.cT h1024 ?_
            apply Wc.seq
            refine Wc.r0 ⟨[tB 6 false], [], []⟩ ?_
            refine Wc.ret ?_
            cases h1019
            cases h
            exact ⟨.inl rfl, by kernel_rfl, by kernel_rfl⟩
          · refine Wc.cF h1024 ?_
            refine Wc.fx [] ⟨[tV 1 (.sl (List.map GTerm.c u0q)), tV 2 (.func 32 []), tV 15 (.sl (List.map GTerm.c vr)), tI 16 (vr.length : Int), tI 17 zm], [], []⟩ ?_
            refine Wc.skip ?_
            refine Wc.r0 ⟨[tV 1 (.sl (List.map GTerm.c u0q)), tV 2 (.func 32 []), tV 15 (.sl (List.map GTerm.c vr)), tI 16 (vr.length : Int), tI 17 (wr.i64 (zm + 1))], [], []⟩ ?_
            exact ⟨_, Nat.lt_succ_self _, _, rfl, h1019⟩
        · refine Wc.cF h1020 ?_
          refine Wc.fx [] ⟨[], [], []⟩ ?_
          refine Wc.exit ?_
          cases h1019
          exact ⟨rfl, rfl⟩
    · rintro st ⟨rfl, rfl⟩
      apply Wc.seq
      refine Wc.r0 ⟨[tB 6 true], [], []⟩ ?_
      cases h; exact Wc.ret dn

mutual
def Z49 : Nat → GTerm → GTerm → Option Bool
  | 0, _, _ => none
  | k + 1, u1x, u4d =>
    if (u1x.gKind == u4d.gKind) = true then
      if (sEq u1x.gName u4d.gName) = true then
        if (u1x.gNum == u4d.gNum) = true then
          (Zh k (Z49 k) u1x.gKids u4d.gKids).bind fun u6g =>
          some u6g
        else
          some false
      else
        some false
    else
      some false
end
theorem Zgo : ∀ k : Nat, (∀ {u1x : GTerm} {u4d : GTerm} {r : Bool}, Z49 k u1x u4d = some r → FnO Tryz.prog 32 [.v (.agg (GTerm.q u1x)) [], .v (.agg (GTerm.q u4d)) []] (.v (.bool r) []) []) := by
  intro k
  induction k with
  | zero =>
    · intro u1x u4d r h
      exact (Z1r (by rw [Z49] at h; exact h)).elim
  | succ k ih =>
    have Z96 := @ih
    · intro u1x u4d r h
      rw [Z49] at h
      refine FnO.o2 Tryz.func32 (rfl : Tryz.f32.body = some _) ?_
      intro w0 X0 Fin pv0 pb gt
      apply Wc.seq
      refine Wc.r0 ⟨[tP 2 2, tP 3 3], [bC 2 (GTerm.q u1x), bC 3 (GTerm.q u4d)], []⟩ ?_
      apply Wc.seq
      rcases oif h with ⟨h1015, h⟩ | ⟨h1015, h⟩
      · rcases oif h with ⟨h1016, h⟩ | ⟨h1016, h⟩
        · rcases oif h with ⟨h1017, h⟩ | ⟨h1017, h⟩
          · obtain ⟨u6g, h1025, h⟩ := Z0 h
            refine Wc.r2 [{}, {}, {}, {}, {}, rT, {}, {}, {}, {}, {}, {}, rT, {}, {}, {}, {}, {}, {}, rT, {}, {}, {}, {}, { r := some (.v (.bool u6g) []) }] ⟨[tB 4 u6g], [], []⟩ (cb h1015 (cb h1016 (cb h1017 (.cons (Z1t (fun h => Z96 h) h1025) .nil)))) ?_
            cases h; exact Wc.ret dn
          · refine Wc.r2 [{}, {}, {}, {}, {}, rT, {}, {}, {}, {}, {}, {}, rT, {}, {}, {}, {}, {}, {}, rF] ⟨[tB 4 false], [], []⟩ (cb h1015 (cb h1016 (cb h1017 .nil))) ?_
            cases h; exact Wc.ret dn
        · refine Wc.r2 [{}, {}, {}, {}, {}, rT, {}, {}, {}, {}, {}, {}, rF] ⟨[tB 4 false], [], []⟩ (cb h1015 (cb h1016 .nil)) ?_
          cases h; exact Wc.ret dn
      · refine Wc.r2 [{}, {}, {}, {}, {}, rF] ⟨[tB 4 false], [], []⟩ (cb h1015 .nil) ?_
        cases h; exact Wc.ret dn
theorem Zmi {k : Nat} {u1x : GTerm} {u4d : GTerm} {r : Bool} (h : Z49 k u1x u4d = some r) : FnO Tryz.prog 32 [.v (.agg (GTerm.q u1x)) [], .v (.agg (GTerm.q u4d)) []] (.v (.bool r) []) [] := (Zgo k) h

def Z8r (k : Nat) (u73 : Int) (u52 : List (Int × Int)) : Option Int :=
  some (mget u52 u73)
theorem Zkt {k : Nat} {u73 : Int} {u52 : List (Int × Int)} {r : Int} (h : Z8r k u73 u52 = some r) : FnO Tryz.prog 34 [.v (aI u73) [], .v (.vptr [.mp (mgk u52) (mgv u52)]) []] (.v (aI r) []) [] := by
  refine FnO.o2 Tryz.func34 (rfl : Tryz.f34.body = some _) ?_
  intro w0 X0 Fin pv0 pb gt
  unfold Z8r at h
  apply Wc.seq
  refine Wc.r0 ⟨[tI 0 u73, tV 1 (.vptr [.mp (mgk u52) (mgv u52)])], [], []⟩ ?_
  apply Wc.seq
  refine Wc.r2 [{}, {}, { v := some (aI (mget u52 u73)) }] ⟨[tI 3 (mget u52 u73)], [], []⟩ (.cons (Z18 1 [.mp (mgk u52) (mgv u52)]) (.cons (Zo7 u52 u73) .nil)) ?_
  cases h; exact Wc.ret dn

def Z1n (k : Nat) (Z27 : GTerm → (List (Int × Int)) → Option GTerm) (ur : GTerm) (v2 : List (Int × Int)) : Nat → Int → GTerm → Option (Out GTerm GTerm)
  | 0, _, _ => none
  | m + 1, zu, z7 =>
    if (decide (zu < (ur.gKids.length : Int))) = true then
      (at' ur.gKids zu).bind fun u9x =>
      (Z27 u9x v2).bind fun z8 =>
      if z7.gKids.length + [z8].length ≤ 1073741824 then
        Z1n k Z27 ur v2 m (wr.i64 (zu + 1)) (GTerm.mk z7.gKind z7.gName z7.gNum (z7.gKids ++ [z8]))
      else none
    else
      some (.done z7)
def Z1o (k : Nat) (Z27 : GTerm → (List (Int × Int)) → Option GTerm) (ur : GTerm) (v2 : List (Int × Int)) (u9y : GTerm) : Option GTerm :=
  (Z1n k Z27 ur v2 k 0 u9y).bind fun out2 => match out2 with
  | .ret r => some r
  | .done u53 =>
    some u53
mutual
def Zk : Nat → GTerm → (List (Int × Int)) → Option GTerm
  | 0, _, _ => none
  | k + 1, ur, v2 =>
    if (ur.gKind == 1) = true then
      (Z8r k ur.gNum v2).bind fun u5v =>
      Z1o k (Zk k) ur v2 (GTerm.mk ur.gKind ur.gName u5v [])
    else
      Z1o k (Zk k) ur v2 (GTerm.mk ur.gKind ur.gName ur.gNum [])
end
set_option maxHeartbeats 4000000 in
theorem Z76 : ∀ k : Nat, (∀ {ur : GTerm} {v2 : List (Int × Int)} {r : GTerm}, Zk k ur v2 = some r → FnO Tryz.prog 33 [.v (.agg (GTerm.q ur)) [], .v (.func 34 [.vptr [.mp (mgk v2) (mgv v2)]]) []] (.v (.agg (GTerm.q r)) [(3, .app 29)]) []) := by
  intro k
  induction k with
  | zero =>
    · intro ur v2 r h
      exact (Z1r (by rw [Zk] at h; exact h)).elim
  | succ k ih =>
    have Z7n := @ih
    · intro ur v2 r h
      rw [Zk] at h
      refine FnO.o2 Tryz.func33 (rfl : Tryz.f33.body = some _) ?_
      intro w0 X0 Fin pv0 pb gt
      apply Wc.seq
      refine Wc.r0 ⟨[tV 1 (.func 34 [.vptr [.mp (mgk v2) (mgv v2)]]), tP 2 2, tP 4 4], [bC 2 (GTerm.q ur), bX0 4], []⟩ ?_
      apply Wc.seq
      refine Wc.r0 ⟨[tV 1 (.func 34 [.vptr [.mp (mgk v2) (mgv v2)]]), tP 2 2, tP 4 4, tP 5 5], [bC 2 (GTerm.q ur), bX0 4, bC 5 (GTerm.q ur)], []⟩ ?_
      apply Wc.seq
      refine Wc.r0 ⟨[tV 1 (.func 34 [.vptr [.mp (mgk v2) (mgv v2)]]), tP 2 2, tP 4 4, tP 5 5], [bC 2 (GTerm.q ur), bX0 4, (5, .cells [aI ur.gKind, .str ur.gName, aI ur.gNum, .sl (List.map GTerm.c [])] [(3, .app 29)])], []⟩ ?_
      refine Wc.seqJ (fun st => ∃ (u9y : GTerm), st = ⟨[tV 1 (.func 34 [.vptr [.mp (mgk v2) (mgv v2)]]), tP 2 2, tP 4 4, tP 5 5], [bC 2 (GTerm.q ur), bX0 4, (5, .cells (GTerm.q u9y) [(3, .app 29)])], []⟩ ∧ Z1o k (Zk k) ur v2 u9y = some r) ?_ ?_
      · apply Wc.seq
        refine Wc.r0 ⟨[tV 1 (.func 34 [.vptr [.mp (mgk v2) (mgv v2)]]), tP 2 2, tP 4 4, tP 5 5, tB 12 (ur.gKind == 1)], [bC 2 (GTerm.q ur), bX0 4, (5, .cells [aI ur.gKind, .str ur.gName, aI ur.gNum, .sl (List.map GTerm.c [])] [(3, .app 29)])], []⟩ ?_
        rcases oif h with ⟨h1031, h⟩ | ⟨h1031, h⟩
        · refine Wc.cT h1031 ?_
          obtain ⟨u5v, h1032, h⟩ := Z0 h
          refine Wc.r2 [{}, {}, {}, { r := some (.v (aI u5v) []) }] ⟨[tV 1 (.func 34 [.vptr [.mp (mgk v2) (mgv v2)]]), tP 2 2, tP 4 4, tP 5 5], [bC 2 (GTerm.q ur), bX0 4, (5, .cells [aI ur.gKind, .str ur.gName, aI u5v, .sl (List.map GTerm.c [])] [(3, .app 29)])], []⟩ (.cons (Zkt h1032) .nil) ?_
          exact ⟨_, rfl, h⟩
        · refine Wc.cF h1031 ?_
          refine Wc.fx [] ⟨[tV 1 (.func 34 [.vptr [.mp (mgk v2) (mgv v2)]]), tP 2 2, tP 4 4, tP 5 5], [bC 2 (GTerm.q ur), bX0 4, (5, .cells [aI ur.gKind, .str ur.gName, aI ur.gNum, .sl (List.map GTerm.c [])] [(3, .app 29)])], []⟩ ?_
          refine Wc.skip ?_
          exact ⟨_, rfl, h⟩
      · rintro st ⟨u9y, rfl, h⟩
        apply Wc.seq
        apply Wc.seq
        refine Wc.r2 [{}, {}, { v := some (aI (ur.gKids.length : Int)) }] ⟨[tV 1 (.func 34 [.vptr [.mp (mgk v2) (mgv v2)]]), tP 4 4, tP 5 5, tV 19 (.sl (List.map GTerm.c ur.gKids)), tI 20 (ur.gKids.length : Int), tI 21 0], [bX0 4, (5, .cells (GTerm.q u9y) [(3, .app 29)])], []⟩ (.cons (Zn GTerm.c ur.gKids) .nil) ?_
        obtain ⟨out2, h1026, h⟩ := Z0 h
        refine Wc.lastJ (fun st => ∃ (u53 : GTerm), out2 = .done u53 ∧ st = ⟨[tP 4 4, tP 5 5], [bX0 4, (5, .cells (GTerm.q u53) [(3, .app 29)])], []⟩) ?_ ?_
        · refine Wc.block ?_
          refine Wc.loop (fun m st => ∃ (zu : Int) (z7 : GTerm), st = ⟨[tV 1 (.func 34 [.vptr [.mp (mgk v2) (mgv v2)]]), tP 4 4, tP 5 5, tV 19 (.sl (List.map GTerm.c ur.gKids)), tI 20 (ur.gKids.length : Int), tI 21 zu], [bX0 4, (5, .cells (GTerm.q z7) [(3, .app 29)])], []⟩ ∧ Z1n k (Zk k) ur v2 m zu z7 = some out2) ?_ k ⟨_, _, rfl, h1026⟩
          rintro m st ⟨zu, z7, rfl, h1026⟩
          cases m with
          | zero => exact (Z1r h1026).elim
          | succ m =>
            apply Wc.seq
            refine Wc.r0 ⟨[tV 1 (.func 34 [.vptr [.mp (mgk v2) (mgv v2)]]), tP 4 4, tP 5 5, tV 19 (.sl (List.map GTerm.c ur.gKids)), tI 20 (ur.gKids.length : Int), tI 21 zu, tB 22 (decide (zu < (ur.gKids.length : Int)))], [bX0 4, (5, .cells (GTerm.q z7) [(3, .app 29)])], []⟩ ?_
            apply Wc.seq
            rcases oif h1026 with ⟨h1027, h1026⟩ | ⟨h1027, h1026⟩
            · refine Wc.cT h1027 ?_
              refine Wc.fx [] ⟨[tV 1 (.func 34 [.vptr [.mp (mgk v2) (mgv v2)]]), tP 4 4, tP 5 5, tV 19 (.sl (List.map GTerm.c ur.gKids)), tI 20 (ur.gKids.length : Int), tI 21 zu], [bX0 4, (5, .cells (GTerm.q z7) [(3, .app 29)])], []⟩ ?_
              refine Wc.skip ?_
              apply Wc.seq
              refine Wc.block ?_
              apply Wc.seq
              obtain ⟨u9x, h1028, h1026⟩ := Z0 h1026
              refine Wc.r2 [{ v := some (.vptr (GTerm.q u9x)) }] ⟨[tV 1 (.func 34 [.vptr [.mp (mgk v2) (mgv v2)]]), tP 4 4, tP 5 5, tP 7 7, tV 19 (.sl (List.map GTerm.c ur.gKids)), tI 20 (ur.gKids.length : Int), tI 21 zu], [bX0 4, (5, .cells (GTerm.q z7) [(3, .app 29)]), bC 7 (GTerm.q u9x)], []⟩ (.cons (Z19 (c := GTerm.c) (GTerm.c_eq u9x) GTerm.c_len h1028) (.cons (Z18 4 (GTerm.q u9x)) .nil)) ?_
              obtain ⟨z8, h1029, h1026⟩ := Z0 h1026
              obtain ⟨h1030, h1026⟩ := Zg h1026
              refine Wc.draw hmix [{}, { md := 1 }, {}, {}, { r := some (.v (.agg (GTerm.q z8)) [(3, .app 29)]) }, { c := some (List.map GTerm.c [z8]) }, { c := some (List.map GTerm.c (z7.gKids ++ [z8])), tk := [26] }, {}, { tk := [31] }] [] [1, 4, 5, 19, 20, 21] [4, 5] [] ⟨[tV 1 (.func 34 [.vptr [.mp (mgk v2) (mgv v2)]]), tP 4 4, tP 5 5, tV 19 (.sl (List.map GTerm.c ur.gKids)), tI 20 (ur.gKids.length : Int), tI 21 zu], [bX0 4, (5, .cells [aI z7.gKind, .str z7.gName, aI z7.gNum, .sl (List.map GTerm.c (z7.gKids ++ [z8]))] [(3, .app 29)])], []⟩ _ (by kernel_rfl) (fun X => by kernel_rfl) (.cons (Z7n h1029) (.cons (Z3r (c := GTerm.c) (x := z8) (GTerm.c_eq z8) (Z4g GTerm.c)) (.cons (Z75 GTerm.c z7.gKids [z8]) (.cons (Z53 (c := GTerm.c) (ys := [z8]) GTerm.c_leaf) (.cons (Z52 (c := GTerm.c) (xs := z7.gKids) (ys := [z8]) GTerm.c_len h1030) .nil))))) ?_
              refine Wc.r0 ⟨[tV 1 (.func 34 [.vptr [.mp (mgk v2) (mgv v2)]]), tP 4 4, tP 5 5, tV 19 (.sl (List.map GTerm.c ur.gKids)), tI 20 (ur.gKids.length : Int), tI 21 (wr.i64 (zu + 1))], [bX0 4, (5, .cells [aI z7.gKind, .str z7.gName, aI z7.gNum, .sl (List.map GTerm.c (z7.gKids ++ [z8]))] [(3, .app 29)])], []⟩ ?_
              exact ⟨_, Nat.lt_succ_self _, _, _, rfl, h1026⟩
            · refine Wc.cF h1027 ?_
              refine Wc.fx [] ⟨[tP 4 4, tP 5 5], [bX0 4, (5, .cells (GTerm.q z7) [(3, .app 29)])], []⟩ ?_
              refine Wc.exit ?_
              cases h1026
              exact ⟨_, rfl, rfl⟩
        · rintro st ⟨u53, rfl, rfl⟩
          apply Wc.seq
          refine Wc.r1 [{ md := 1 }, { tk := [34] }] ⟨[tP 4 4], [(4, .cells (GTerm.q u53) [(3, .app 29)])], []⟩ ?_
          cases h; exact Wc.ret dn
theorem Z8l {k : Nat} {ur : GTerm} {v2 : List (Int × Int)} {r : GTerm} (h : Zk k ur v2 = some r) : FnO Tryz.prog 33 [.v (.agg (GTerm.q ur)) [], .v (.func 34 [.vptr [.mp (mgk v2) (mgv v2)]]) []] (.v (.agg (GTerm.q r)) [(3, .app 29)]) [] := (Z76 k) h

def Z6g (k : Nat) (z2 : (List Int)) (u1c : (List Int)) : Nat → Int → (List (Int × Int)) → Option (Out Bool (List (Int × Int)))
  | 0, _, _ => none
  | m + 1, u3o, u1d =>
    if (decide (u3o < (z2.length : Int))) = true then
      (at' z2 u3o).bind fun u54 =>
      (at' u1c u3o).bind fun zm =>
      Z6g k z2 u1c m (wr.i64 (u3o + 1)) (mset u1d u54 zm)
    else
      some (.done u1d)
def Z9d (k : Nat) (z1 : GTerm) (u0d : GTerm) : Option Bool :=
  (Zal k z1).bind fun z2 =>
  (Zal k u0d).bind fun u1c =>
  if ((z2.length : Int) != (u1c.length : Int)) = true then
    some false
  else
    (Z6g k z2 u1c k 0 []).bind fun out1 => match out1 with
    | .ret r => some r
    | .done u74 =>
      (Zk k z1 u74).bind fun u5f =>
      (Z49 k u5f u0d).bind fun ug2 =>
      some ug2
theorem Zoh {k : Nat} {z1 : GTerm} {u0d : GTerm} {r : Bool} (h : Z9d k z1 u0d = some r) : FnO Tryz.prog 18 [.v (.agg (GTerm.q z1)) [], .v (.agg (GTerm.q u0d)) []] (.v (.bool r) []) [] := by
  refine FnO.o2 Tryz.func18 (rfl : Tryz.f18.body = some _) ?_
  intro w0 X0 Fin pv0 pb gt
  unfold Z9d at h
  apply Wc.seq
  refine Wc.r0 ⟨[tP 2 2, tP 3 3], [bC 2 (GTerm.q z1), bC 3 (GTerm.q u0d)], []⟩ ?_
  apply Wc.seq
  obtain ⟨z2, h1012, h⟩ := Z0 h
  obtain ⟨u1c, h1013, h⟩ := Z0 h
  refine Wc.draw hmix [{}, { r := some (.v (.sl (List.map cI.i64 z2)) []) }, {}, { r := some (.v (.sl (List.map cI.i64 u1c)) []) }] [] [2, 3, 5, 6] [2, 3] [] ⟨[tP 2 2, tP 3 3, tV 5 (.sl (List.map cI.i64 z2)), tV 6 (.sl (List.map cI.i64 u1c))], [bC 2 (GTerm.q z1), bC 3 (GTerm.q u0d)], []⟩ _ (by kernel_rfl) (fun X => by kernel_rfl) (.cons (Zks h1012) (.cons (Zks h1013) .nil)) ?_
  apply Wc.seq
  apply Wc.seq
  refine Wc.r2 [{}, { v := some (aI (z2.length : Int)) }, {}, { v := some (aI (u1c.length : Int)) }] ⟨[tP 2 2, tP 3 3, tV 5 (.sl (List.map cI.i64 z2)), tV 6 (.sl (List.map cI.i64 u1c)), tB 18 ((z2.length : Int) != (u1c.length : Int))], [bC 2 (GTerm.q z1), bC 3 (GTerm.q u0d)], []⟩ (.cons (Zn cI.i64 z2) (.cons (Zn cI.i64 u1c) .nil)) ?_
  rcases oif h with ⟨h1014, h⟩ | ⟨h1014, h⟩
  · refine Wc.cT h1014 ?_
    apply Wc.seq
    refine Wc.r0 ⟨[tB 4 false], [], []⟩ ?_
    cases h; exact Wc.ret dn
  · refine Wc.cF h1014 ?_
    refine Wc.fx [] ⟨[tP 2 2, tP 3 3, tV 5 (.sl (List.map cI.i64 z2)), tV 6 (.sl (List.map cI.i64 u1c))], [bC 2 (GTerm.q z1), bC 3 (GTerm.q u0d)], []⟩ ?_
    refine Wc.skip ?_
    apply Wc.seq
    refine Wc.r0 ⟨[tP 2 2, tP 3 3, tV 5 (.sl (List.map cI.i64 z2)), tV 6 (.sl (List.map cI.i64 u1c)), tP 7 7], [bC 2 (GTerm.q z1), bC 3 (GTerm.q u0d), (7, .ref 19), (19, .map (mgk []) (mgv []))], []⟩ ?_
    apply Wc.seq
    apply Wc.seq
    refine Wc.r2 [{}, { v := some (aI (z2.length : Int)) }] ⟨[tP 2 2, tP 3 3, tV 6 (.sl (List.map cI.i64 u1c)), tP 7 7, tV 20 (.sl (List.map cI.i64 z2)), tI 21 (z2.length : Int), tI 22 0], [bC 2 (GTerm.q z1), bC 3 (GTerm.q u0d), (7, .ref 19), (19, .map (mgk []) (mgv []))], []⟩ (.cons (Zn cI.i64 z2) .nil) ?_
    obtain ⟨out1, h1015, h⟩ := Z0 h
    refine Wc.lastJ (fun st => ∃ (u74 : List (Int × Int)), out1 = .done u74 ∧ st = ⟨[tP 2 2, tP 3 3, tP 7 7], [bC 2 (GTerm.q z1), bC 3 (GTerm.q u0d), (7, .ref 19), (19, .map (mgk u74) (mgv u74))], []⟩) ?_ ?_
    · refine Wc.block ?_
      refine Wc.loop (fun m st => ∃ (u3o : Int) (u1d : List (Int × Int)), st = ⟨[tP 2 2, tP 3 3, tV 6 (.sl (List.map cI.i64 u1c)), tP 7 7, tV 20 (.sl (List.map cI.i64 z2)), tI 21 (z2.length : Int), tI 22 u3o], [bC 2 (GTerm.q z1), bC 3 (GTerm.q u0d), (7, .ref 19), (19, .map (mgk u1d) (mgv u1d))], []⟩ ∧ Z6g k z2 u1c m u3o u1d = some out1) ?_ k ⟨_, _, rfl, h1015⟩
      rintro m st ⟨u3o, u1d, rfl, h1015⟩
      cases m with
      | zero => exact (Z1r h1015).elim
      | succ m =>
        apply Wc.seq
        refine Wc.r0 ⟨[tP 2 2, tP 3 3, tV 6 (.sl (List.map cI.i64 u1c)), tP 7 7, tV 20 (.sl (List.map cI.i64 z2)), tI 21 (z2.length : Int), tI 22 u3o, tB 23 (decide (u3o < (z2.length : Int)))], [bC 2 (GTerm.q z1), bC 3 (GTerm.q u0d), (7, .ref 19), (19, .map (mgk u1d) (mgv u1d))], []⟩ ?_
        apply Wc.seq
        rcases oif h1015 with ⟨h1016, h1015⟩ | ⟨h1016, h1015⟩
        · refine Wc.cT h1016 ?_
          refine Wc.fx [] ⟨[tP 2 2, tP 3 3, tV 6 (.sl (List.map cI.i64 u1c)), tP 7 7, tV 20 (.sl (List.map cI.i64 z2)), tI 21 (z2.length : Int), tI 22 u3o], [bC 2 (GTerm.q z1), bC 3 (GTerm.q u0d), (7, .ref 19), (19, .map (mgk u1d) (mgv u1d))], []⟩ ?_
          refine Wc.skip ?_
          apply Wc.seq
          refine Wc.block ?_
          apply Wc.seq
          obtain ⟨u54, h1017, h1015⟩ := Z0 h1015
          refine Wc.r2 [{}, { v := some (.vptr [aI u54]) }] ⟨[tP 2 2, tP 3 3, tV 6 (.sl (List.map cI.i64 u1c)), tP 7 7, tI 8 u3o, tI 9 u54, tV 20 (.sl (List.map cI.i64 z2)), tI 21 (z2.length : Int), tI 22 u3o], [bC 2 (GTerm.q z1), bC 3 (GTerm.q u0d), (7, .ref 19), (19, .map (mgk u1d) (mgv u1d))], []⟩ (.cons (Z19 (c := cI.i64) rfl cI.i64_len h1017) (.cons (Z18 1 [aI u54]) .nil)) ?_
          obtain ⟨zm, h1018, h1015⟩ := Z0 h1015
          refine Wc.draw hmix [{}, {}, {}, {}, { v := some (.vptr [aI zm]) }, {}, { c := some [mgk (mset u1d u54 zm), mgv (mset u1d u54 zm)] }] [] [2, 3, 6, 7, 20, 21, 22] [2, 3, 7, 19] [] ⟨[tP 2 2, tP 3 3, tV 6 (.sl (List.map cI.i64 u1c)), tP 7 7, tV 20 (.sl (List.map cI.i64 z2)), tI 21 (z2.length : Int), tI 22 u3o], [bC 2 (GTerm.q z1), bC 3 (GTerm.q u0d), (7, .ref 19), (19, .map (mgk (mset u1d u54 zm)) (mgv (mset u1d u54 zm)))], []⟩ _ (by kernel_rfl) (fun X => by kernel_rfl) (.cons (Z19 (c := cI.i64) rfl cI.i64_len h1018) (.cons (Z18 1 [aI zm]) (.cons (Zo6 u1d u54 zm) .nil))) ?_
          refine Wc.r0 ⟨[tP 2 2, tP 3 3, tV 6 (.sl (List.map cI.i64 u1c)), tP 7 7, tV 20 (.sl (List.map cI.i64 z2)), tI 21 (z2.length : Int), tI 22 (wr.i64 (u3o + 1))], [bC 2 (GTerm.q z1), bC 3 (GTerm.q u0d), (7, .ref 19), (19, .map (mgk (mset u1d u54 zm)) (mgv (mset u1d u54 zm)))], []⟩ ?_
          exact ⟨_, Nat.lt_succ_self _, _, _, rfl, h1015⟩
        · refine Wc.cF h1016 ?_
          refine Wc.fx [] ⟨[tP 2 2, tP 3 3, tP 7 7], [bC 2 (GTerm.q z1), bC 3 (GTerm.q u0d), (7, .ref 19), (19, .map (mgk u1d) (mgv u1d))], []⟩ ?_
          refine Wc.exit ?_
          cases h1015
          exact ⟨_, rfl, rfl⟩
    · rintro st ⟨u74, rfl, rfl⟩
      apply Wc.seq
      refine Wc.freezeM 7 ⟨[tP 2 2, tP 3 3, tV 7 (.vptr [.mp (mgk u74) (mgv u74)])], [bC 2 (GTerm.q z1), bC 3 (GTerm.q u0d)], []⟩ (by kernel_rfl) ?_
      obtain ⟨u5f, h1019, h⟩ := Z0 h
      obtain ⟨ug2, h1020, h⟩ := Z0 h
      refine Wc.draw hmix [{}, {}, { r := some (.v (.agg (GTerm.q u5f)) [(3, .app 29)]) }, {}, { r := some (.v (.bool ug2) []) }] [] [4] [] [] ⟨[tB 4 ug2], [], []⟩ _ (by kernel_rfl) (fun X => by kernel_rfl) (.cons (Z8l h1019) (.cons (Zmi h1020) .nil)) ?_
      cases h; exact Wc.ret dn

def Z7e (k : Nat) (u5w : GTerm) : Option Bool :=
  (Z8b k u5w).bind fun u6g =>
  if (!u6g) = true then
    some true
  else
    (Z7c k u5w).bind fun ug3 =>
    if Z11 ug3 (bs [32, 46]) then
      (Z8c k (ug3 ++ (bs [32, 46]))).bind fun u75 =>
      if u75.2.2 = true then
        (Z9d k u75.1 u5w).bind fun ug4 =>
        some ug4
      else
        some false
    else none
theorem Zkv {k : Nat} {u5w : GTerm} {r : Bool} (h : Z7e k u5w = some r) : FnO Tryz.prog 7 [.v (.agg (GTerm.q u5w)) []] (.v (.bool r) []) [] := by
  refine FnO.o2 Tryz.func7 (rfl : Tryz.f7.body = some _) ?_
  intro w0 X0 Fin pv0 pb gt
  unfold Z7e at h
  apply Wc.seq
  refine Wc.r0 ⟨[tP 1 1], [bC 1 (GTerm.q u5w)], []⟩ ?_
  apply Wc.seq
  apply Wc.seq
  obtain ⟨u6g, h1021, h⟩ := Z0 h
  refine Wc.r2 [{}, { r := some (.v (.bool u6g) []) }] ⟨[tP 1 1, tB 8 (!u6g)], [bC 1 (GTerm.q u5w)], []⟩ (.cons (Zgg h1021) .nil) ?_
  rcases oif h with ⟨h1022, h⟩ | ⟨h1022, h⟩
  · refine Wc.cT h1022 ?_
    apply Wc.seq
    refine Wc.r0 ⟨[tB 2 true], [], []⟩ ?_
    cases h; exact Wc.ret dn
  · refine Wc.cF h1022 ?_
    refine Wc.fx [] ⟨[tP 1 1], [bC 1 (GTerm.q u5w)], []⟩ ?_
    refine Wc.skip ?_
    apply Wc.seq
    obtain ⟨ug3, h1023, h⟩ := Z0 h
    obtain ⟨h1024, h⟩ := Zg h
    obtain ⟨u75, h1025, h⟩ := Z0 h
    refine Wc.r2 [{}, { r := some (.v (.str ug3) []) }, {}, { r := some (.v (.tup [.agg (GTerm.q u75.1), .sl (List.map cS u75.2.1), .bool u75.2.2]) []) }] ⟨[tP 1 1, tP 3 3, tB 5 u75.2.2], [bC 1 (GTerm.q u5w), bC 3 (GTerm.q u75.1)], []⟩ (.cons (Zkr h1023) (.cons h1024 (.cons (Zmj h1025) .nil))) ?_
    apply Wc.seq
    rcases oif h with ⟨h1026, h⟩ | ⟨h1026, h⟩
    · obtain ⟨ug4, h1027, h⟩ := Z0 h
      refine Wc.r2 [{}, rT, {}, {}, { r := some (.v (.bool ug4) []) }] ⟨[tB 2 ug4], [], []⟩ (cb h1026 (.cons (Zoh h1027) .nil)) ?_
      cases h; exact Wc.ret dn
    · refine Wc.r2 [{}, rF] ⟨[tB 2 false], [], []⟩ (cb h1026 .nil) ?_
      cases h; exact Wc.ret dn

def Z60 (k : Nat) (Zdy : GTerm → GTerm → Option Bool) (Zie : (List GTerm) → (List GTerm) → Option Bool) (z9 : List GTerm) (u05 : List GTerm) : Nat → Int → Option (Out Bool Unit)
  | 0, _ => none
  | m + 1, zu =>
    if (decide (zu < (z9.length : Int))) = true then
      (at' z9 zu).bind fun z7 =>
      (at' u05 zu).bind fun u53 =>
      (Zdy z7 u53).bind fun ug5 =>
      if (!ug5) = true then
        some (.ret false)
      else
        Z60 k Zdy Zie z9 u05 m (wr.i64 (zu + 1))
    else
      some (.done ())
mutual
def Z2t : Nat → GTerm → GTerm → Option Bool
  | 0, _, _ => none
  | k + 1, u1e, u1f =>
    if (u1e.gKind != u1f.gKind) = true then
      some false
    else
      if (!(sEq u1e.gName u1f.gName)) = true then
        some false
      else
        if (u1e.gNum != u1f.gNum) = true then
          some false
        else
          (Z3h k u1e.gKids u1f.gKids).bind fun ug6 =>
          if (!ug6) = true then
            some false
          else
            some true
def Z3h : Nat → (List GTerm) → (List GTerm) → Option Bool
  | 0, _, _ => none
  | k + 1, z9, u05 =>
    if ((z9.length : Int) != (u05.length : Int)) = true then
      some false
    else
      (Z60 k (Z2t k) (Z3h k) z9 u05 k 0).bind fun out1 => match out1 with
      | .ret r => some r
      | .done () =>
        some true
end
set_option maxHeartbeats 4000000 in
theorem Zel : ∀ k : Nat, (∀ {u1e : GTerm} {u1f : GTerm} {r : Bool}, Z2t k u1e u1f = some r → FnO Tryz.prog 8 [.v (.agg (GTerm.q u1e)) [], .v (.agg (GTerm.q u1f)) []] (.v (.bool r) []) []) ∧
    (∀ {z9 : List GTerm} {u05 : List GTerm} {r : Bool}, Z3h k z9 u05 = some r → FnO Tryz.prog 19 [.v (.sl (List.map GTerm.c z9)) [], .v (.sl (List.map GTerm.c u05)) []] (.v (.bool r) []) []) := by
  intro k
  induction k with
  | zero =>
    refine ⟨?_, ?_⟩
    · intro u1e u1f r h
      exact (Z1r (by rw [Z2t] at h; exact h)).elim
    · intro z9 u05 r h
      exact (Z1r (by rw [Z3h] at h; exact h)).elim
  | succ k ih =>
    obtain ⟨Zg0, Zef⟩ := ih
    refine ⟨?_, ?_⟩
    · intro u1e u1f r h
      rw [Z2t] at h
      refine FnO.o2 Tryz.func8 (rfl : Tryz.f8.body = some _) ?_
      intro w0 X0 Fin pv0 pb gt
      apply Wc.seq
      refine Wc.r0 ⟨[tP 2 2, tP 3 3], [bC 2 (GTerm.q u1e), bC 3 (GTerm.q u1f)], []⟩ ?_
      apply Wc.seq
      apply Wc.seq
      refine Wc.r0 ⟨[tP 2 2, tP 3 3, tB 9 (u1e.gKind != u1f.gKind)], [bC 2 (GTerm.q u1e), bC 3 (GTerm.q u1f)], []⟩ ?_
      rcases oif h with ⟨h1028, h⟩ | ⟨h1028, h⟩
      · refine Wc.cT h1028 ?_
        apply Wc.seq
        refine Wc.r0 ⟨[tB 4 false], [], []⟩ ?_
        cases h; exact Wc.ret dn
      · refine Wc.cF h1028 ?_
        refine Wc.fx [] ⟨[tP 2 2, tP 3 3], [bC 2 (GTerm.q u1e), bC 3 (GTerm.q u1f)], []⟩ ?_
        refine Wc.skip ?_
        apply Wc.seq
        apply Wc.seq
        refine Wc.r0 ⟨[tP 2 2, tP 3 3, tB 14 (!(sEq u1e.gName u1f.gName))], [bC 2 (GTerm.q u1e), bC 3 (GTerm.q u1f)], []⟩ ?_
        rcases oif h with ⟨h1029, h⟩ | ⟨h1029, h⟩
        · refine Wc.cT h1029 ?_
          apply Wc.seq
          refine Wc.r0 ⟨[tB 4 false], [], []⟩ ?_
          cases h; exact Wc.ret dn
        · refine Wc.cF h1029 ?_
          refine Wc.fx [] ⟨[tP 2 2, tP 3 3], [bC 2 (GTerm.q u1e), bC 3 (GTerm.q u1f)], []⟩ ?_
          refine Wc.skip ?_
          apply Wc.seq
          apply Wc.seq
          refine Wc.r0 ⟨[tP 2 2, tP 3 3, tB 19 (u1e.gNum != u1f.gNum)], [bC 2 (GTerm.q u1e), bC 3 (GTerm.q u1f)], []⟩ ?_
          rcases oif h with ⟨h1030, h⟩ | ⟨h1030, h⟩
          · refine Wc.cT h1030 ?_
            apply Wc.seq
            refine Wc.r0 ⟨[tB 4 false], [], []⟩ ?_
            cases h; exact Wc.ret dn
          · refine Wc.cF h1030 ?_
            refine Wc.fx [] ⟨[tP 2 2, tP 3 3], [bC 2 (GTerm.q u1e), bC 3 (GTerm.q u1f)], []⟩ ?_
            refine Wc.skip ?_
            apply Wc.seq
            apply Wc.seq
            obtain ⟨ug6, h1031, h⟩ := Z0 h
            refine Wc.r2 [{}, {}, {}, {}, { r := some (.v (.bool ug6) []) }] ⟨[tB 25 (!ug6)], [], []⟩ (.cons (Zef h1031) .nil) ?_
            rcases oif h with ⟨h1032, h⟩ | ⟨h1032, h⟩
            · refine Wc.cT h1032 ?_
              apply Wc.seq
              refine Wc.r0 ⟨[tB 4 false], [], []⟩ ?_
              cases h; exact Wc.ret dn
            · refine Wc.cF h1032 ?_
              refine Wc.fx [] ⟨[], [], []⟩ ?_
              refine Wc.skip ?_
              apply Wc.seq
              refine Wc.r0 ⟨[tB 4 true], [], []⟩ ?_
              cases h; exact Wc.ret dn
    · intro z9 u05 r h
      rw [Z3h] at h
      refine FnO.o2 Tryz.func19 (rfl : Tryz.f19.body = some _) ?_
      intro w0 X0 Fin pv0 pb gt
      apply Wc.seq
      refine Wc.r0 ⟨[tV 0 (.sl (List.map GTerm.c z9)), tV 1 (.sl (List.map GTerm.c u05))], [], []⟩ ?_
      apply Wc.seq
      apply Wc.seq
      refine Wc.r2 [{}, { v := some (aI (z9.length : Int)) }, {}, { v := some (aI (u05.length : Int)) }] ⟨[tV 0 (.sl (List.map GTerm.c z9)), tV 1 (.sl (List.map GTerm.c u05)), tB 10 ((z9.length : Int) != (u05.length : Int))], [], []⟩ (.cons (Zn GTerm.c z9) (.cons (Zn GTerm.c u05) .nil)) ?_
      rcases oif h with ⟨h1033, h⟩ | ⟨h1033, h⟩
      · refine Wc.cT h1033 ?_
        apply Wc.seq
        refine Wc.r0 ⟨[tB 4 false], [], []⟩ ?_
        cases h; exact Wc.ret dn
      · refine Wc.cF h1033 ?_
        refine Wc.fx [] ⟨[tV 0 (.sl (List.map GTerm.c z9)), tV 1 (.sl (List.map GTerm.c u05))], [], []⟩ ?_
        refine Wc.skip ?_
        apply Wc.seq
        apply Wc.seq
        refine Wc.r0 ⟨[tV 0 (.sl (List.map GTerm.c z9)), tV 1 (.sl (List.map GTerm.c u05)), tI 5 0], [], []⟩ ?_
        obtain ⟨out1, h1034, h⟩ := Z0 h
        refine Wc.lastJ (fun st => out1 = .done () ∧ st = ⟨[], [], []⟩) ?_ ?_
        · refine Wc.block ?_
          refine Wc.loop (fun m st => ∃ (zu : Int), st = ⟨[tV 0 (.sl (List.map GTerm.c z9)), tV 1 (.sl (List.map GTerm.c u05)), tI 5 zu], [], []⟩ ∧ Z60 k (Z2t k) (Z3h k) z9 u05 m zu = some out1) ?_ k ⟨_, rfl, h1034⟩
          rintro m st ⟨zu, rfl, h1034⟩
          cases m with
          | zero => exact (Z1r h1034).elim
          | succ m =>
            apply Wc.seq
            apply Wc.seq
            refine Wc.r2 [{}, {}, { v := some (aI (z9.length : Int)) }] ⟨[tV 0 (.sl (List.map GTerm.c z9)), tV 1 (.sl (List.map GTerm.c u05)), tI 5 zu, tB 14 (decide (zu < (z9.length : Int)))], [], []⟩ (.cons (Zn GTerm.c z9) .nil) ?_
            rcases oif h1034 with ⟨h1035, h1034⟩ | ⟨h1035, h1034⟩
            · refine Wc.cT h1035 ?_
              refine Wc.fx [] ⟨[tV 0 (.sl (List.map GTerm.c z9)), tV 1 (.sl (List.map GTerm.c u05)), tI 5 zu], [], []⟩ ?_
              refine Wc.skip ?_
              apply Wc.seq
              refine Wc.block ?_
              apply Wc.seq
              obtain ⟨z7, h1036, h1034⟩ := Z0 h1034
              obtain ⟨u53, h1037, h1034⟩ := Z0 h1034
              obtain ⟨ug5, h1038, h1034⟩ := Z0 h1034
              refine Wc.draw hmix [{}, {}, { v := some (.vptr (GTerm.q z7)) }, {}, {}, {}, { v := some (.vptr (GTerm.q u53)) }, {}, { r := some (.v (.bool ug5) []) }] [] [0, 1, 5, 26] [] [] ⟨[tV 0 (.sl (List.map GTerm.c z9)), tV 1 (.sl (List.map GTerm.c u05)), tI 5 zu, tB 26 (!ug5)], [], []⟩ _ (by kernel_rfl) (fun X => by kernel_rfl) (.cons (Z19 (c := GTerm.c) (GTerm.c_eq z7) GTerm.c_len h1036) (.cons (Z18 4 (GTerm.q z7)) (.cons (Z19 (c := GTerm.c) (GTerm.c_eq u53) GTerm.c_len h1037) (.cons (Z18 4 (GTerm.q u53)) (.cons (Zg0 h1038) .nil))))) ?_
              rcases oif h1034 with ⟨h1039, h1034⟩ | ⟨h1039, h1034⟩
              · refine Wc.cT h1039 ?_
                apply Wc.seq
                refine Wc.r0 ⟨[tB 4 false], [], []⟩ ?_
                refine Wc.ret ?_
                cases h1034
                cases h
                exact ⟨.inl rfl, by kernel_rfl, by kernel_rfl⟩
              · refine Wc.cF h1039 ?_
                refine Wc.fx [] ⟨[tV 0 (.sl (List.map GTerm.c z9)), tV 1 (.sl (List.map GTerm.c u05)), tI 5 zu], [], []⟩ ?_
                refine Wc.skip ?_
                refine Wc.r0 ⟨[tV 0 (.sl (List.map GTerm.c z9)), tV 1 (.sl (List.map GTerm.c u05)), tI 5 (wr.i64 (zu + 1))], [], []⟩ ?_
                exact ⟨_, Nat.lt_succ_self _, _, rfl, h1034⟩
            · refine Wc.cF h1035 ?_
              refine Wc.fx [] ⟨[], [], []⟩ ?_
              refine Wc.exit ?_
              cases h1034
              exact ⟨rfl, rfl⟩
        · rintro st ⟨rfl, rfl⟩
          apply Wc.seq
          refine Wc.r0 ⟨[tB 4 true], [], []⟩ ?_
          cases h; exact Wc.ret dn
theorem Zkk {k : Nat} {u1e : GTerm} {u1f : GTerm} {r : Bool} (h : Z2t k u1e u1f = some r) : FnO Tryz.prog 8 [.v (.agg (GTerm.q u1e)) [], .v (.agg (GTerm.q u1f)) []] (.v (.bool r) []) [] := (Zel k).1 h


def Z3t (k : Nat) (z8 : GTerm) : Option Bool :=
  (Z2s k z8 1048576).bind fun u5v =>
  if (decide (u5v < 0)) = true then
    some true
  else
    (Z29 k z8).bind fun ugb =>
    (Z7l k ugb).bind fun u83 =>
    (Z29 k z8).bind fun u76 =>
    (Z7e k u76).bind fun udd =>
    if (!(udd == u83)) = true then
      some false
    else
      (Z29 k z8).bind fun ugc =>
      (Z2t k u76 ugc).bind fun ug7 =>
      if (!ug7) = true then
        some false
      else
        some true
theorem Zad {k : Nat} {z8 : GTerm} {r : Bool} (h : Z3t k z8 = some r) : FnO Tryz.prog 3 [.v (.agg (GTerm.q z8)) []] (.v (.bool r) []) [] := by
  refine FnO.o2 Tryz.func3 (rfl : Tryz.f3.body = some _) ?_
  intro w0 X0 Fin pv0 pb gt
  unfold Z3t at h
  apply Wc.seq
  refine Wc.r0 ⟨[tP 1 1], [bC 1 (GTerm.q z8)], []⟩ ?_
  apply Wc.seq
  refine Wc.r0 ⟨[tP 1 1, tI 3 1048576], [bC 1 (GTerm.q z8)], []⟩ ?_
  apply Wc.seq
  obtain ⟨u5v, h1040, h⟩ := Z0 h
  refine Wc.r2 [{}, {}, { r := some (.v (aI u5v) []) }] ⟨[tP 1 1, tI 3 u5v], [bC 1 (GTerm.q z8)], []⟩ (.cons (Zkj h1040) .nil) ?_
  apply Wc.seq
  apply Wc.seq
  refine Wc.r0 ⟨[tP 1 1, tB 11 (decide (u5v < 0))], [bC 1 (GTerm.q z8)], []⟩ ?_
  rcases oif h with ⟨h1041, h⟩ | ⟨h1041, h⟩
  · refine Wc.cT h1041 ?_
    apply Wc.seq
    refine Wc.r0 ⟨[tB 2 true], [], []⟩ ?_
    cases h; exact Wc.ret dn
  · refine Wc.cF h1041 ?_
    refine Wc.fx [] ⟨[tP 1 1], [bC 1 (GTerm.q z8)], []⟩ ?_
    refine Wc.skip ?_
    apply Wc.seq
    obtain ⟨ugb, h1042, h⟩ := Z0 h
    obtain ⟨u83, h1043, h⟩ := Z0 h
    refine Wc.r2 [{}, { r := some (.v (.agg (GTerm.q ugb)) []) }, { r := some (.v (.bool u83) []) }] ⟨[tP 1 1, tB 4 u83], [bC 1 (GTerm.q z8)], []⟩ (.cons (Zb0 h1042) (.cons (Zl5 h1043) .nil)) ?_
    apply Wc.seq
    obtain ⟨u76, h1044, h⟩ := Z0 h
    refine Wc.r2 [{}, { r := some (.v (.agg (GTerm.q u76)) []) }] ⟨[tP 1 1, tB 4 u83, tP 5 5], [bC 1 (GTerm.q z8), bC 5 (GTerm.q u76)], []⟩ (.cons (Zb0 h1044) .nil) ?_
    apply Wc.seq
    obtain ⟨udd, h1045, h⟩ := Z0 h
    refine Wc.r2 [{}, { r := some (.v (.bool udd) []) }] ⟨[tP 1 1, tB 4 u83, tP 5 5, tB 6 udd], [bC 1 (GTerm.q z8), bC 5 (GTerm.q u76)], []⟩ (.cons (Zkv h1045) .nil) ?_
    apply Wc.seq
    apply Wc.seq
    refine Wc.r0 ⟨[tP 1 1, tP 5 5, tB 21 (!(udd == u83))], [bC 1 (GTerm.q z8), bC 5 (GTerm.q u76)], []⟩ ?_
    rcases oif h with ⟨h1046, h⟩ | ⟨h1046, h⟩
    · refine Wc.cT h1046 ?_
      apply Wc.seq
      refine Wc.r0 ⟨[tB 2 false], [], []⟩ ?_
      cases h; exact Wc.ret dn
    · refine Wc.cF h1046 ?_
      refine Wc.fx [] ⟨[tP 1 1, tP 5 5], [bC 1 (GTerm.q z8), bC 5 (GTerm.q u76)], []⟩ ?_
      refine Wc.skip ?_
      apply Wc.seq
      apply Wc.seq
      obtain ⟨ugc, h1047, h⟩ := Z0 h
      obtain ⟨ug7, h1048, h⟩ := Z0 h
      refine Wc.draw hmix [{}, {}, { r := some (.v (.agg (GTerm.q ugc)) []) }, { r := some (.v (.bool ug7) []) }] [] [26] [] [] ⟨[tB 26 (!ug7)], [], []⟩ _ (by kernel_rfl) (fun X => by kernel_rfl) (.cons (Zb0 h1047) (.cons (Zkk h1048) .nil)) ?_
      rcases oif h with ⟨h1049, h⟩ | ⟨h1049, h⟩
      · refine Wc.cT h1049 ?_
        apply Wc.seq
        refine Wc.r0 ⟨[tB 2 false], [], []⟩ ?_
        cases h; exact Wc.ret dn
      · refine Wc.cF h1049 ?_
        refine Wc.fx [] ⟨[], [], []⟩ ?_
        refine Wc.skip ?_
        apply Wc.seq
        refine Wc.r0 ⟨[tB 2 true], [], []⟩ ?_
        cases h; exact Wc.ret dn
end Go.Proofs.YtkchjlmfonfjlaaGreatDoor

/- What the functions do, part 2. -/
import Derived.Test.YtkchjlmfonfjlaaGreatDoorFna
set_option linter.unusedVariables false
set_option linter.unusedSimpArgs false
namespace Go.Proofs.YtkchjlmfonfjlaaGreatDoor
open Go.RowKit Go.Bv
def Z50 (k : Nat) (zq : GTerm × (List ByteArray) × Int × Bool) (ub0 : Bool) : Option (GTerm × (List ByteArray) × Bool) :=
  if ub0 = true then
    some (GTerm.mk 0 (bs []) 0 [], [], false)
  else
    some (zq.1, zq.2.1, true)
def Z8f (k : Nat) (ub1 : ByteArray) : Option (GTerm × (List ByteArray) × Bool) :=
  (Z71 k ub1).bind fun u5h =>
  (Z5g k u5h.1 0).bind fun zq =>
  if (!zq.2.2.2) = true then
    Z50 k zq true
  else
    Z50 k zq (zq.2.2.1 != (u5h.1.length : Int))
theorem Zmm {k : Nat} {ub1 : ByteArray} {r : GTerm × (List ByteArray) × Bool} (h : Z8f k ub1 = some r) : FnO Tryz.prog 11 [.v (.str ub1) []] (.v (.tup [.agg (GTerm.q r.1), .sl (List.map cS r.2.1), .bool r.2.2]) [(4, .app 9)]) [] := by
  refine FnO.o2 Tryz.func11 (rfl : Tryz.f11.body = some _) ?_
  intro w0 X0 Fin pv0 pb gt
  unfold Z8f at h
  apply Wc.seq
  refine Wc.r0 ⟨[tS 0 ub1, tP 2 2], [bX0 2], []⟩ ?_
  apply Wc.seq
  obtain ⟨u5h, h422, h⟩ := Z0 h
  refine Wc.r2 [{}, { r := some (.v (.tup [.sl (List.map GSign.c u5h.1), .bool u5h.2]) [(0, .app 55)]) }, { tk := [13] }, { tk := [11] }, {}, { tk := [14] }] ⟨[tP 2 2, (5, (.v (.sl (List.map GSign.c u5h.1)), [(0, .app 55)]))], [bX0 2], []⟩ (.cons (Zhu h422) .nil) ?_
  apply Wc.seq
  obtain ⟨zq, h423, h⟩ := Z0 h
  refine Wc.r2 [{}, { r := some (.v (.tup [.agg (GTerm.q zq.1), .sl (List.map cS zq.2.1), aI zq.2.2.1, .bool zq.2.2.2]) [(4, .app 9)]) }, { tk := [18] }, {}, { tk := [16] }, {}, {}, {}, {}, { tk := [20] }] ⟨[tP 2 2, (5, (.v (.sl (List.map GSign.c u5h.1)), [(0, .app 55)])), tP 7 7, (8, (.v (.sl (List.map cS zq.2.1)), [(0, .app 9)])), tI 9 zq.2.2.1, tB 10 zq.2.2.2], [bX0 2, bC 7 (GTerm.q zq.1)], []⟩ (.cons (Zl6 h423) .nil) ?_
  apply Wc.seq
  refine Wc.seqJ (fun st => ∃ (ub0 : Bool), st = ⟨[tP 2 2, tP 7 7, (8, (.v (.sl (List.map cS zq.2.1)), [(0, .app 9)])), tB 30 ub0], [bX0 2, bC 7 (GTerm.q zq.1)], []⟩ ∧ Z50 k zq ub0 = some r) ?_ ?_
  · rcases oif h with ⟨h425, h⟩ | ⟨h425, h⟩
    · refine Wc.r2 [{}, {}, rT] ⟨[tP 2 2, tP 7 7, (8, (.v (.sl (List.map cS zq.2.1)), [(0, .app 9)])), tB 30 true], [bX0 2, bC 7 (GTerm.q zq.1)], []⟩ (cb h425 .nil) ?_
      exact ⟨_, rfl, h⟩
    · refine Wc.r2 [{}, {}, rF, {}, { tk := [5] }, { v := some (aI (u5h.1.length : Int)) }] ⟨[tP 2 2, tP 7 7, (8, (.v (.sl (List.map cS zq.2.1)), [(0, .app 9)])), tB 30 (zq.2.2.1 != (u5h.1.length : Int))], [bX0 2, bC 7 (GTerm.q zq.1)], []⟩ (cb h425 (.cons (Zn GSign.c u5h.1) .nil)) ?_
      exact ⟨_, rfl, h⟩
  · rintro st ⟨ub0, rfl, h⟩
    rcases oif h with ⟨h424, h⟩ | ⟨h424, h⟩
    · refine Wc.cT h424 ?_
      apply Wc.seq
      refine Wc.r2 [{}, { c := some (List.map cS []) }, { tk := [31] }, { tk := [32] }] ⟨[tP 2 2, (3, (.v (.sl (List.map cS [])), [(0, .app 9)])), tB 4 false], [bX0 2], []⟩ (.cons (Z4g cS) .nil) ?_
      refine Wc.fx [.un (.b 2 3)] ⟨[tP 2 2, (3, (.v (.sl (List.map cS [])), [(0, .app 9)])), tB 4 false], [bC 2 GTerm.z], []⟩ ?_
      cases h; exact Wc.ret dn
    · refine Wc.cF h424 ?_
      refine Wc.fx [] ⟨[tP 2 2, tP 7 7, (8, (.v (.sl (List.map cS zq.2.1)), [(0, .app 9)]))], [bX0 2, bC 7 (GTerm.q zq.1)], []⟩ ?_
      refine Wc.skip ?_
      apply Wc.seq
      refine Wc.r1 [{}, { tk := [8] }, {}, { tk := [34] }] ⟨[tP 2 2, (3, (.v (.sl (List.map cS zq.2.1)), [(0, .app 9)])), tB 4 true], [bC 2 (GTerm.q zq.1)], []⟩ ?_
      cases h; exact Wc.ret dn

def Z8t (k : Nat) (u4m : Int) : Option Int :=
  if (decide (u4m < 10)) = true then
    some (wr.u8 (wr.i64 (48 + u4m)))
  else
    some (wr.u8 (wr.i64 ((wr.i64 (97 + u4m)) - 10)))
theorem Zl2 {k : Nat} {u4m : Int} {r : Int} (h : Z8t k u4m = some r) : FnO Tryz.prog 73 [.v (aI u4m) []] (.v (.int .u8 r) []) [] := by
  refine FnO.o2 Tryz.func73 (rfl : Tryz.f73.body = some _) ?_
  intro w0 X0 Fin pv0 pb gt
  unfold Z8t at h
  apply Wc.seq
  refine Wc.r0 ⟨[tI 0 u4m], [], []⟩ ?_
  apply Wc.seq
  apply Wc.seq
  refine Wc.r0 ⟨[tI 0 u4m, tB 4 (decide (u4m < 10))], [], []⟩ ?_
  rcases oif h with ⟨h426, h⟩ | ⟨h426, h⟩
  · refine Wc.cT h426 ?_
    apply Wc.seq
    refine Wc.r0 ⟨[tV 2 (.int .u8 (wr.u8 (wr.i64 (48 + u4m))))], [], []⟩ ?_
    cases h; exact Wc.ret dn
  · refine Wc.cF h426 ?_
    refine Wc.fx [] ⟨[tI 0 u4m], [], []⟩ ?_
    refine Wc.skip ?_
    apply Wc.seq
    refine Wc.r0 ⟨[tV 2 (.int .u8 (wr.u8 (wr.i64 ((wr.i64 (97 + u4m)) - 10))))], [], []⟩ ?_
    cases h; exact Wc.ret dn

def Z7z (k : Nat) (bk_ : Int → ByteArray → Option (Out ByteArray ByteArray)) (u1j : ByteArray) (zr : Int) (ub2 : Int) : Option (Out ByteArray ByteArray) :=
  (Z8t k ub2).bind fun u5i =>
  if Z11 (strOfNums [u5i]) u1j then
    if (10 : Int) ≠ 0 then
      bk_ (wr.i64 (Int.tdiv zr 10)) ((strOfNums [u5i]) ++ u1j)
    else none
  else none
def Z45 (k : Nat) : Nat → Int → ByteArray → Option (Out ByteArray ByteArray)
  | 0, _, _ => none
  | m + 1, zr, u1j =>
    if (zr != 0) = true then
      if (10 : Int) ≠ 0 then
        if (decide ((Int.tmod zr 10) < 0)) = true then
          Z7z k (Z45 k m) u1j zr (wr.i64 (0 - (Int.tmod zr 10)))
        else
          Z7z k (Z45 k m) u1j zr (Int.tmod zr 10)
      else none
    else
      some (.done u1j)
def Z72 (k : Nat) (u03 : Int) : Option ByteArray :=
  if (u03 == 0) = true then
    some (bs [48])
  else
    (Z45 k k u03 (bs [])).bind fun out1 => match out1 with
    | .ret r => some r
    | .done u5a =>
      if (decide (u03 < 0)) = true then
        if Z11 (bs [45]) u5a then
          some ((bs [45]) ++ u5a)
        else none
      else
        some u5a
theorem Zdr {k : Nat} {u03 : Int} {r : ByteArray} (h : Z72 k u03 = some r) : FnO Tryz.prog 42 [.v (aI u03) []] (.v (.str r) []) [] := by
  refine FnO.o2 Tryz.func42 (rfl : Tryz.f42.body = some _) ?_
  intro w0 X0 Fin pv0 pb gt
  unfold Z72 at h
  apply Wc.seq
  refine Wc.r0 ⟨[tI 0 u03], [], []⟩ ?_
  apply Wc.seq
  apply Wc.seq
  refine Wc.r0 ⟨[tI 0 u03, tB 7 (u03 == 0)], [], []⟩ ?_
  rcases oif h with ⟨h427, h⟩ | ⟨h427, h⟩
  · refine Wc.cT h427 ?_
    apply Wc.seq
    refine Wc.r0 ⟨[tS 2 (bs [48])], [], []⟩ ?_
    cases h; exact Wc.ret dn
  · refine Wc.cF h427 ?_
    refine Wc.fx [] ⟨[tI 0 u03], [], []⟩ ?_
    refine Wc.skip ?_
    apply Wc.seq
    refine Wc.r0 ⟨[tI 0 u03, tB 3 (decide (u03 < 0))], [], []⟩ ?_
    apply Wc.seq
    refine Wc.r0 ⟨[tI 0 u03, tB 3 (decide (u03 < 0)), tS 4 (bs [])], [], []⟩ ?_
    obtain ⟨out1, h428, h⟩ := Z0 h
    refine Wc.seqJ (fun st => ∃ (u5a : ByteArray), out1 = .done u5a ∧ st = ⟨[tB 3 (decide (u03 < 0)), tS 4 u5a], [], []⟩) ?_ ?_
    · refine Wc.block ?_
      refine Wc.loop (fun m st => ∃ (zr : Int) (u1j : ByteArray), st = ⟨[tI 0 zr, tB 3 (decide (u03 < 0)), tS 4 u1j], [], []⟩ ∧ Z45 k m zr u1j = some out1) ?_ k ⟨_, _, rfl, h428⟩
      rintro m st ⟨zr, u1j, rfl, h428⟩
      cases m with
      | zero => exact (Z1r h428).elim
      | succ m =>
        apply Wc.seq
        apply Wc.seq
        refine Wc.r0 ⟨[tI 0 zr, tB 3 (decide (u03 < 0)), tS 4 u1j, tB 11 (zr != 0)], [], []⟩ ?_
        rcases oif h428 with ⟨h429, h428⟩ | ⟨h429, h428⟩
        · refine Wc.cT h429 ?_
          refine Wc.fx [] ⟨[tI 0 zr, tB 3 (decide (u03 < 0)), tS 4 u1j], [], []⟩ ?_
          refine Wc.skip ?_
          refine Wc.block ?_
          apply Wc.seq
          obtain ⟨h430, h428⟩ := Zg h428
          refine Wc.r2 [] ⟨[tI 0 zr, tB 3 (decide (u03 < 0)), tS 4 u1j, tI 5 (Int.tmod zr 10)], [], []⟩ (.cons h430 .nil) ?_
          refine Wc.seqJ (fun st => ∃ (ub2 : Int), st = ⟨[tI 0 zr, tB 3 (decide (u03 < 0)), tS 4 u1j, tI 5 ub2], [], []⟩ ∧ Z7z k (Z45 k m) u1j zr ub2 = some out1) ?_ ?_
          · apply Wc.seq
            refine Wc.r0 ⟨[tI 0 zr, tB 3 (decide (u03 < 0)), tS 4 u1j, tI 5 (Int.tmod zr 10), tB 15 (decide ((Int.tmod zr 10) < 0))], [], []⟩ ?_
            rcases oif h428 with ⟨h434, h428⟩ | ⟨h434, h428⟩
            · refine Wc.cT h434 ?_
              refine Wc.r0 ⟨[tI 0 zr, tB 3 (decide (u03 < 0)), tS 4 u1j, tI 5 (wr.i64 (0 - (Int.tmod zr 10)))], [], []⟩ ?_
              exact ⟨_, rfl, h428⟩
            · refine Wc.cF h434 ?_
              refine Wc.fx [] ⟨[tI 0 zr, tB 3 (decide (u03 < 0)), tS 4 u1j, tI 5 (Int.tmod zr 10)], [], []⟩ ?_
              refine Wc.skip ?_
              exact ⟨_, rfl, h428⟩
          · rintro st ⟨ub2, rfl, h428⟩
            apply Wc.seq
            obtain ⟨u5i, h431, h428⟩ := Z0 h428
            obtain ⟨h432, h428⟩ := Zg h428
            refine Wc.r2 [{}, { r := some (.v (.int .u8 u5i) []) }, { c := some (List.map cI.u8 [u5i]) }, { v := some (.str (strOfNums [u5i])) }] ⟨[tI 0 zr, tB 3 (decide (u03 < 0)), tS 4 ((strOfNums [u5i]) ++ u1j)], [], []⟩ (.cons (Zl2 h431) (.cons (Z3r (c := cI.u8) (x := u5i) rfl (Z4g cI.u8)) (.cons (Zqz [u5i]) (.cons h432 .nil)))) ?_
            obtain ⟨h433, h428⟩ := Zg h428
            refine Wc.r2 [] ⟨[tI 0 (wr.i64 (Int.tdiv zr 10)), tB 3 (decide (u03 < 0)), tS 4 ((strOfNums [u5i]) ++ u1j)], [], []⟩ (.cons h433 .nil) ?_
            exact ⟨_, Nat.lt_succ_self _, _, _, rfl, h428⟩
        · refine Wc.cF h429 ?_
          refine Wc.fx [] ⟨[tB 3 (decide (u03 < 0)), tS 4 u1j], [], []⟩ ?_
          refine Wc.exit ?_
          cases h428
          exact ⟨_, rfl, rfl⟩
    · rintro st ⟨u5a, rfl, rfl⟩
      apply Wc.seq
      apply Wc.seq
      refine Wc.r0 ⟨[tS 4 u5a, tB 26 (decide (u03 < 0))], [], []⟩ ?_
      rcases oif h with ⟨h435, h⟩ | ⟨h435, h⟩
      · refine Wc.cT h435 ?_
        apply Wc.seq
        obtain ⟨h436, h⟩ := Zg h
        refine Wc.r2 [] ⟨[tS 2 ((bs [45]) ++ u5a)], [], []⟩ (.cons h436 .nil) ?_
        cases h; exact Wc.ret dn
      · refine Wc.cF h435 ?_
        refine Wc.fx [] ⟨[tS 4 u5a], [], []⟩ ?_
        refine Wc.skip ?_
        apply Wc.seq
        refine Wc.r0 ⟨[tS 2 u5a], [], []⟩ ?_
        cases h; exact Wc.ret dn

def Zen (k : Nat) (u7k : ByteArray) : Option Bool :=
  (Z1u k u7k).bind fun u8k =>
  (Z2y k u7k).bind fun u8l =>
  if u8k.2 = true then
    some true
  else
    some u8l.2
theorem Zsc {k : Nat} {u7k : ByteArray} {r : Bool} (h : Zen k u7k = some r) : FnO Tryz.prog 43 [.v (.str u7k) []] (.v (.bool r) []) [] := by
  refine FnO.o2 Tryz.func43 (rfl : Tryz.f43.body = some _) ?_
  intro w0 X0 Fin pv0 pb gt
  unfold Zen at h
  apply Wc.seq
  refine Wc.r0 ⟨[tS 0 u7k], [], []⟩ ?_
  apply Wc.seq
  obtain ⟨u8k, h437, h⟩ := Z0 h
  refine Wc.r2 [{}, { r := some (.v (.tup [.agg (GOp.q u8k.1), .bool u8k.2]) []) }] ⟨[tS 0 u7k, tB 4 u8k.2], [], []⟩ (.cons (Z9r h437) .nil) ?_
  apply Wc.seq
  obtain ⟨u8l, h438, h⟩ := Z0 h
  refine Wc.r2 [{}, { r := some (.v (.tup [.agg (GOp.q u8l.1), .bool u8l.2]) []) }] ⟨[tB 4 u8k.2, tB 6 u8l.2], [], []⟩ (.cons (Zgm h438) .nil) ?_
  apply Wc.seq
  rcases oif h with ⟨h439, h⟩ | ⟨h439, h⟩
  · refine Wc.r2 [{}, rT] ⟨[tB 2 true], [], []⟩ (cb h439 .nil) ?_
    cases h; exact Wc.ret dn
  · refine Wc.r2 [{}, rF] ⟨[tB 2 u8l.2], [], []⟩ (cb h439 .nil) ?_
    cases h; exact Wc.ret dn

def Z4s (k : Nat) (zs : ByteArray) : Option ByteArray :=
  (Z71 k zs).bind fun u43 =>
  if ((u43.1.length : Int) == 1) = true then
    (at' u43.1 0).bind fun u6o =>
    if (u6o.gKind == 1) = true then
      (at' u43.1 0).bind fun u68 =>
      if (sEq u68.gText zs) = true then
        some zs
      else
        if Z11 (bs [39]) zs then
          if Z11 ((bs [39]) ++ zs) (bs [39]) then
            some (((bs [39]) ++ zs) ++ (bs [39]))
          else none
        else none
    else
      if Z11 (bs [39]) zs then
        if Z11 ((bs [39]) ++ zs) (bs [39]) then
          some (((bs [39]) ++ zs) ++ (bs [39]))
        else none
      else none
  else
    if Z11 (bs [39]) zs then
      if Z11 ((bs [39]) ++ zs) (bs [39]) then
        some (((bs [39]) ++ zs) ++ (bs [39]))
      else none
    else none
theorem Zab {k : Nat} {zs : ByteArray} {r : ByteArray} (h : Z4s k zs = some r) : FnO Tryz.prog 44 [.v (.str zs) []] (.v (.str r) []) [] := by
  refine FnO.o2 Tryz.func44 (rfl : Tryz.f44.body = some _) ?_
  intro w0 X0 Fin pv0 pb gt
  unfold Z4s at h
  apply Wc.seq
  refine Wc.r0 ⟨[tS 0 zs], [], []⟩ ?_
  apply Wc.seq
  obtain ⟨u43, h440, h⟩ := Z0 h
  refine Wc.r2 [{}, { r := some (.v (.tup [.sl (List.map GSign.c u43.1), .bool u43.2]) [(0, .app 55)]) }, { tk := [7] }, { tk := [5] }, {}, { tk := [8] }] ⟨[tS 0 zs, (3, (.v (.sl (List.map GSign.c u43.1)), [(0, .app 55)]))], [], []⟩ (.cons (Zhu h440) .nil) ?_
  apply Wc.seq
  apply Wc.seq
  rcases oif h with ⟨h441, h⟩ | ⟨h441, h⟩
  · obtain ⟨u6o, h442, h⟩ := Z0 h
    rcases oif h with ⟨h443, h⟩ | ⟨h443, h⟩
    · obtain ⟨u68, h444, h⟩ := Z0 h
      refine Wc.r2 [{}, { v := some (aI (u43.1.length : Int)) }, {}, rT, {}, { v := some (.vptr (GSign.q u6o)) }, {}, {}, {}, {}, rT, { tk := [3] }, { v := some (.vptr (GSign.q u68)) }] ⟨[tS 0 zs, tB 27 (sEq u68.gText zs)], [], []⟩ (.cons (Zn GSign.c u43.1) (cb h441 (.cons (Z19 (c := GSign.c) (GSign.c_eq u6o) GSign.c_len h442) (.cons (Z18 1 (GSign.q u6o)) (cb h443 (.cons (Z19 (c := GSign.c) (GSign.c_eq u68) GSign.c_len h444) (.cons (Z18 1 [.str u68.gText, aI u68.gNum, aI u68.gAt, .bool u68.gNear]) .nil))))))) ?_
      rcases oif h with ⟨h445, h⟩ | ⟨h445, h⟩
      · refine Wc.cT h445 ?_
        apply Wc.seq
        refine Wc.r0 ⟨[tS 2 zs], [], []⟩ ?_
        cases h; exact Wc.ret dn
      · refine Wc.cF h445 ?_
        refine Wc.fx [] ⟨[tS 0 zs], [], []⟩ ?_
        refine Wc.skip ?_
        apply Wc.seq
        obtain ⟨h446, h⟩ := Zg h
        obtain ⟨h447, h⟩ := Zg h
        refine Wc.r2 [] ⟨[tS 2 (((bs [39]) ++ zs) ++ (bs [39]))], [], []⟩ (.cons h446 (.cons h447 .nil)) ?_
        cases h; exact Wc.ret dn
    · refine Wc.r2 [{}, { v := some (aI (u43.1.length : Int)) }, {}, rT, {}, { v := some (.vptr (GSign.q u6o)) }, {}, {}, {}, {}, rF] ⟨[tS 0 zs, tB 27 false], [], []⟩ (.cons (Zn GSign.c u43.1) (cb h441 (.cons (Z19 (c := GSign.c) (GSign.c_eq u6o) GSign.c_len h442) (.cons (Z18 1 (GSign.q u6o)) (cb h443 .nil))))) ?_
      refine Wc.cF rfl ?_
      refine Wc.fx [] ⟨[tS 0 zs], [], []⟩ ?_
      refine Wc.skip ?_
      apply Wc.seq
      obtain ⟨h448, h⟩ := Zg h
      obtain ⟨h449, h⟩ := Zg h
      refine Wc.r2 [] ⟨[tS 2 (((bs [39]) ++ zs) ++ (bs [39]))], [], []⟩ (.cons h448 (.cons h449 .nil)) ?_
      cases h; exact Wc.ret dn
  · refine Wc.r2 [{}, { v := some (aI (u43.1.length : Int)) }, {}, rF] ⟨[tS 0 zs, tB 27 false], [], []⟩ (.cons (Zn GSign.c u43.1) (cb h441 .nil)) ?_
    refine Wc.cF rfl ?_
    refine Wc.fx [] ⟨[tS 0 zs], [], []⟩ ?_
    refine Wc.skip ?_
    apply Wc.seq
    obtain ⟨h450, h⟩ := Zg h
    obtain ⟨h451, h⟩ := Zg h
    refine Wc.r2 [] ⟨[tS 2 (((bs [39]) ++ zs) ++ (bs [39]))], [], []⟩ (.cons h450 (.cons h451 .nil)) ?_
    cases h; exact Wc.ret dn

def Za0 (k : Nat) (u5j : GTerm) (ub3 : ByteArray) (u8m : Int) : Option Bool :=
  if (u5j.gKind == 4) = true then
    if (sEq u5j.gName ub3) = true then
      some ((u5j.gKids.length : Int) == u8m)
    else
      some false
  else
    some false
theorem Znq {k : Nat} {u5j : GTerm} {ub3 : ByteArray} {u8m : Int} {r : Bool} (h : Za0 k u5j ub3 u8m = some r) : FnO Tryz.prog 45 [.v (.agg (GTerm.q u5j)) [], .v (.str ub3) [], .v (aI u8m) []] (.v (.bool r) []) [] := by
  refine FnO.o2 Tryz.func45 (rfl : Tryz.f45.body = some _) ?_
  intro w0 X0 Fin pv0 pb gt
  unfold Za0 at h
  apply Wc.seq
  refine Wc.r0 ⟨[tS 1 ub3, tI 2 u8m, tP 3 3], [bC 3 (GTerm.q u5j)], []⟩ ?_
  apply Wc.seq
  rcases oif h with ⟨h452, h⟩ | ⟨h452, h⟩
  · rcases oif h with ⟨h453, h⟩ | ⟨h453, h⟩
    · refine Wc.r2 [{}, {}, {}, rT, {}, {}, {}, {}, {}, rT, {}, {}, { v := some (aI (u5j.gKids.length : Int)) }] ⟨[tB 6 ((u5j.gKids.length : Int) == u8m)], [], []⟩ (cb h452 (cb h453 (.cons (Zn GTerm.c u5j.gKids) .nil))) ?_
      cases h; exact Wc.ret dn
    · refine Wc.r2 [{}, {}, {}, rT, {}, {}, {}, {}, {}, rF] ⟨[tB 6 false], [], []⟩ (cb h452 (cb h453 .nil)) ?_
      cases h; exact Wc.ret dn
  · refine Wc.r2 [{}, {}, {}, rF] ⟨[tB 6 false], [], []⟩ (cb h452 .nil) ?_
    cases h; exact Wc.ret dn

def Z7g (k : Nat) (Z2r : GTerm → Option ByteArray) (Z1c : GTerm → Option ByteArray) : Nat → ByteArray → GTerm → Option (Out ByteArray (ByteArray × GTerm))
  | 0, _, _ => none
  | m + 1, u44, u5k =>
    (at' u5k.gKids 1).bind fun ub4 =>
    (Za0 k ub4 (bs [46]) 2).bind fun ue3 =>
    if ue3 = true then
      (at' u5k.gKids 1).bind fun u6p =>
      if Z11 u44 (bs [44]) then
        (at' u6p.gKids 0).bind fun ub5 =>
        (Z1c ub5).bind fun ub6 =>
        if Z11 (u44 ++ (bs [44])) ub6 then
          Z7g k Z2r Z1c m ((u44 ++ (bs [44])) ++ ub6) u6p
        else none
      else none
    else
      some (.done (u44, u5k))
def Z5s (k : Nat) (Z2r : GTerm → Option ByteArray) (Z1c : GTerm → Option ByteArray) (ue : GTerm) (u5l : ByteArray) : Option ByteArray :=
  (at' ue.gKids 0).bind fun ub7 =>
  (Z1c ub7).bind fun u5m =>
  if Z11 (bs [40]) u5m then
    if Z11 ((bs [40]) ++ u5m) (bs [32]) then
      if Z11 (((bs [40]) ++ u5m) ++ (bs [32])) u5l then
        if Z11 ((((bs [40]) ++ u5m) ++ (bs [32])) ++ u5l) (bs [32]) then
          (at' ue.gKids 1).bind fun ub8 =>
          (Z1c ub8).bind fun u8n =>
          if Z11 (((((bs [40]) ++ u5m) ++ (bs [32])) ++ u5l) ++ (bs [32])) u8n then
            if Z11 ((((((bs [40]) ++ u5m) ++ (bs [32])) ++ u5l) ++ (bs [32])) ++ u8n) (bs [41]) then
              some (((((((bs [40]) ++ u5m) ++ (bs [32])) ++ u5l) ++ (bs [32])) ++ u8n) ++ (bs [41]))
            else none
          else none
        else none
      else none
    else none
  else none
def Z78 (k : Nat) (Z2r : GTerm → Option ByteArray) (Z1c : GTerm → Option ByteArray) (bk_ : ByteArray → Int → Option (Out ByteArray ByteArray)) (ue : GTerm) (u15 : Int) (u6q : ByteArray) : Option (Out ByteArray ByteArray) :=
  (at' ue.gKids u15).bind fun ub9 =>
  (Z1c ub9).bind fun u8o =>
  if Z11 u6q u8o then
    bk_ (u6q ++ u8o) (wr.i64 (u15 + 1))
  else none
def Z4a (k : Nat) (Z2r : GTerm → Option ByteArray) (Z1c : GTerm → Option ByteArray) (ue : GTerm) : Nat → ByteArray → Int → Option (Out ByteArray ByteArray)
  | 0, _, _ => none
  | m + 1, u3t, u15 =>
    if (decide (u15 < (ue.gKids.length : Int))) = true then
      if (decide (u15 > 0)) = true then
        if Z11 u3t (bs [44]) then
          Z78 k Z2r Z1c (Z4a k Z2r Z1c ue m) ue u15 (u3t ++ (bs [44]))
        else none
      else
        Z78 k Z2r Z1c (Z4a k Z2r Z1c ue m) ue u15 u3t
    else
      some (.done u3t)
def Z4z (k : Nat) (Z2r : GTerm → Option ByteArray) (Z1c : GTerm → Option ByteArray) (ue : GTerm) (uba : Bool) : Option ByteArray :=
  if uba = true then
    (Z4s k ue.gName).bind fun u8p =>
    if (sEq ue.gName (bs [44])) = true then
      Z5s k Z2r Z1c ue (bs [44])
    else
      Z5s k Z2r Z1c ue u8p
  else
    (Z4s k ue.gName).bind fun u8q =>
    if Z11 u8q (bs [40]) then
      (Z4a k Z2r Z1c ue k (u8q ++ (bs [40])) 0).bind fun out3 => match out3 with
      | .ret r => some r
      | .done u7l =>
        if Z11 u7l (bs [41]) then
          some (u7l ++ (bs [41]))
        else none
    else none
mutual
def Z34 : Nat → GTerm → Option ByteArray
  | 0, _ => none
  | k + 1, u4n =>
    (at' u4n.gKids 0).bind fun ubb =>
    (Z1a k ubb).bind fun ubc =>
    if Z11 (bs [91]) ubc then
      (Z7g k (Z34 k) (Z1a k) k ((bs [91]) ++ ubc) u4n).bind fun out1 => match out1 with
      | .ret r => some r
      | .done (u16, ubd) =>
        (at' ubd.gKids 1).bind fun u3u =>
        if (u3u.gKind == 2) = true then
          if (sEq u3u.gName (bs [91, 93])) = true then
            if Z11 u16 (bs [93]) then
              some (u16 ++ (bs [93]))
            else none
          else
            if Z11 u16 (bs [124]) then
              (Z1a k u3u).bind fun u8r =>
              if Z11 (u16 ++ (bs [124])) u8r then
                if Z11 ((u16 ++ (bs [124])) ++ u8r) (bs [93]) then
                  some (((u16 ++ (bs [124])) ++ u8r) ++ (bs [93]))
                else none
              else none
            else none
        else
          if Z11 u16 (bs [124]) then
            (Z1a k u3u).bind fun u8s =>
            if Z11 (u16 ++ (bs [124])) u8s then
              if Z11 ((u16 ++ (bs [124])) ++ u8s) (bs [93]) then
                some (((u16 ++ (bs [124])) ++ u8s) ++ (bs [93]))
              else none
            else none
          else none
    else none
def Z1a : Nat → GTerm → Option ByteArray
  | 0, _ => none
  | k + 1, ue =>
    if (ue.gKind == 1) = true then
      (Z72 k ue.gNum).bind fun ube =>
      if Z11 (bs [95]) ube then
        some ((bs [95]) ++ ube)
      else none
    else
      if (ue.gKind == 3) = true then
        if (decide (ue.gNum < 0)) = true then
          (Z72 k (wr.i64 (0 - ue.gNum))).bind fun ubf =>
          if Z11 (bs [45]) ubf then
            some ((bs [45]) ++ ubf)
          else none
        else
          (Z72 k ue.gNum).bind fun ue4 =>
          some ue4
      else
        if (ue.gKind == 2) = true then
          if (sEq ue.gName (bs [91, 93])) = true then
            some (bs [91, 93])
          else
            (Zen k ue.gName).bind fun ue5 =>
            if ue5 = true then
              (Z4s k ue.gName).bind fun u8t =>
              if Z11 (bs [40]) u8t then
                if Z11 ((bs [40]) ++ u8t) (bs [41]) then
                  some (((bs [40]) ++ u8t) ++ (bs [41]))
                else none
              else none
            else
              (Z4s k ue.gName).bind fun ue6 =>
              some ue6
        else
          (Za0 k ue (bs [46]) 2).bind fun ue7 =>
          if ue7 = true then
            (Z34 k ue).bind fun ue8 =>
            some ue8
          else
            (Z1u k ue.gName).bind fun ubg =>
            if ubg.2 = true then
              Z4z k (Z34 k) (Z1a k) ue ((ue.gKids.length : Int) == 2)
            else
              Z4z k (Z34 k) (Z1a k) ue false
end
set_option maxHeartbeats 4000000 in
theorem Zja : ∀ k : Nat, (∀ {u4n : GTerm} {r : ByteArray}, Z34 k u4n = some r → FnO Tryz.prog 46 [.v (.agg (GTerm.q u4n)) []] (.v (.str r) []) []) ∧
    (∀ {ue : GTerm} {r : ByteArray}, Z1a k ue = some r → FnO Tryz.prog 24 [.v (.agg (GTerm.q ue)) []] (.v (.str r) []) []) := by
  intro k
  induction k with
  | zero =>
    refine ⟨?_, ?_⟩
    · intro u4n r h
      exact (Z1r (by rw [Z34] at h; exact h)).elim
    · intro ue r h
      exact (Z1r (by rw [Z1a] at h; exact h)).elim
  | succ k ih =>
    obtain ⟨Zkc, Z4b⟩ := ih
    refine ⟨?_, ?_⟩
    · intro u4n r h
      rw [Z34] at h
      refine FnO.o2 Tryz.func46 (rfl : Tryz.f46.body = some _) ?_
      intro w0 X0 Fin pv0 pb gt
      apply Wc.seq
      refine Wc.r0 ⟨[tP 1 1], [bC 1 (GTerm.q u4n)], []⟩ ?_
      apply Wc.seq
      obtain ⟨ubb, h454, h⟩ := Z0 h
      obtain ⟨ubc, h455, h⟩ := Z0 h
      obtain ⟨h456, h⟩ := Zg h
      refine Wc.r2 [{}, {}, { v := some (.vptr (GTerm.q ubb)) }, {}, { r := some (.v (.str ubc) []) }] ⟨[tP 1 1, tS 3 ((bs [91]) ++ ubc)], [bC 1 (GTerm.q u4n)], []⟩ (.cons (Z19 (c := GTerm.c) (GTerm.c_eq ubb) GTerm.c_len h454) (.cons (Z18 4 (GTerm.q ubb)) (.cons (Z4b h455) (.cons h456 .nil)))) ?_
      obtain ⟨out1, h457, h⟩ := Z0 h
      refine Wc.seqJ (fun st => ∃ (u16 : ByteArray) (ubd : GTerm), out1 = .done (u16, ubd) ∧ st = ⟨[tP 1 1, tS 3 u16], [bC 1 (GTerm.q ubd)], []⟩) ?_ ?_
      · refine Wc.block ?_
        refine Wc.loop (fun m st => ∃ (u44 : ByteArray) (u5k : GTerm), st = ⟨[tP 1 1, tS 3 u44], [bC 1 (GTerm.q u5k)], []⟩ ∧ Z7g k (Z34 k) (Z1a k) m u44 u5k = some out1) ?_ k ⟨_, _, rfl, h457⟩
        rintro m st ⟨u44, u5k, rfl, h457⟩
        cases m with
        | zero => exact (Z1r h457).elim
        | succ m =>
          apply Wc.seq
          apply Wc.seq
          obtain ⟨ub4, h458, h457⟩ := Z0 h457
          obtain ⟨ue3, h459, h457⟩ := Z0 h457
          refine Wc.r2 [{}, {}, { v := some (.vptr (GTerm.q ub4)) }, {}, { r := some (.v (.bool ue3) []) }] ⟨[tP 1 1, tS 3 u44, tB 15 ue3], [bC 1 (GTerm.q u5k)], []⟩ (.cons (Z19 (c := GTerm.c) (GTerm.c_eq ub4) GTerm.c_len h458) (.cons (Z18 4 (GTerm.q ub4)) (.cons (Znq h459) .nil))) ?_
          rcases oif h457 with ⟨h460, h457⟩ | ⟨h460, h457⟩
          · refine Wc.cT h460 ?_
            refine Wc.fx [] ⟨[tP 1 1, tS 3 u44], [bC 1 (GTerm.q u5k)], []⟩ ?_
            refine Wc.skip ?_
            refine Wc.block ?_
            apply Wc.seq
            obtain ⟨u6p, h461, h457⟩ := Z0 h457
            refine Wc.r2 [{}, {}, { v := some (.vptr (GTerm.q u6p)) }] ⟨[tP 1 1, tS 3 u44], [bC 1 (GTerm.q u6p)], []⟩ (.cons (Z19 (c := GTerm.c) (GTerm.c_eq u6p) GTerm.c_len h461) (.cons (Z18 4 (GTerm.q u6p)) .nil)) ?_
            obtain ⟨h462, h457⟩ := Zg h457
            obtain ⟨ub5, h463, h457⟩ := Z0 h457
            obtain ⟨ub6, h464, h457⟩ := Z0 h457
            obtain ⟨h465, h457⟩ := Zg h457
            refine Wc.r2 [{}, {}, {}, {}, { v := some (.vptr (GTerm.q ub5)) }, {}, { r := some (.v (.str ub6) []) }] ⟨[tP 1 1, tS 3 ((u44 ++ (bs [44])) ++ ub6)], [bC 1 (GTerm.q u6p)], []⟩ (.cons h462 (.cons (Z19 (c := GTerm.c) (GTerm.c_eq ub5) GTerm.c_len h463) (.cons (Z18 4 (GTerm.q ub5)) (.cons (Z4b h464) (.cons h465 .nil))))) ?_
            exact ⟨_, Nat.lt_succ_self _, _, _, rfl, h457⟩
          · refine Wc.cF h460 ?_
            refine Wc.fx [] ⟨[tP 1 1, tS 3 u44], [bC 1 (GTerm.q u5k)], []⟩ ?_
            refine Wc.exit ?_
            cases h457
            exact ⟨_, _, rfl, rfl⟩
      · rintro st ⟨u16, ubd, rfl, rfl⟩
        apply Wc.seq
        obtain ⟨u3u, h466, h⟩ := Z0 h
        refine Wc.r2 [{}, {}, { v := some (.vptr (GTerm.q u3u)) }] ⟨[tS 3 u16, tP 4 4], [bC 4 (GTerm.q u3u)], []⟩ (.cons (Z19 (c := GTerm.c) (GTerm.c_eq u3u) GTerm.c_len h466) (.cons (Z18 4 (GTerm.q u3u)) .nil)) ?_
        apply Wc.seq
        apply Wc.seq
        rcases oif h with ⟨h467, h⟩ | ⟨h467, h⟩
        · refine Wc.r2 [{}, {}, {}, rT] ⟨[tS 3 u16, tP 4 4, tB 39 (sEq u3u.gName (bs [91, 93]))], [bC 4 (GTerm.q u3u)], []⟩ (cb h467 .nil) ?_
          rcases oif h with ⟨h468, h⟩ | ⟨h468, h⟩
          · refine Wc.cT h468 ?_
            apply Wc.seq
            obtain ⟨h469, h⟩ := Zg h
            refine Wc.r2 [] ⟨[tS 2 (u16 ++ (bs [93]))], [], []⟩ (.cons h469 .nil) ?_
            cases h; exact Wc.ret dn
          · refine Wc.cF h468 ?_
            refine Wc.fx [] ⟨[tS 3 u16, tP 4 4], [bC 4 (GTerm.q u3u)], []⟩ ?_
            refine Wc.skip ?_
            apply Wc.seq
            obtain ⟨h470, h⟩ := Zg h
            obtain ⟨u8r, h471, h⟩ := Z0 h
            obtain ⟨h472, h⟩ := Zg h
            obtain ⟨h473, h⟩ := Zg h
            refine Wc.r2 [{}, {}, {}, { r := some (.v (.str u8r) []) }] ⟨[tS 2 (((u16 ++ (bs [124])) ++ u8r) ++ (bs [93]))], [], []⟩ (.cons h470 (.cons (Z4b h471) (.cons h472 (.cons h473 .nil)))) ?_
            cases h; exact Wc.ret dn
        · refine Wc.r2 [{}, {}, {}, rF] ⟨[tS 3 u16, tP 4 4, tB 39 false], [bC 4 (GTerm.q u3u)], []⟩ (cb h467 .nil) ?_
          refine Wc.cF rfl ?_
          refine Wc.fx [] ⟨[tS 3 u16, tP 4 4], [bC 4 (GTerm.q u3u)], []⟩ ?_
          refine Wc.skip ?_
          apply Wc.seq
          obtain ⟨h474, h⟩ := Zg h
          obtain ⟨u8s, h475, h⟩ := Z0 h
          obtain ⟨h476, h⟩ := Zg h
          obtain ⟨h477, h⟩ := Zg h
          refine Wc.r2 [{}, {}, {}, { r := some (.v (.str u8s) []) }] ⟨[tS 2 (((u16 ++ (bs [124])) ++ u8s) ++ (bs [93]))], [], []⟩ (.cons h474 (.cons (Z4b h475) (.cons h476 (.cons h477 .nil)))) ?_
          cases h; exact Wc.ret dn
    · intro ue r h
      rw [Z1a] at h
      refine FnO.o2 Tryz.func24 (rfl : Tryz.f24.body = some _) ?_
      intro w0 X0 Fin pv0 pb gt
      apply Wc.seq
      refine Wc.r0 ⟨[tP 1 1], [bC 1 (GTerm.q ue)], []⟩ ?_
      apply Wc.seq
      apply Wc.seq
      refine Wc.r0 ⟨[tP 1 1, tI 9 ue.gKind], [bC 1 (GTerm.q ue)], []⟩ ?_
      refine Wc.block ?_
      apply Wc.seq
      refine Wc.r0 ⟨[tP 1 1, tI 9 ue.gKind, tB 10 (ue.gKind == 1)], [bC 1 (GTerm.q ue)], []⟩ ?_
      rcases oif h with ⟨h478, h⟩ | ⟨h478, h⟩
      · refine Wc.cT h478 ?_
        apply Wc.seq
        obtain ⟨ube, h479, h⟩ := Z0 h
        obtain ⟨h480, h⟩ := Zg h
        refine Wc.r2 [{}, {}, { r := some (.v (.str ube) []) }] ⟨[tS 2 ((bs [95]) ++ ube)], [], []⟩ (.cons (Zdr h479) (.cons h480 .nil)) ?_
        cases h; exact Wc.ret dn
      · refine Wc.cF h478 ?_
        apply Wc.seq
        refine Wc.r0 ⟨[tP 1 1, tI 9 ue.gKind, tB 16 (ue.gKind == 3)], [bC 1 (GTerm.q ue)], []⟩ ?_
        rcases oif h with ⟨h481, h⟩ | ⟨h481, h⟩
        · refine Wc.cT h481 ?_
          apply Wc.seq
          apply Wc.seq
          refine Wc.r0 ⟨[tP 1 1, tB 20 (decide (ue.gNum < 0))], [bC 1 (GTerm.q ue)], []⟩ ?_
          rcases oif h with ⟨h482, h⟩ | ⟨h482, h⟩
          · refine Wc.cT h482 ?_
            apply Wc.seq
            obtain ⟨ubf, h483, h⟩ := Z0 h
            obtain ⟨h484, h⟩ := Zg h
            refine Wc.r2 [{}, {}, {}, { r := some (.v (.str ubf) []) }] ⟨[tS 2 ((bs [45]) ++ ubf)], [], []⟩ (.cons (Zdr h483) (.cons h484 .nil)) ?_
            cases h; exact Wc.ret dn
          · refine Wc.cF h482 ?_
            refine Wc.fx [] ⟨[tP 1 1], [bC 1 (GTerm.q ue)], []⟩ ?_
            refine Wc.skip ?_
            apply Wc.seq
            obtain ⟨ue4, h485, h⟩ := Z0 h
            refine Wc.r2 [{}, {}, { r := some (.v (.str ue4) []) }] ⟨[tS 2 ue4], [], []⟩ (.cons (Zdr h485) .nil) ?_
            cases h; exact Wc.ret dn
        · refine Wc.cF h481 ?_
          apply Wc.seq
          refine Wc.r0 ⟨[tP 1 1, tB 29 (ue.gKind == 2)], [bC 1 (GTerm.q ue)], []⟩ ?_
          rcases oif h with ⟨h486, h⟩ | ⟨h486, h⟩
          · refine Wc.cT h486 ?_
            apply Wc.seq
            apply Wc.seq
            refine Wc.r0 ⟨[tP 1 1, tB 33 (sEq ue.gName (bs [91, 93]))], [bC 1 (GTerm.q ue)], []⟩ ?_
            rcases oif h with ⟨h487, h⟩ | ⟨h487, h⟩
            · refine Wc.cT h487 ?_
              apply Wc.seq
              refine Wc.r0 ⟨[tS 2 (bs [91, 93])], [], []⟩ ?_
              cases h; exact Wc.ret dn
            · refine Wc.cF h487 ?_
              refine Wc.fx [] ⟨[tP 1 1], [bC 1 (GTerm.q ue)], []⟩ ?_
              refine Wc.skip ?_
              apply Wc.seq
              apply Wc.seq
              obtain ⟨ue5, h488, h⟩ := Z0 h
              refine Wc.r2 [{}, {}, { r := some (.v (.bool ue5) []) }] ⟨[tP 1 1, tB 36 ue5], [bC 1 (GTerm.q ue)], []⟩ (.cons (Zsc h488) .nil) ?_
              rcases oif h with ⟨h489, h⟩ | ⟨h489, h⟩
              · refine Wc.cT h489 ?_
                apply Wc.seq
                obtain ⟨u8t, h490, h⟩ := Z0 h
                obtain ⟨h491, h⟩ := Zg h
                obtain ⟨h492, h⟩ := Zg h
                refine Wc.r2 [{}, {}, { r := some (.v (.str u8t) []) }] ⟨[tS 2 (((bs [40]) ++ u8t) ++ (bs [41]))], [], []⟩ (.cons (Zab h490) (.cons h491 (.cons h492 .nil))) ?_
                cases h; exact Wc.ret dn
              · refine Wc.cF h489 ?_
                refine Wc.fx [] ⟨[tP 1 1], [bC 1 (GTerm.q ue)], []⟩ ?_
                refine Wc.skip ?_
                apply Wc.seq
                obtain ⟨ue6, h493, h⟩ := Z0 h
                refine Wc.r2 [{}, {}, { r := some (.v (.str ue6) []) }] ⟨[tS 2 ue6], [], []⟩ (.cons (Zab h493) .nil) ?_
                cases h; exact Wc.ret dn
          · refine Wc.cF h486 ?_
            refine Wc.fx [] ⟨[tP 1 1], [bC 1 (GTerm.q ue)], []⟩ ?_
            refine Wc.skip ?_
            apply Wc.seq
            apply Wc.seq
            obtain ⟨ue7, h494, h⟩ := Z0 h
            refine Wc.r2 [{}, { r := some (.v (.bool ue7) []) }] ⟨[tP 1 1, tB 46 ue7], [bC 1 (GTerm.q ue)], []⟩ (.cons (Znq h494) .nil) ?_
            rcases oif h with ⟨h495, h⟩ | ⟨h495, h⟩
            · refine Wc.cT h495 ?_
              apply Wc.seq
              obtain ⟨ue8, h496, h⟩ := Z0 h
              refine Wc.r2 [{}, { r := some (.v (.str ue8) []) }] ⟨[tS 2 ue8], [], []⟩ (.cons (Zkc h496) .nil) ?_
              cases h; exact Wc.ret dn
            · refine Wc.cF h495 ?_
              refine Wc.fx [] ⟨[tP 1 1], [bC 1 (GTerm.q ue)], []⟩ ?_
              refine Wc.skip ?_
              apply Wc.seq
              obtain ⟨ubg, h497, h⟩ := Z0 h
              refine Wc.r2 [{}, {}, { r := some (.v (.tup [.agg (GOp.q ubg.1), .bool ubg.2]) []) }] ⟨[tP 1 1, tB 4 ubg.2], [bC 1 (GTerm.q ue)], []⟩ (.cons (Z9r h497) .nil) ?_
              apply Wc.seq
              refine Wc.seqJ (fun st => ∃ (uba : Bool), st = ⟨[tP 1 1, tB 61 uba], [bC 1 (GTerm.q ue)], []⟩ ∧ Z4z k (Z34 k) (Z1a k) ue uba = some r) ?_ ?_
              · rcases oif h with ⟨h521, h⟩ | ⟨h521, h⟩
                · refine Wc.r2 [{}, rT, {}, {}, { v := some (aI (ue.gKids.length : Int)) }] ⟨[tP 1 1, tB 61 ((ue.gKids.length : Int) == 2)], [bC 1 (GTerm.q ue)], []⟩ (cb h521 (.cons (Zn GTerm.c ue.gKids) .nil)) ?_
                  exact ⟨_, rfl, h⟩
                · refine Wc.r2 [{}, rF] ⟨[tP 1 1, tB 61 false], [bC 1 (GTerm.q ue)], []⟩ (cb h521 .nil) ?_
                  exact ⟨_, rfl, h⟩
              · rintro st ⟨uba, rfl, h⟩
                rcases oif h with ⟨h498, h⟩ | ⟨h498, h⟩
                · refine Wc.cT h498 ?_
                  apply Wc.seq
                  obtain ⟨u8p, h499, h⟩ := Z0 h
                  refine Wc.r2 [{}, {}, { r := some (.v (.str u8p) []) }] ⟨[tP 1 1, tS 5 u8p], [bC 1 (GTerm.q ue)], []⟩ (.cons (Zab h499) .nil) ?_
                  refine Wc.seqJ (fun st => ∃ (u5l : ByteArray), st = ⟨[tP 1 1, tS 5 u5l], [bC 1 (GTerm.q ue)], []⟩ ∧ Z5s k (Z34 k) (Z1a k) ue u5l = some r) ?_ ?_
                  · apply Wc.seq
                    refine Wc.r0 ⟨[tP 1 1, tS 5 u8p, tB 67 (sEq ue.gName (bs [44]))], [bC 1 (GTerm.q ue)], []⟩ ?_
                    rcases oif h with ⟨h510, h⟩ | ⟨h510, h⟩
                    · refine Wc.cT h510 ?_
                      refine Wc.r0 ⟨[tP 1 1, tS 5 (bs [44])], [bC 1 (GTerm.q ue)], []⟩ ?_
                      exact ⟨_, rfl, h⟩
                    · refine Wc.cF h510 ?_
                      refine Wc.fx [] ⟨[tP 1 1, tS 5 u8p], [bC 1 (GTerm.q ue)], []⟩ ?_
                      refine Wc.skip ?_
                      exact ⟨_, rfl, h⟩
                  · rintro st ⟨u5l, rfl, h⟩
                    apply Wc.seq
                    obtain ⟨ub7, h500, h⟩ := Z0 h
                    obtain ⟨u5m, h501, h⟩ := Z0 h
                    obtain ⟨h502, h⟩ := Zg h
                    obtain ⟨h503, h⟩ := Zg h
                    obtain ⟨h504, h⟩ := Zg h
                    obtain ⟨h505, h⟩ := Zg h
                    obtain ⟨ub8, h506, h⟩ := Z0 h
                    obtain ⟨u8n, h507, h⟩ := Z0 h
                    obtain ⟨h508, h⟩ := Zg h
                    obtain ⟨h509, h⟩ := Zg h
                    refine Wc.draw hmix [{}, {}, { v := some (.vptr (GTerm.q ub7)) }, {}, { r := some (.v (.str u5m) []) }, {}, {}, {}, {}, {}, {}, {}, { v := some (.vptr (GTerm.q ub8)) }, {}, { r := some (.v (.str u8n) []) }] [] [2] [] [] ⟨[tS 2 (((((((bs [40]) ++ u5m) ++ (bs [32])) ++ u5l) ++ (bs [32])) ++ u8n) ++ (bs [41]))], [], []⟩ _ (by kernel_rfl) (fun X => by kernel_rfl) (.cons (Z19 (c := GTerm.c) (GTerm.c_eq ub7) GTerm.c_len h500) (.cons (Z18 4 (GTerm.q ub7)) (.cons (Z4b h501) (.cons h502 (.cons h503 (.cons h504 (.cons h505 (.cons (Z19 (c := GTerm.c) (GTerm.c_eq ub8) GTerm.c_len h506) (.cons (Z18 4 (GTerm.q ub8)) (.cons (Z4b h507) (.cons h508 (.cons h509 .nil)))))))))))) ?_
                    cases h; exact Wc.ret dn
                · refine Wc.cF h498 ?_
                  refine Wc.fx [] ⟨[tP 1 1], [bC 1 (GTerm.q ue)], []⟩ ?_
                  refine Wc.skip ?_
                  apply Wc.seq
                  obtain ⟨u8q, h511, h⟩ := Z0 h
                  obtain ⟨h512, h⟩ := Zg h
                  refine Wc.r2 [{}, {}, { r := some (.v (.str u8q) []) }] ⟨[tP 1 1, tS 6 (u8q ++ (bs [40]))], [bC 1 (GTerm.q ue)], []⟩ (.cons (Zab h511) (.cons h512 .nil)) ?_
                  apply Wc.seq
                  apply Wc.seq
                  refine Wc.r0 ⟨[tP 1 1, tS 6 (u8q ++ (bs [40])), tI 7 0], [bC 1 (GTerm.q ue)], []⟩ ?_
                  obtain ⟨out3, h513, h⟩ := Z0 h
                  refine Wc.lastJ (fun st => ∃ (u7l : ByteArray), out3 = .done u7l ∧ st = ⟨[tS 6 u7l], [], []⟩) ?_ ?_
                  · refine Wc.block ?_
                    refine Wc.loop (fun m st => ∃ (u3t : ByteArray) (u15 : Int), st = ⟨[tP 1 1, tS 6 u3t, tI 7 u15], [bC 1 (GTerm.q ue)], []⟩ ∧ Z4a k (Z34 k) (Z1a k) ue m u3t u15 = some out3) ?_ k ⟨_, _, rfl, h513⟩
                    rintro m st ⟨u3t, u15, rfl, h513⟩
                    cases m with
                    | zero => exact (Z1r h513).elim
                    | succ m =>
                      apply Wc.seq
                      apply Wc.seq
                      refine Wc.r2 [{}, {}, {}, { v := some (aI (ue.gKids.length : Int)) }] ⟨[tP 1 1, tS 6 u3t, tI 7 u15, tB 93 (decide (u15 < (ue.gKids.length : Int)))], [bC 1 (GTerm.q ue)], []⟩ (.cons (Zn GTerm.c ue.gKids) .nil) ?_
                      rcases oif h513 with ⟨h514, h513⟩ | ⟨h514, h513⟩
                      · refine Wc.cT h514 ?_
                        refine Wc.fx [] ⟨[tP 1 1, tS 6 u3t, tI 7 u15], [bC 1 (GTerm.q ue)], []⟩ ?_
                        refine Wc.skip ?_
                        apply Wc.seq
                        refine Wc.block ?_
                        refine Wc.seqJ (fun st => ∃ (u6q : ByteArray), st = ⟨[tP 1 1, tS 6 u6q, tI 7 u15], [bC 1 (GTerm.q ue)], []⟩ ∧ Z78 k (Z34 k) (Z1a k) (Z4a k (Z34 k) (Z1a k) ue m) ue u15 u6q = some out3) ?_ ?_
                        · apply Wc.seq
                          refine Wc.r0 ⟨[tP 1 1, tS 6 u3t, tI 7 u15, tB 97 (decide (u15 > 0))], [bC 1 (GTerm.q ue)], []⟩ ?_
                          rcases oif h513 with ⟨h518, h513⟩ | ⟨h518, h513⟩
                          · refine Wc.cT h518 ?_
                            obtain ⟨h519, h513⟩ := Zg h513
                            refine Wc.r2 [] ⟨[tP 1 1, tS 6 (u3t ++ (bs [44])), tI 7 u15], [bC 1 (GTerm.q ue)], []⟩ (.cons h519 .nil) ?_
                            exact ⟨_, rfl, h513⟩
                          · refine Wc.cF h518 ?_
                            refine Wc.fx [] ⟨[tP 1 1, tS 6 u3t, tI 7 u15], [bC 1 (GTerm.q ue)], []⟩ ?_
                            refine Wc.skip ?_
                            exact ⟨_, rfl, h513⟩
                        · rintro st ⟨u6q, rfl, h513⟩
                          obtain ⟨ub9, h515, h513⟩ := Z0 h513
                          obtain ⟨u8o, h516, h513⟩ := Z0 h513
                          obtain ⟨h517, h513⟩ := Zg h513
                          refine Wc.r2 [{}, {}, {}, {}, { v := some (.vptr (GTerm.q ub9)) }, {}, { r := some (.v (.str u8o) []) }] ⟨[tP 1 1, tS 6 (u6q ++ u8o), tI 7 u15], [bC 1 (GTerm.q ue)], []⟩ (.cons (Z19 (c := GTerm.c) (GTerm.c_eq ub9) GTerm.c_len h515) (.cons (Z18 4 (GTerm.q ub9)) (.cons (Z4b h516) (.cons h517 .nil)))) ?_
                          refine Wc.r0 ⟨[tP 1 1, tS 6 (u6q ++ u8o), tI 7 (wr.i64 (u15 + 1))], [bC 1 (GTerm.q ue)], []⟩ ?_
                          exact ⟨_, Nat.lt_succ_self _, _, _, rfl, h513⟩
                      · refine Wc.cF h514 ?_
                        refine Wc.fx [] ⟨[tS 6 u3t], [], []⟩ ?_
                        refine Wc.exit ?_
                        cases h513
                        exact ⟨_, rfl, rfl⟩
                  · rintro st ⟨u7l, rfl, rfl⟩
                    apply Wc.seq
                    obtain ⟨h520, h⟩ := Zg h
                    refine Wc.r2 [] ⟨[tS 2 (u7l ++ (bs [41]))], [], []⟩ (.cons h520 .nil) ?_
                    cases h; exact Wc.ret dn
theorem Zmk {k : Nat} {ue : GTerm} {r : ByteArray} (h : Z1a k ue = some r) : FnO Tryz.prog 24 [.v (.agg (GTerm.q ue)) []] (.v (.str r) []) [] := (Zja k).2 h

def Z7k (k : Nat) (u6r : GTerm) : Option ByteArray :=
  (Z8e k u6r).bind fun ue9 =>
  if (!ue9) = true then
    some (bs [])
  else
    (Z1a k u6r).bind fun uea =>
    some uea
theorem Zl3 {k : Nat} {u6r : GTerm} {r : ByteArray} (h : Z7k k u6r = some r) : FnO Tryz.prog 12 [.v (.agg (GTerm.q u6r)) []] (.v (.str r) []) [] := by
  refine FnO.o2 Tryz.func12 (rfl : Tryz.f12.body = some _) ?_
  intro w0 X0 Fin pv0 pb gt
  unfold Z7k at h
  apply Wc.seq
  refine Wc.r0 ⟨[tP 1 1], [bC 1 (GTerm.q u6r)], []⟩ ?_
  apply Wc.seq
  apply Wc.seq
  obtain ⟨ue9, h522, h⟩ := Z0 h
  refine Wc.r2 [{}, { r := some (.v (.bool ue9) []) }] ⟨[tP 1 1, tB 5 (!ue9)], [bC 1 (GTerm.q u6r)], []⟩ (.cons (Zgl h522) .nil) ?_
  rcases oif h with ⟨h523, h⟩ | ⟨h523, h⟩
  · refine Wc.cT h523 ?_
    apply Wc.seq
    refine Wc.r0 ⟨[tS 2 (bs [])], [], []⟩ ?_
    cases h; exact Wc.ret dn
  · refine Wc.cF h523 ?_
    refine Wc.fx [] ⟨[tP 1 1], [bC 1 (GTerm.q u6r)], []⟩ ?_
    refine Wc.skip ?_
    apply Wc.seq
    obtain ⟨uea, h524, h⟩ := Z0 h
    refine Wc.r2 [{}, { r := some (.v (.str uea) []) }] ⟨[tS 2 uea], [], []⟩ (.cons (Zmk h524) .nil) ?_
    cases h; exact Wc.ret dn

def Z8d (k : Nat) (u1r : List Int) (u2f : Int) : Nat → Int → Option (Out Int Unit)
  | 0, _ => none
  | m + 1, u3h =>
    if (decide (u3h < (u1r.length : Int))) = true then
      (at' u1r u3h).bind fun ubh =>
      if (ubh == u2f) = true then
        some (.ret u3h)
      else
        Z8d k u1r u2f m (wr.i64 (u3h + 1))
    else
      some (.done ())
def Z8s (k : Nat) (u1r : List Int) (u2f : Int) : Option Int :=
  (Z8d k u1r u2f k 0).bind fun out1 => match out1 with
  | .ret r => some r
  | .done () =>
    some (-1)
theorem Znr {k : Nat} {u1r : List Int} {u2f : Int} {r : Int} (h : Z8s k u1r u2f = some r) : FnO Tryz.prog 48 [.v (.sl (List.map cI.i64 u1r)) [], .v (aI u2f) []] (.v (aI r) []) [] := by
  refine FnO.o2 Tryz.func48 (rfl : Tryz.f48.body = some _) ?_
  intro w0 X0 Fin pv0 pb gt
  unfold Z8s at h
  apply Wc.seq
  refine Wc.r0 ⟨[tV 0 (.sl (List.map cI.i64 u1r)), tI 1 u2f], [], []⟩ ?_
  apply Wc.seq
  apply Wc.seq
  refine Wc.r0 ⟨[tV 0 (.sl (List.map cI.i64 u1r)), tI 1 u2f, tI 5 0], [], []⟩ ?_
  obtain ⟨out1, h525, h⟩ := Z0 h
  refine Wc.lastJ (fun st => out1 = .done () ∧ st = ⟨[], [], []⟩) ?_ ?_
  · refine Wc.block ?_
    refine Wc.loop (fun m st => ∃ (u3h : Int), st = ⟨[tV 0 (.sl (List.map cI.i64 u1r)), tI 1 u2f, tI 5 u3h], [], []⟩ ∧ Z8d k u1r u2f m u3h = some out1) ?_ k ⟨_, rfl, h525⟩
    rintro m st ⟨u3h, rfl, h525⟩
    cases m with
    | zero => exact (Z1r h525).elim
    | succ m =>
      apply Wc.seq
      apply Wc.seq
      refine Wc.r2 [{}, {}, { v := some (aI (u1r.length : Int)) }] ⟨[tV 0 (.sl (List.map cI.i64 u1r)), tI 1 u2f, tI 5 u3h, tB 9 (decide (u3h < (u1r.length : Int)))], [], []⟩ (.cons (Zn cI.i64 u1r) .nil) ?_
      rcases oif h525 with ⟨h526, h525⟩ | ⟨h526, h525⟩
      · refine Wc.cT h526 ?_
        refine Wc.fx [] ⟨[tV 0 (.sl (List.map cI.i64 u1r)), tI 1 u2f, tI 5 u3h], [], []⟩ ?_
        refine Wc.skip ?_
        apply Wc.seq
        refine Wc.block ?_
        apply Wc.seq
        obtain ⟨ubh, h527, h525⟩ := Z0 h525
        refine Wc.r2 [{}, {}, { v := some (.vptr [aI ubh]) }] ⟨[tV 0 (.sl (List.map cI.i64 u1r)), tI 1 u2f, tI 5 u3h, tB 17 (ubh == u2f)], [], []⟩ (.cons (Z19 (c := cI.i64) rfl cI.i64_len h527) (.cons (Z18 1 [aI ubh]) .nil)) ?_
        rcases oif h525 with ⟨h528, h525⟩ | ⟨h528, h525⟩
        · refine Wc.cT h528 ?_
          apply Wc.seq
          refine Wc.r0 ⟨[tI 4 u3h], [], []⟩ ?_
          refine Wc.ret ?_
          cases h525
          cases h
          exact ⟨.inl rfl, by kernel_rfl, by kernel_rfl⟩
        · refine Wc.cF h528 ?_
          refine Wc.fx [] ⟨[tV 0 (.sl (List.map cI.i64 u1r)), tI 1 u2f, tI 5 u3h], [], []⟩ ?_
          refine Wc.skip ?_
          refine Wc.r0 ⟨[tV 0 (.sl (List.map cI.i64 u1r)), tI 1 u2f, tI 5 (wr.i64 (u3h + 1))], [], []⟩ ?_
          exact ⟨_, Nat.lt_succ_self _, _, rfl, h525⟩
      · refine Wc.cF h526 ?_
        refine Wc.fx [] ⟨[], [], []⟩ ?_
        refine Wc.exit ?_
        cases h525
        exact ⟨rfl, rfl⟩
  · rintro st ⟨rfl, rfl⟩
    apply Wc.seq
    refine Wc.r0 ⟨[tI 4 (-1)], [], []⟩ ?_
    cases h; exact Wc.ret dn

def Z5k (k : Nat) (Zcj : GTerm → GTerm → (List Int) → (List Int) → Option Bool) (vb : GTerm) (vo : GTerm) (zc : List Int) (zd : List Int) : Nat → Int → Option (Out Bool Unit)
  | 0, _ => none
  | m + 1, u3v =>
    if (decide (u3v < (vb.gKids.length : Int))) = true then
      (at' vb.gKids u3v).bind fun ubi =>
      (at' vo.gKids u3v).bind fun ubj =>
      (Zcj ubi ubj zc zd).bind fun ueb =>
      if (!ueb) = true then
        some (.ret false)
      else
        Z5k k Zcj vb vo zc zd m (wr.i64 (u3v + 1))
    else
      some (.done ())
mutual
def Z3m : Nat → GTerm → GTerm → (List Int) → (List Int) → Option Bool
  | 0, _, _, _, _ => none
  | k + 1, vb, vo, zc, zd =>
    if (vb.gKind != vo.gKind) = true then
      some false
    else
      if (!(sEq vb.gName vo.gName)) = true then
        some false
      else
        if ((vb.gKids.length : Int) != (vo.gKids.length : Int)) = true then
          some false
        else
          if (vb.gKind == 1) = true then
            (Z8s k zc vb.gNum).bind fun uec =>
            (Z8s k zd vo.gNum).bind fun ued =>
            some (uec == ued)
          else
            if (vb.gNum != vo.gNum) = true then
              some false
            else
              (Z5k k (Z3m k) vb vo zc zd k 0).bind fun out1 => match out1 with
              | .ret r => some r
              | .done () =>
                some true
end
set_option maxHeartbeats 4000000 in
theorem Zh1 : ∀ k : Nat, (∀ {vb : GTerm} {vo : GTerm} {zc : List Int} {zd : List Int} {r : Bool}, Z3m k vb vo zc zd = some r → FnO Tryz.prog 25 [.v (.agg (GTerm.q vb)) [], .v (.agg (GTerm.q vo)) [], .v (.sl (List.map cI.i64 zc)) [], .v (.sl (List.map cI.i64 zd)) []] (.v (.bool r) []) []) := by
  intro k
  induction k with
  | zero =>
    · intro vb vo zc zd r h
      exact (Z1r (by rw [Z3m] at h; exact h)).elim
  | succ k ih =>
    have Ziu := @ih
    · intro vb vo zc zd r h
      rw [Z3m] at h
      refine FnO.o2 Tryz.func25 (rfl : Tryz.f25.body = some _) ?_
      intro w0 X0 Fin pv0 pb gt
      apply Wc.seq
      refine Wc.r0 ⟨[tV 2 (.sl (List.map cI.i64 zc)), tV 3 (.sl (List.map cI.i64 zd)), tP 4 4, tP 5 5], [bC 4 (GTerm.q vb), bC 5 (GTerm.q vo)], []⟩ ?_
      apply Wc.seq
      apply Wc.seq
      rcases oif h with ⟨h529, h⟩ | ⟨h529, h⟩
      · refine Wc.r2 [{}, {}, {}, {}, {}, rT] ⟨[tV 2 (.sl (List.map cI.i64 zc)), tV 3 (.sl (List.map cI.i64 zd)), tP 4 4, tP 5 5, tB 30 true], [bC 4 (GTerm.q vb), bC 5 (GTerm.q vo)], []⟩ (cb h529 .nil) ?_
        refine Wc.cT rfl ?_
        apply Wc.seq
        refine Wc.r0 ⟨[tB 8 false], [], []⟩ ?_
        cases h; exact Wc.ret dn
      · rcases oif h with ⟨h530, h⟩ | ⟨h530, h⟩
        · refine Wc.r2 [{}, {}, {}, {}, {}, rF, {}, {}, {}, {}, {}, {}, rT] ⟨[tV 2 (.sl (List.map cI.i64 zc)), tV 3 (.sl (List.map cI.i64 zd)), tP 4 4, tP 5 5, tB 30 true], [bC 4 (GTerm.q vb), bC 5 (GTerm.q vo)], []⟩ (cb h529 (cb h530 .nil)) ?_
          refine Wc.cT rfl ?_
          apply Wc.seq
          refine Wc.r0 ⟨[tB 8 false], [], []⟩ ?_
          cases h; exact Wc.ret dn
        · refine Wc.r2 [{}, {}, {}, {}, {}, rF, {}, {}, {}, {}, {}, {}, rF, {}, {}, { v := some (aI (vb.gKids.length : Int)) }, {}, {}, { v := some (aI (vo.gKids.length : Int)) }] ⟨[tV 2 (.sl (List.map cI.i64 zc)), tV 3 (.sl (List.map cI.i64 zd)), tP 4 4, tP 5 5, tB 30 ((vb.gKids.length : Int) != (vo.gKids.length : Int))], [bC 4 (GTerm.q vb), bC 5 (GTerm.q vo)], []⟩ (cb h529 (cb h530 (.cons (Zn GTerm.c vb.gKids) (.cons (Zn GTerm.c vo.gKids) .nil)))) ?_
          rcases oif h with ⟨h531, h⟩ | ⟨h531, h⟩
          · refine Wc.cT h531 ?_
            apply Wc.seq
            refine Wc.r0 ⟨[tB 8 false], [], []⟩ ?_
            cases h; exact Wc.ret dn
          · refine Wc.cF h531 ?_
            refine Wc.fx [] ⟨[tV 2 (.sl (List.map cI.i64 zc)), tV 3 (.sl (List.map cI.i64 zd)), tP 4 4, tP 5 5], [bC 4 (GTerm.q vb), bC 5 (GTerm.q vo)], []⟩ ?_
            refine Wc.skip ?_
            apply Wc.seq
            apply Wc.seq
            refine Wc.r0 ⟨[tV 2 (.sl (List.map cI.i64 zc)), tV 3 (.sl (List.map cI.i64 zd)), tP 4 4, tP 5 5, tB 33 (vb.gKind == 1)], [bC 4 (GTerm.q vb), bC 5 (GTerm.q vo)], []⟩ ?_
            rcases oif h with ⟨h532, h⟩ | ⟨h532, h⟩
            · refine Wc.cT h532 ?_
              apply Wc.seq
              obtain ⟨uec, h533, h⟩ := Z0 h
              obtain ⟨ued, h534, h⟩ := Z0 h
              refine Wc.draw hmix [{}, {}, {}, { r := some (.v (aI uec) []) }, {}, {}, {}, { r := some (.v (aI ued) []) }] [] [8] [] [] ⟨[tB 8 (uec == ued)], [], []⟩ _ (by kernel_rfl) (fun X => by kernel_rfl) (.cons (Znr h533) (.cons (Znr h534) .nil)) ?_
              cases h; exact Wc.ret dn
            · refine Wc.cF h532 ?_
              refine Wc.fx [] ⟨[tV 2 (.sl (List.map cI.i64 zc)), tV 3 (.sl (List.map cI.i64 zd)), tP 4 4, tP 5 5], [bC 4 (GTerm.q vb), bC 5 (GTerm.q vo)], []⟩ ?_
              refine Wc.skip ?_
              apply Wc.seq
              apply Wc.seq
              refine Wc.r0 ⟨[tV 2 (.sl (List.map cI.i64 zc)), tV 3 (.sl (List.map cI.i64 zd)), tP 4 4, tP 5 5, tB 47 (vb.gNum != vo.gNum)], [bC 4 (GTerm.q vb), bC 5 (GTerm.q vo)], []⟩ ?_
              rcases oif h with ⟨h535, h⟩ | ⟨h535, h⟩
              · refine Wc.cT h535 ?_
                apply Wc.seq
                refine Wc.r0 ⟨[tB 8 false], [], []⟩ ?_
                cases h; exact Wc.ret dn
              · refine Wc.cF h535 ?_
                refine Wc.fx [] ⟨[tV 2 (.sl (List.map cI.i64 zc)), tV 3 (.sl (List.map cI.i64 zd)), tP 4 4, tP 5 5], [bC 4 (GTerm.q vb), bC 5 (GTerm.q vo)], []⟩ ?_
                refine Wc.skip ?_
                apply Wc.seq
                apply Wc.seq
                refine Wc.r0 ⟨[tV 2 (.sl (List.map cI.i64 zc)), tV 3 (.sl (List.map cI.i64 zd)), tP 4 4, tP 5 5, tI 9 0], [bC 4 (GTerm.q vb), bC 5 (GTerm.q vo)], []⟩ ?_
                obtain ⟨out1, h536, h⟩ := Z0 h
                refine Wc.lastJ (fun st => out1 = .done () ∧ st = ⟨[], [], []⟩) ?_ ?_
                · refine Wc.block ?_
                  refine Wc.loop (fun m st => ∃ (u3v : Int), st = ⟨[tV 2 (.sl (List.map cI.i64 zc)), tV 3 (.sl (List.map cI.i64 zd)), tP 4 4, tP 5 5, tI 9 u3v], [bC 4 (GTerm.q vb), bC 5 (GTerm.q vo)], []⟩ ∧ Z5k k (Z3m k) vb vo zc zd m u3v = some out1) ?_ k ⟨_, rfl, h536⟩
                  rintro m st ⟨u3v, rfl, h536⟩
                  cases m with
                  | zero => exact (Z1r h536).elim
                  | succ m =>
                    apply Wc.seq
                    apply Wc.seq
                    refine Wc.r2 [{}, {}, {}, { v := some (aI (vb.gKids.length : Int)) }] ⟨[tV 2 (.sl (List.map cI.i64 zc)), tV 3 (.sl (List.map cI.i64 zd)), tP 4 4, tP 5 5, tI 9 u3v, tB 52 (decide (u3v < (vb.gKids.length : Int)))], [bC 4 (GTerm.q vb), bC 5 (GTerm.q vo)], []⟩ (.cons (Zn GTerm.c vb.gKids) .nil) ?_
                    rcases oif h536 with ⟨h537, h536⟩ | ⟨h537, h536⟩
                    · refine Wc.cT h537 ?_
                      refine Wc.fx [] ⟨[tV 2 (.sl (List.map cI.i64 zc)), tV 3 (.sl (List.map cI.i64 zd)), tP 4 4, tP 5 5, tI 9 u3v], [bC 4 (GTerm.q vb), bC 5 (GTerm.q vo)], []⟩ ?_
                      refine Wc.skip ?_
                      apply Wc.seq
                      refine Wc.block ?_
                      apply Wc.seq
                      obtain ⟨ubi, h538, h536⟩ := Z0 h536
                      obtain ⟨ubj, h539, h536⟩ := Z0 h536
                      obtain ⟨ueb, h540, h536⟩ := Z0 h536
                      refine Wc.draw hmix [{}, {}, {}, { v := some (.vptr (GTerm.q ubi)) }, {}, {}, {}, {}, { v := some (.vptr (GTerm.q ubj)) }, {}, {}, {}, { r := some (.v (.bool ueb) []) }] [] [2, 3, 4, 5, 9, 68] [4, 5] [] ⟨[tV 2 (.sl (List.map cI.i64 zc)), tV 3 (.sl (List.map cI.i64 zd)), tP 4 4, tP 5 5, tI 9 u3v, tB 68 (!ueb)], [bC 4 (GTerm.q vb), bC 5 (GTerm.q vo)], []⟩ _ (by kernel_rfl) (fun X => by kernel_rfl) (.cons (Z19 (c := GTerm.c) (GTerm.c_eq ubi) GTerm.c_len h538) (.cons (Z18 4 (GTerm.q ubi)) (.cons (Z19 (c := GTerm.c) (GTerm.c_eq ubj) GTerm.c_len h539) (.cons (Z18 4 (GTerm.q ubj)) (.cons (Ziu h540) .nil))))) ?_
                      rcases oif h536 with ⟨h541, h536⟩ | ⟨h541, h536⟩
                      · refine Wc.cT h541 ?_
                        apply Wc.seq
                        refine Wc.r0 ⟨[tB 8 false], [], []⟩ ?_
                        refine Wc.ret ?_
                        cases h536
                        cases h
                        exact ⟨.inl rfl, by kernel_rfl, by kernel_rfl⟩
                      · refine Wc.cF h541 ?_
                        refine Wc.fx [] ⟨[tV 2 (.sl (List.map cI.i64 zc)), tV 3 (.sl (List.map cI.i64 zd)), tP 4 4, tP 5 5, tI 9 u3v], [bC 4 (GTerm.q vb), bC 5 (GTerm.q vo)], []⟩ ?_
                        refine Wc.skip ?_
                        refine Wc.r0 ⟨[tV 2 (.sl (List.map cI.i64 zc)), tV 3 (.sl (List.map cI.i64 zd)), tP 4 4, tP 5 5, tI 9 (wr.i64 (u3v + 1))], [bC 4 (GTerm.q vb), bC 5 (GTerm.q vo)], []⟩ ?_
                        exact ⟨_, Nat.lt_succ_self _, _, rfl, h536⟩
                    · refine Wc.cF h537 ?_
                      refine Wc.fx [] ⟨[], [], []⟩ ?_
                      refine Wc.exit ?_
                      cases h536
                      exact ⟨rfl, rfl⟩
                · rintro st ⟨rfl, rfl⟩
                  apply Wc.seq
                  refine Wc.r0 ⟨[tB 8 true], [], []⟩ ?_
                  cases h; exact Wc.ret dn
theorem Zol {k : Nat} {vb : GTerm} {vo : GTerm} {zc : List Int} {zd : List Int} {r : Bool} (h : Z3m k vb vo zc zd = some r) : FnO Tryz.prog 25 [.v (.agg (GTerm.q vb)) [], .v (.agg (GTerm.q vo)) [], .v (.sl (List.map cI.i64 zc)) [], .v (.sl (List.map cI.i64 zd)) []] (.v (.bool r) []) [] := (Zh1 k) h

def Z7j (k : Nat) (u1s : List Int) (u2g : Int) : Nat → Int → Option (Out Bool Unit)
  | 0, _ => none
  | m + 1, u45 =>
    if (decide (u45 < (u1s.length : Int))) = true then
      (at' u1s u45).bind fun ubk =>
      if (ubk == u2g) = true then
        some (.ret true)
      else
        Z7j k u1s u2g m (wr.i64 (u45 + 1))
    else
      some (.done ())
def Zaq (k : Nat) (u1s : List Int) (u2g : Int) : Option Bool :=
  (Z7j k u1s u2g k 0).bind fun out1 => match out1 with
  | .ret r => some r
  | .done () =>
    some false
theorem Zqy {k : Nat} {u1s : List Int} {u2g : Int} {r : Bool} (h : Zaq k u1s u2g = some r) : FnO Tryz.prog 75 [.v (.sl (List.map cI.i64 u1s)) [], .v (aI u2g) []] (.v (.bool r) []) [] := by
  refine FnO.o2 Tryz.func75 (rfl : Tryz.f75.body = some _) ?_
  intro w0 X0 Fin pv0 pb gt
  unfold Zaq at h
  apply Wc.seq
  refine Wc.r0 ⟨[tV 0 (.sl (List.map cI.i64 u1s)), tI 1 u2g], [], []⟩ ?_
  apply Wc.seq
  apply Wc.seq
  refine Wc.r0 ⟨[tV 0 (.sl (List.map cI.i64 u1s)), tI 1 u2g, tI 5 0], [], []⟩ ?_
  obtain ⟨out1, h542, h⟩ := Z0 h
  refine Wc.lastJ (fun st => out1 = .done () ∧ st = ⟨[], [], []⟩) ?_ ?_
  · refine Wc.block ?_
    refine Wc.loop (fun m st => ∃ (u45 : Int), st = ⟨[tV 0 (.sl (List.map cI.i64 u1s)), tI 1 u2g, tI 5 u45], [], []⟩ ∧ Z7j k u1s u2g m u45 = some out1) ?_ k ⟨_, rfl, h542⟩
    rintro m st ⟨u45, rfl, h542⟩
    cases m with
    | zero => exact (Z1r h542).elim
    | succ m =>
      apply Wc.seq
      apply Wc.seq
      refine Wc.r2 [{}, {}, { v := some (aI (u1s.length : Int)) }] ⟨[tV 0 (.sl (List.map cI.i64 u1s)), tI 1 u2g, tI 5 u45, tB 9 (decide (u45 < (u1s.length : Int)))], [], []⟩ (.cons (Zn cI.i64 u1s) .nil) ?_
      rcases oif h542 with ⟨h543, h542⟩ | ⟨h543, h542⟩
      · refine Wc.cT h543 ?_
        refine Wc.fx [] ⟨[tV 0 (.sl (List.map cI.i64 u1s)), tI 1 u2g, tI 5 u45], [], []⟩ ?_
        refine Wc.skip ?_
        apply Wc.seq
        refine Wc.block ?_
        apply Wc.seq
        obtain ⟨ubk, h544, h542⟩ := Z0 h542
        refine Wc.r2 [{}, {}, { v := some (.vptr [aI ubk]) }] ⟨[tV 0 (.sl (List.map cI.i64 u1s)), tI 1 u2g, tI 5 u45, tB 17 (ubk == u2g)], [], []⟩ (.cons (Z19 (c := cI.i64) rfl cI.i64_len h544) (.cons (Z18 1 [aI ubk]) .nil)) ?_
        rcases oif h542 with ⟨h545, h542⟩ | ⟨h545, h542⟩
        · refine Wc.cT h545 ?_
          apply Wc.seq
          refine Wc.r0 ⟨[tB 4 true], [], []⟩ ?_
          refine Wc.ret ?_
          cases h542
          cases h
          exact ⟨.inl rfl, by kernel_rfl, by kernel_rfl⟩
        · refine Wc.cF h545 ?_
          refine Wc.fx [] ⟨[tV 0 (.sl (List.map cI.i64 u1s)), tI 1 u2g, tI 5 u45], [], []⟩ ?_
          refine Wc.skip ?_
          refine Wc.r0 ⟨[tV 0 (.sl (List.map cI.i64 u1s)), tI 1 u2g, tI 5 (wr.i64 (u45 + 1))], [], []⟩ ?_
          exact ⟨_, Nat.lt_succ_self _, _, rfl, h542⟩
      · refine Wc.cF h543 ?_
        refine Wc.fx [] ⟨[], [], []⟩ ?_
        refine Wc.exit ?_
        cases h542
        exact ⟨rfl, rfl⟩
  · rintro st ⟨rfl, rfl⟩
    apply Wc.seq
    refine Wc.r0 ⟨[tB 4 false], [], []⟩ ?_
    cases h; exact Wc.ret dn

def Z6j (k : Nat) (Z4j : GTerm → (List Int) → Option (List Int)) (v1 : GTerm) : Nat → (List Int) → Int → Option (Out (List Int) (List Int))
  | 0, _, _ => none
  | m + 1, u69, u4o =>
    if (decide (u4o < (v1.gKids.length : Int))) = true then
      (at' v1.gKids u4o).bind fun ubl =>
      (Z4j ubl u69).bind fun ubm =>
      Z6j k Z4j v1 m ubm (wr.i64 (u4o + 1))
    else
      some (.done u69)
def Z6l (k : Nat) (Z4j : GTerm → (List Int) → Option (List Int)) (v1 : GTerm) (u8u : List Int) : Option (List Int) :=
  (Z6j k Z4j v1 k u8u 0).bind fun out2 => match out2 with
  | .ret r => some r
  | .done u8v =>
    some u8v
def Z6k (k : Nat) (Z4j : GTerm → (List Int) → Option (List Int)) (u0h : List Int) (v1 : GTerm) (ubn : Bool) : Option (List Int) :=
  if ubn = true then
    if u0h.length + [v1.gNum].length ≤ 1073741824 then
      Z6l k Z4j v1 (u0h ++ [v1.gNum])
    else none
  else
    Z6l k Z4j v1 u0h
mutual
def Z39 : Nat → GTerm → (List Int) → Option (List Int)
  | 0, _, _ => none
  | k + 1, v1, u0h =>
    if (v1.gKind == 1) = true then
      (Zaq k u0h v1.gNum).bind fun uee =>
      Z6k k (Z39 k) u0h v1 (!uee)
    else
      Z6k k (Z39 k) u0h v1 false
end
theorem Zh0 : ∀ k : Nat, (∀ {v1 : GTerm} {u0h : List Int} {r : (List Int)}, Z39 k v1 u0h = some r → FnO Tryz.prog 49 [.v (.agg (GTerm.q v1)) [], .v (.slx) [(0, .ex 3 false (List.map cI.i64 u0h))]] (.v (.slx) [(0, .ex 3 false (List.map cI.i64 r))]) []) := by
  intro k
  induction k with
  | zero =>
    · intro v1 u0h r h
      exact (Z1r (by rw [Z39] at h; exact h)).elim
  | succ k ih =>
    have Zit := @ih
    · intro v1 u0h r h
      rw [Z39] at h
      refine FnO.o2 Tryz.func49 (rfl : Tryz.f49.body = some _) ?_
      intro w0 X0 Fin pv0 pb gt
      apply Wc.seq
      refine Wc.r0 ⟨[(1, (.v (.slx), [(0, .ex 3 false (List.map cI.i64 u0h))])), tP 2 2], [bC 2 (GTerm.q v1)], []⟩ ?_
      refine Wc.seqJ (fun st => ∃ (u8u : List Int), st = ⟨[(1, (.v (.slx), [(0, .ex 3 false (List.map cI.i64 u8u))])), tP 2 2], [bC 2 (GTerm.q v1)], []⟩ ∧ Z6l k (Z39 k) v1 u8u = some r) ?_ ?_
      · refine Wc.seqJ (fun st => ∃ (ubn : Bool), st = ⟨[(1, (.v (.slx), [(0, .ex 3 false (List.map cI.i64 u0h))])), tP 2 2, tB 15 ubn], [bC 2 (GTerm.q v1)], []⟩ ∧ Z6k k (Z39 k) u0h v1 ubn = some r) ?_ ?_
        · rcases oif h with ⟨h560, h⟩ | ⟨h560, h⟩
          · obtain ⟨uee, h561, h⟩ := Z0 h
            refine Wc.r2 [{}, {}, {}, rT, {}, {}, {}, { r := some (.v (.bool uee) []) }] ⟨[(1, (.v (.slx), [(0, .ex 3 false (List.map cI.i64 u0h))])), tP 2 2, tB 15 (!uee)], [bC 2 (GTerm.q v1)], []⟩ (cb h560 (.cons (Zqy h561) .nil)) ?_
            exact ⟨_, rfl, h⟩
          · refine Wc.r2 [{}, {}, {}, rF] ⟨[(1, (.v (.slx), [(0, .ex 3 false (List.map cI.i64 u0h))])), tP 2 2, tB 15 false], [bC 2 (GTerm.q v1)], []⟩ (cb h560 .nil) ?_
            exact ⟨_, rfl, h⟩
        · rintro st ⟨ubn, rfl, h⟩
          rcases oif h with ⟨h558, h⟩ | ⟨h558, h⟩
          · refine Wc.cT h558 ?_
            obtain ⟨h559, h⟩ := Zg h
            refine Wc.r2 [{ tk := [1] }, {}, {}, { c := some (List.map cI.i64 [v1.gNum]) }, { c := some (List.map cI.i64 (u0h ++ [v1.gNum])), tk := [16], md := 1 }, { tk := [20] }] ⟨[(1, (.v (.slx), [(0, .ex 3 false (List.map cI.i64 (u0h ++ [v1.gNum])))])), tP 2 2], [bC 2 (GTerm.q v1)], []⟩ (.cons (Z3r (c := cI.i64) (x := v1.gNum) rfl (Z4g cI.i64)) (.cons (Z75 cI.i64 u0h [v1.gNum]) (.cons (Z53 (c := cI.i64) (ys := [v1.gNum]) cI.i64_leaf) (.cons (Z52 (c := cI.i64) (xs := u0h) (ys := [v1.gNum]) cI.i64_len h559) .nil)))) ?_
            exact ⟨_, rfl, h⟩
          · refine Wc.cF h558 ?_
            refine Wc.fx [] ⟨[(1, (.v (.slx), [(0, .ex 3 false (List.map cI.i64 u0h))])), tP 2 2], [bC 2 (GTerm.q v1)], []⟩ ?_
            refine Wc.skip ?_
            exact ⟨_, rfl, h⟩
      · rintro st ⟨u8u, rfl, h⟩
        apply Wc.seq
        apply Wc.seq
        refine Wc.r0 ⟨[(1, (.v (.slx), [(0, .ex 3 false (List.map cI.i64 u8u))])), tP 2 2, tI 5 0], [bC 2 (GTerm.q v1)], []⟩ ?_
        obtain ⟨out2, h554, h⟩ := Z0 h
        refine Wc.lastJ (fun st => ∃ (u8v : List Int), out2 = .done u8v ∧ st = ⟨[(1, (.v (.slx), [(0, .ex 3 false (List.map cI.i64 u8v))]))], [], []⟩) ?_ ?_
        · refine Wc.block ?_
          refine Wc.loop (fun m st => ∃ (u69 : List Int) (u4o : Int), st = ⟨[(1, (.v (.slx), [(0, .ex 3 false (List.map cI.i64 u69))])), tP 2 2, tI 5 u4o], [bC 2 (GTerm.q v1)], []⟩ ∧ Z6j k (Z39 k) v1 m u69 u4o = some out2) ?_ k ⟨_, _, rfl, h554⟩
          rintro m st ⟨u69, u4o, rfl, h554⟩
          cases m with
          | zero => exact (Z1r h554).elim
          | succ m =>
            apply Wc.seq
            apply Wc.seq
            refine Wc.r2 [{}, {}, {}, { v := some (aI (v1.gKids.length : Int)) }] ⟨[(1, (.v (.slx), [(0, .ex 3 false (List.map cI.i64 u69))])), tP 2 2, tI 5 u4o, tB 25 (decide (u4o < (v1.gKids.length : Int)))], [bC 2 (GTerm.q v1)], []⟩ (.cons (Zn GTerm.c v1.gKids) .nil) ?_
            rcases oif h554 with ⟨h555, h554⟩ | ⟨h555, h554⟩
            · refine Wc.cT h555 ?_
              refine Wc.fx [] ⟨[(1, (.v (.slx), [(0, .ex 3 false (List.map cI.i64 u69))])), tP 2 2, tI 5 u4o], [bC 2 (GTerm.q v1)], []⟩ ?_
              refine Wc.skip ?_
              apply Wc.seq
              refine Wc.block ?_
              obtain ⟨ubl, h556, h554⟩ := Z0 h554
              obtain ⟨ubm, h557, h554⟩ := Z0 h554
              refine Wc.r2 [{}, {}, {}, { v := some (.vptr (GTerm.q ubl)) }, {}, { tk := [1] }, { tk := [33], r := some (.v (.slx) [(0, .ex 3 false (List.map cI.i64 ubm))]) }, { tk := [34] }] ⟨[(1, (.v (.slx), [(0, .ex 3 false (List.map cI.i64 ubm))])), tP 2 2, tI 5 u4o], [bC 2 (GTerm.q v1)], []⟩ (.cons (Z19 (c := GTerm.c) (GTerm.c_eq ubl) GTerm.c_len h556) (.cons (Z18 4 (GTerm.q ubl)) (.cons (Zit h557) .nil))) ?_
              refine Wc.r0 ⟨[(1, (.v (.slx), [(0, .ex 3 false (List.map cI.i64 ubm))])), tP 2 2, tI 5 (wr.i64 (u4o + 1))], [bC 2 (GTerm.q v1)], []⟩ ?_
              exact ⟨_, Nat.lt_succ_self _, _, _, rfl, h554⟩
            · refine Wc.cF h555 ?_
              refine Wc.fx [] ⟨[(1, (.v (.slx), [(0, .ex 3 false (List.map cI.i64 u69))]))], [], []⟩ ?_
              refine Wc.exit ?_
              cases h554
              exact ⟨_, rfl, rfl⟩
        · rintro st ⟨u8v, rfl, rfl⟩
          apply Wc.seq
          refine Wc.r1 [{ tk := [1] }, { tk := [35] }] ⟨[(4, (.v (.slx), [(0, .ex 3 false (List.map cI.i64 u8v))]))], [], []⟩ ?_
          cases h; exact Wc.ret dn
theorem Zok {k : Nat} {v1 : GTerm} {u0h : List Int} {r : (List Int)} (h : Z39 k v1 u0h = some r) : FnO Tryz.prog 49 [.v (.agg (GTerm.q v1)) [], .v (.slx) [(0, .ex 3 false (List.map cI.i64 u0h))]] (.v (.slx) [(0, .ex 3 false (List.map cI.i64 r))]) [] := (Zh0 k) h

def Zar (k : Nat) (ubo : GTerm) : Option (List Int) :=
  (Z39 k ubo []).bind fun ubp =>
  some ubp
theorem Zl4 {k : Nat} {ubo : GTerm} {r : (List Int)} (h : Zar k ubo = some r) : FnO Tryz.prog 26 [.v (.agg (GTerm.q ubo)) []] (.v (.sl (List.map cI.i64 r)) []) [] := by
  refine FnO.o2 Tryz.func26 (rfl : Tryz.f26.body = some _) ?_
  intro w0 X0 Fin pv0 pb gt
  unfold Zar at h
  apply Wc.seq
  refine Wc.r0 ⟨[tP 1 1], [bC 1 (GTerm.q ubo)], []⟩ ?_
  apply Wc.seq
  obtain ⟨ubp, h562, h⟩ := Z0 h
  refine Wc.r2 [{}, { c := some (List.map cI.i64 []), md := 1 }, { tk := [4], r := some (.v (.slx) [(0, .ex 3 false (List.map cI.i64 ubp))]) }, { tk := [5] }] ⟨[(2, (.v (.slx), [(0, .ex 3 false (List.map cI.i64 ubp))]))], [], []⟩ (.cons (Z4g cI.i64) (.cons (Zok h562) .nil)) ?_
  refine Wc.fx [.sh (.t 2 0)] ⟨[tV 2 (.sl (List.map cI.i64 ubp))], [], []⟩ ?_
  cases h; exact Wc.ret dn

def Z9g (k : Nat) (u8w : GTerm) (u8x : GTerm) : Option Bool :=
  (Zar k u8w).bind fun ug8 =>
  (Zar k u8x).bind fun ug9 =>
  (Z3m k u8w u8x ug8 ug9).bind fun uef =>
  some uef
theorem Zom {k : Nat} {u8w : GTerm} {u8x : GTerm} {r : Bool} (h : Z9g k u8w u8x = some r) : FnO Tryz.prog 13 [.v (.agg (GTerm.q u8w)) [], .v (.agg (GTerm.q u8x)) []] (.v (.bool r) []) [] := by
  refine FnO.o2 Tryz.func13 (rfl : Tryz.f13.body = some _) ?_
  intro w0 X0 Fin pv0 pb gt
  unfold Z9g at h
  apply Wc.seq
  refine Wc.r0 ⟨[tP 2 2, tP 3 3], [bC 2 (GTerm.q u8w), bC 3 (GTerm.q u8x)], []⟩ ?_
  apply Wc.seq
  obtain ⟨ug8, h563, h⟩ := Z0 h
  obtain ⟨ug9, h564, h⟩ := Z0 h
  obtain ⟨uef, h565, h⟩ := Z0 h
  refine Wc.draw hmix [{}, {}, {}, { r := some (.v (.sl (List.map cI.i64 ug8)) []) }, {}, { r := some (.v (.sl (List.map cI.i64 ug9)) []) }, { r := some (.v (.bool uef) []) }] [] [4] [] [] ⟨[tB 4 uef], [], []⟩ _ (by kernel_rfl) (fun X => by kernel_rfl) (.cons (Zl4 h563) (.cons (Zl4 h564) (.cons (Zol h565) .nil))) ?_
  cases h; exact Wc.ret dn

def Z7l (k : Nat) (u5n : GTerm) : Option Bool :=
  (Z8e k u5n).bind fun ueg =>
  if (!ueg) = true then
    some true
  else
    (Z7k k u5n).bind fun ueh =>
    if Z11 ueh (bs [32, 46]) then
      (Z8f k (ueh ++ (bs [32, 46]))).bind fun u6s =>
      if u6s.2.2 = true then
        (Z9g k u6s.1 u5n).bind fun uei =>
        some uei
      else
        some false
    else none
theorem Zl5 {k : Nat} {u5n : GTerm} {r : Bool} (h : Z7l k u5n = some r) : FnO Tryz.prog 5 [.v (.agg (GTerm.q u5n)) []] (.v (.bool r) []) [] := by
  refine FnO.o2 Tryz.func5 (rfl : Tryz.f5.body = some _) ?_
  intro w0 X0 Fin pv0 pb gt
  unfold Z7l at h
  apply Wc.seq
  refine Wc.r0 ⟨[tP 1 1], [bC 1 (GTerm.q u5n)], []⟩ ?_
  apply Wc.seq
  apply Wc.seq
  obtain ⟨ueg, h566, h⟩ := Z0 h
  refine Wc.r2 [{}, { r := some (.v (.bool ueg) []) }] ⟨[tP 1 1, tB 8 (!ueg)], [bC 1 (GTerm.q u5n)], []⟩ (.cons (Zgl h566) .nil) ?_
  rcases oif h with ⟨h567, h⟩ | ⟨h567, h⟩
  · refine Wc.cT h567 ?_
    apply Wc.seq
    refine Wc.r0 ⟨[tB 2 true], [], []⟩ ?_
    cases h; exact Wc.ret dn
  · refine Wc.cF h567 ?_
    refine Wc.fx [] ⟨[tP 1 1], [bC 1 (GTerm.q u5n)], []⟩ ?_
    refine Wc.skip ?_
    apply Wc.seq
    obtain ⟨ueh, h568, h⟩ := Z0 h
    obtain ⟨h569, h⟩ := Zg h
    obtain ⟨u6s, h570, h⟩ := Z0 h
    refine Wc.r2 [{}, { r := some (.v (.str ueh) []) }, {}, { r := some (.v (.tup [.agg (GTerm.q u6s.1), .sl (List.map cS u6s.2.1), .bool u6s.2.2]) [(4, .app 9)]) }, { tk := [13] }, {}, { tk := [9] }, {}, {}, {}, { tk := [15] }] ⟨[tP 1 1, tP 3 3, tB 5 u6s.2.2], [bC 1 (GTerm.q u5n), bC 3 (GTerm.q u6s.1)], []⟩ (.cons (Zl3 h568) (.cons h569 (.cons (Zmm h570) .nil))) ?_
    apply Wc.seq
    rcases oif h with ⟨h571, h⟩ | ⟨h571, h⟩
    · obtain ⟨uei, h572, h⟩ := Z0 h
      refine Wc.r2 [{}, rT, {}, {}, { r := some (.v (.bool uei) []) }] ⟨[tB 2 uei], [], []⟩ (cb h571 (.cons (Zom h572) .nil)) ?_
      cases h; exact Wc.ret dn
    · refine Wc.r2 [{}, rF] ⟨[tB 2 false], [], []⟩ (cb h571 .nil) ?_
      cases h; exact Wc.ret dn

def Z5y (k : Nat) (Zdw : GTerm → Option GTerm) (Zic : (List GTerm) → Option (List GTerm)) (vv : List GTerm) : Nat → (List GTerm) → Int → Option (Out (List GTerm) (List GTerm))
  | 0, _, _ => none
  | m + 1, u46, u2h =>
    if (decide (u2h < (vv.length : Int))) = true then
      (at' vv u2h).bind fun ubq =>
      (Zdw ubq).bind fun u6t =>
      (at' u46 u2h).bind fun uga =>
      Z5y k Zdw Zic vv m (u46.set ((u2h).toNat) u6t) (wr.i64 (u2h + 1))
    else
      some (.done u46)
mutual
def Z29 : Nat → GTerm → Option GTerm
  | 0, _ => none
  | k + 1, zg =>
    (Z30 k zg.gKids).bind fun ubr =>
    some (GTerm.mk zg.gKind zg.gName zg.gNum ubr)
def Z30 : Nat → (List GTerm) → Option (List GTerm)
  | 0, _ => none
  | k + 1, vv =>
    if 0 ≤ (vv.length : Int) ∧ (vv.length : Int) ≤ 1073741824 then
      (Z5y k (Z29 k) (Z30 k) vv k (List.replicate ((vv.length : Int)).toNat (GTerm.mk 0 (bs []) 0 [])) 0).bind fun out1 => match out1 with
      | .ret r => some r
      | .done u7m =>
        some u7m
    else none
end
theorem Zej : ∀ k : Nat, (∀ {zg : GTerm} {r : GTerm}, Z29 k zg = some r → FnO Tryz.prog 6 [.v (.agg (GTerm.q zg)) []] (.v (.agg (GTerm.q r)) []) []) ∧
    (∀ {vv : List GTerm} {r : (List GTerm)}, Z30 k vv = some r → FnO Tryz.prog 14 [.v (.sl (List.map GTerm.c vv)) []] (.v (.sl (List.map GTerm.c r)) []) []) := by
  intro k
  induction k with
  | zero =>
    refine ⟨?_, ?_⟩
    · intro zg r h
      exact (Z1r (by rw [Z29] at h; exact h)).elim
    · intro vv r h
      exact (Z1r (by rw [Z30] at h; exact h)).elim
  | succ k ih =>
    obtain ⟨Zfy, Zed⟩ := ih
    refine ⟨?_, ?_⟩
    · intro zg r h
      rw [Z29] at h
      refine FnO.o2 Tryz.func6 (rfl : Tryz.f6.body = some _) ?_
      intro w0 X0 Fin pv0 pb gt
      apply Wc.seq
      refine Wc.r0 ⟨[tP 1 1, tP 2 2], [bC 1 (GTerm.q zg), bX0 2], []⟩ ?_
      apply Wc.seq
      refine Wc.r0 ⟨[tP 1 1, tP 2 2, tP 3 3], [bC 1 (GTerm.q zg), bX0 2, bX0 3], []⟩ ?_
      apply Wc.seq
      refine Wc.r0 ⟨[tP 1 1, tP 2 2, tP 3 3], [bC 1 (GTerm.q zg), bX0 2, (3, .cells [aI zg.gKind, .str (bs []), aI 0, .sl (List.map GTerm.c [])] [(3, .app 29)])], []⟩ ?_
      apply Wc.seq
      refine Wc.r0 ⟨[tP 1 1, tP 2 2, tP 3 3], [bC 1 (GTerm.q zg), bX0 2, (3, .cells [aI zg.gKind, .str zg.gName, aI 0, .sl (List.map GTerm.c [])] [(3, .app 29)])], []⟩ ?_
      apply Wc.seq
      refine Wc.r0 ⟨[tP 1 1, tP 2 2, tP 3 3], [bC 1 (GTerm.q zg), bX0 2, (3, .cells [aI zg.gKind, .str zg.gName, aI zg.gNum, .sl (List.map GTerm.c [])] [(3, .app 29)])], []⟩ ?_
      apply Wc.seq
      obtain ⟨ubr, h573, h⟩ := Z0 h
      refine Wc.r2 [{}, {}, { r := some (.v (.sl (List.map GTerm.c ubr)) []) }] ⟨[tP 2 2, tP 3 3], [bX0 2, bC 3 [aI zg.gKind, .str zg.gName, aI zg.gNum, .sl (List.map GTerm.c ubr)]], []⟩ (.cons (Zed h573) .nil) ?_
      apply Wc.seq
      refine Wc.r0 ⟨[tP 2 2], [bC 2 [aI zg.gKind, .str zg.gName, aI zg.gNum, .sl (List.map GTerm.c ubr)]], []⟩ ?_
      cases h; exact Wc.ret dn
    · intro vv r h
      rw [Z30] at h
      refine FnO.o2 Tryz.func14 (rfl : Tryz.f14.body = some _) ?_
      intro w0 X0 Fin pv0 pb gt
      apply Wc.seq
      refine Wc.r0 ⟨[tV 0 (.sl (List.map GTerm.c vv))], [], []⟩ ?_
      apply Wc.seq
      obtain ⟨h574, h⟩ := Zg h
      refine Wc.r2 [{}, { v := some (aI (vv.length : Int)) }, { c := some (List.map GTerm.c (List.replicate ((vv.length : Int)).toNat (GTerm.mk 0 (bs []) 0 []))) }, { tk := [7], fx := [.ag (.t 7 0)] }] ⟨[tV 0 (.sl (List.map GTerm.c vv)), (3, (.v (.slx), [(0, .ex 29 false (List.map GTerm.c (List.replicate ((vv.length : Int)).toNat (GTerm.mk 0 (bs []) 0 []))))]))], [], []⟩ (.cons (Zn GTerm.c vv) (.cons (Zv6 (c := GTerm.c) (z := (GTerm.mk 0 (bs []) 0 [])) (GTerm.c_eq (GTerm.mk 0 (bs []) 0 [])) ((vv.length : Int)).toNat) (.cons (Zvg h574) .nil))) ?_
      apply Wc.seq
      apply Wc.seq
      refine Wc.r0 ⟨[tV 0 (.sl (List.map GTerm.c vv)), (3, (.v (.slx), [(0, .ex 29 false (List.map GTerm.c (List.replicate ((vv.length : Int)).toNat (GTerm.mk 0 (bs []) 0 []))))])), tI 4 0], [], []⟩ ?_
      obtain ⟨out1, h575, h⟩ := Z0 h
      refine Wc.lastJ (fun st => ∃ (u7m : List GTerm), out1 = .done u7m ∧ st = ⟨[(3, (.v (.slx), [(0, .ex 29 false (List.map GTerm.c u7m))]))], [], []⟩) ?_ ?_
      · refine Wc.block ?_
        refine Wc.loop (fun m st => ∃ (u46 : List GTerm) (u2h : Int), st = ⟨[tV 0 (.sl (List.map GTerm.c vv)), (3, (.v (.slx), [(0, .ex 29 false (List.map GTerm.c u46))])), tI 4 u2h], [], []⟩ ∧ Z5y k (Z29 k) (Z30 k) vv m u46 u2h = some out1) ?_ k ⟨_, _, rfl, h575⟩
        rintro m st ⟨u46, u2h, rfl, h575⟩
        cases m with
        | zero => exact (Z1r h575).elim
        | succ m =>
          apply Wc.seq
          apply Wc.seq
          refine Wc.r2 [{}, {}, { v := some (aI (vv.length : Int)) }] ⟨[tV 0 (.sl (List.map GTerm.c vv)), (3, (.v (.slx), [(0, .ex 29 false (List.map GTerm.c u46))])), tI 4 u2h, tB 11 (decide (u2h < (vv.length : Int)))], [], []⟩ (.cons (Zn GTerm.c vv) .nil) ?_
          rcases oif h575 with ⟨h576, h575⟩ | ⟨h576, h575⟩
          · refine Wc.cT h576 ?_
            refine Wc.fx [] ⟨[tV 0 (.sl (List.map GTerm.c vv)), (3, (.v (.slx), [(0, .ex 29 false (List.map GTerm.c u46))])), tI 4 u2h], [], []⟩ ?_
            refine Wc.skip ?_
            apply Wc.seq
            refine Wc.block ?_
            obtain ⟨ubq, h577, h575⟩ := Z0 h575
            obtain ⟨u6t, h578, h575⟩ := Z0 h575
            obtain ⟨uga, h579, h575⟩ := Z0 h575
            refine Wc.r2 [{}, {}, {}, {}, { v := some (.vptr (GTerm.q ubq)) }, {}, { r := some (.v (.agg (GTerm.q u6t)) []) }, {}, { c := some (List.map GTerm.c (u46.set ((u2h).toNat) u6t)) }] ⟨[tV 0 (.sl (List.map GTerm.c vv)), (3, (.v (.slx), [(0, .ex 29 false (List.map GTerm.c (u46.set ((u2h).toNat) u6t)))])), tI 4 u2h], [], []⟩ (.cons (Z19 (c := GTerm.c) (GTerm.c_eq ubq) GTerm.c_len h577) (.cons (Z18 4 (GTerm.q ubq)) (.cons (Zfy h578) (.cons (Zsx (c := GTerm.c) GTerm.c_len h579) (.cons (Ztw (off := 0) (new := (GTerm.q u6t)) (c := GTerm.c) (GTerm.c_eq uga) (GTerm.c_eq u6t) (Zd9 h579).2 rfl) (.cons (Zus (sz := 4) (off := 0) (s := 4) (c := GTerm.c) (GTerm.c_eq uga) (Zd9 h579).2 rfl (Nat.le_of_ble_eq_true rfl)) .nil)))))) ?_
            refine Wc.r0 ⟨[tV 0 (.sl (List.map GTerm.c vv)), (3, (.v (.slx), [(0, .ex 29 false (List.map GTerm.c (u46.set ((u2h).toNat) u6t)))])), tI 4 (wr.i64 (u2h + 1))], [], []⟩ ?_
            exact ⟨_, Nat.lt_succ_self _, _, _, rfl, h575⟩
          · refine Wc.cF h576 ?_
            refine Wc.fx [] ⟨[(3, (.v (.slx), [(0, .ex 29 false (List.map GTerm.c u46))]))], [], []⟩ ?_
            refine Wc.exit ?_
            cases h575
            exact ⟨_, rfl, rfl⟩
      · rintro st ⟨u7m, rfl, rfl⟩
        apply Wc.seq
        refine Wc.r1 [{ tk := [3] }, { tk := [22] }] ⟨[(2, (.v (.slx), [(0, .ex 29 false (List.map GTerm.c u7m))]))], [], []⟩ ?_
        refine Wc.fx [.sh (.t 2 0)] ⟨[tV 2 (.sl (List.map GTerm.c u7m))], [], []⟩ ?_
        cases h; exact Wc.ret dn
theorem Zb0 {k : Nat} {zg : GTerm} {r : GTerm} (h : Z29 k zg = some r) : FnO Tryz.prog 6 [.v (.agg (GTerm.q zg)) []] (.v (.agg (GTerm.q r)) []) [] := (Zej k).1 h


def Z4w (k : Nat) (u7n : Int) (ubs : Int) (u8y : Int) : Option Bool :=
  if (decide (u7n ≥ ubs)) = true then
    some (decide (u7n ≤ u8y))
  else
    some false
theorem Z46 {k : Nat} {u7n : Int} {ubs : Int} {u8y : Int} {r : Bool} (h : Z4w k u7n ubs u8y = some r) : FnO Tryz.prog 50 [.v (aI u7n) [], .v (aI ubs) [], .v (aI u8y) []] (.v (.bool r) []) [] := by
  refine FnO.o2 Tryz.func50 (rfl : Tryz.f50.body = some _) ?_
  intro w0 X0 Fin pv0 pb gt
  unfold Z4w at h
  apply Wc.seq
  refine Wc.r0 ⟨[tI 0 u7n, tI 1 ubs, tI 2 u8y], [], []⟩ ?_
  apply Wc.seq
  rcases oif h with ⟨h580, h⟩ | ⟨h580, h⟩
  · refine Wc.r2 [{}, {}, {}, rT] ⟨[tB 6 (decide (u7n ≤ u8y))], [], []⟩ (cb h580 .nil) ?_
    cases h; exact Wc.ret dn
  · refine Wc.r2 [{}, {}, {}, rF] ⟨[tB 6 false], [], []⟩ (cb h580 .nil) ?_
    cases h; exact Wc.ret dn

def Z7b (k : Nat) (zh : ByteArray) : Nat → Int → Option (Out Bool Unit)
  | 0, _ => none
  | m + 1, u0o =>
    if (decide (u0o < (zh.size : Int))) = true then
      if 0 ≤ u0o ∧ (u0o).toNat < zh.size then
        (Z4w k (wr.i64 (bt zh u0o)) 33 126).bind fun ubt =>
        if (!ubt) = true then
          some (.ret false)
        else
          if 0 ≤ u0o ∧ (u0o).toNat < zh.size then
            if ((bt zh u0o) == 39) = true then
              some (.ret false)
            else
              if 0 ≤ u0o ∧ (u0o).toNat < zh.size then
                if ((bt zh u0o) == 34) = true then
                  some (.ret false)
                else
                  Z7b k zh m (wr.i64 (u0o + 1))
              else none
          else none
      else none
    else
      some (.done ())
def Z9b (k : Nat) (zh : ByteArray) : Option Bool :=
  (Z7b k zh k 0).bind fun out1 => match out1 with
  | .ret r => some r
  | .done () =>
    (Z4w k (zh.size : Int) 1 20).bind fun uej =>
    some uej
theorem Z9q {k : Nat} {zh : ByteArray} {r : Bool} (h : Z9b k zh = some r) : FnO Tryz.prog 51 [.v (.str zh) []] (.v (.bool r) []) [] := by
  refine FnO.o2 Tryz.func51 (rfl : Tryz.f51.body = some _) ?_
  intro w0 X0 Fin pv0 pb gt
  unfold Z9b at h
  apply Wc.seq
  refine Wc.r0 ⟨[tS 0 zh], [], []⟩ ?_
  apply Wc.seq
  apply Wc.seq
  refine Wc.r0 ⟨[tS 0 zh, tI 3 0], [], []⟩ ?_
  obtain ⟨out1, h581, h⟩ := Z0 h
  refine Wc.lastJ (fun st => out1 = .done () ∧ st = ⟨[tS 0 zh], [], []⟩) ?_ ?_
  · refine Wc.block ?_
    refine Wc.loop (fun m st => ∃ (u0o : Int), st = ⟨[tS 0 zh, tI 3 u0o], [], []⟩ ∧ Z7b k zh m u0o = some out1) ?_ k ⟨_, rfl, h581⟩
    rintro m st ⟨u0o, rfl, h581⟩
    cases m with
    | zero => exact (Z1r h581).elim
    | succ m =>
      apply Wc.seq
      apply Wc.seq
      refine Wc.r0 ⟨[tS 0 zh, tI 3 u0o, tB 7 (decide (u0o < (zh.size : Int)))], [], []⟩ ?_
      rcases oif h581 with ⟨h582, h581⟩ | ⟨h582, h581⟩
      · refine Wc.cT h582 ?_
        refine Wc.fx [] ⟨[tS 0 zh, tI 3 u0o], [], []⟩ ?_
        refine Wc.skip ?_
        apply Wc.seq
        refine Wc.block ?_
        apply Wc.seq
        obtain ⟨h583, h581⟩ := Zg h581
        obtain ⟨ubt, h584, h581⟩ := Z0 h581
        rcases oif h581 with ⟨h585, h581⟩ | ⟨h585, h581⟩
        · refine Wc.r2 [{}, {}, {}, {}, { r := some (.v (.bool ubt) []) }, {}, rT] ⟨[tS 0 zh, tI 3 u0o, tB 27 true], [], []⟩ (.cons h583 (.cons (Z46 h584) (cb h585 .nil))) ?_
          refine Wc.cT rfl ?_
          apply Wc.seq
          refine Wc.r0 ⟨[tB 2 false], [], []⟩ ?_
          refine Wc.ret ?_
          cases h581
          cases h
          exact ⟨.inl rfl, by kernel_rfl, by kernel_rfl⟩
        · obtain ⟨h586, h581⟩ := Zg h581
          rcases oif h581 with ⟨h587, h581⟩ | ⟨h587, h581⟩
          · refine Wc.r2 [{}, {}, {}, {}, { r := some (.v (.bool ubt) []) }, {}, rF, {}, {}, {}, {}, {}, rT] ⟨[tS 0 zh, tI 3 u0o, tB 27 true], [], []⟩ (.cons h583 (.cons (Z46 h584) (cb h585 (.cons h586 (cb h587 .nil))))) ?_
            refine Wc.cT rfl ?_
            apply Wc.seq
            refine Wc.r0 ⟨[tB 2 false], [], []⟩ ?_
            refine Wc.ret ?_
            cases h581
            cases h
            exact ⟨.inl rfl, by kernel_rfl, by kernel_rfl⟩
          · obtain ⟨h588, h581⟩ := Zg h581
            refine Wc.r2 [{}, {}, {}, {}, { r := some (.v (.bool ubt) []) }, {}, rF, {}, {}, {}, {}, {}, rF] ⟨[tS 0 zh, tI 3 u0o, tB 27 ((bt zh u0o) == 34)], [], []⟩ (.cons h583 (.cons (Z46 h584) (cb h585 (.cons h586 (cb h587 (.cons h588 .nil)))))) ?_
            rcases oif h581 with ⟨h589, h581⟩ | ⟨h589, h581⟩
            · refine Wc.cT h589 ?_
              apply Wc.seq
              refine Wc.r0 ⟨[tB 2 false], [], []⟩ ?_
              refine Wc.ret ?_
              cases h581
              cases h
              exact ⟨.inl rfl, by kernel_rfl, by kernel_rfl⟩
            · refine Wc.cF h589 ?_
              refine Wc.fx [] ⟨[tS 0 zh, tI 3 u0o], [], []⟩ ?_
              refine Wc.skip ?_
              refine Wc.r0 ⟨[tS 0 zh, tI 3 (wr.i64 (u0o + 1))], [], []⟩ ?_
              exact ⟨_, Nat.lt_succ_self _, _, rfl, h581⟩
      · refine Wc.cF h582 ?_
        refine Wc.fx [] ⟨[tS 0 zh], [], []⟩ ?_
        refine Wc.exit ?_
        cases h581
        exact ⟨rfl, rfl⟩
  · rintro st ⟨rfl, rfl⟩
    apply Wc.seq
    obtain ⟨uej, h590, h⟩ := Z0 h
    refine Wc.r2 [{}, {}, { r := some (.v (.bool uej) []) }] ⟨[tB 2 uej], [], []⟩ (.cons (Z46 h590) .nil) ?_
    cases h; exact Wc.ret dn

def Z87 (k : Nat) (Z9t : GTerm → Int → Option Int) (ud : GTerm) (uu : Int) : Nat → Int → Int → Option (Out Int Int)
  | 0, _, _ => none
  | m + 1, u2z, u3i =>
    if (decide (u3i < (ud.gKids.length : Int))) = true then
      (at' ud.gKids u3i).bind fun u8z =>
      (Z9t u8z (wr.i64 (uu + 1))).bind fun u6a =>
      if (decide ((wr.i64 (u2z + u6a)) > 400)) = true then
        some (.ret 401)
      else
        Z87 k Z9t ud uu m (wr.i64 (u2z + u6a)) (wr.i64 (u3i + 1))
    else
      some (.done u2z)
def Z57 (k : Nat) (Z9t : GTerm → Int → Option Int) (ud : GTerm) (uu : Int) : Option Int :=
  (Z87 k Z9t ud uu k 1 0).bind fun out2 => match out2 with
  | .ret r => some r
  | .done u90 =>
    some u90
mutual
def Z4l : Nat → GTerm → Int → Option Int
  | 0, _, _ => none
  | k + 1, ud, uu =>
    if (decide (uu > 40)) = true then
      some 401
    else
      if (ud.gKind == 1) = true then
        if (!(sEq ud.gName (bs []))) = true then
          some 401
        else
          (Z4w k ud.gNum 0 99999).bind fun uek =>
          if (!uek) = true then
            some 401
          else
            if (decide ((ud.gKids.length : Int) > 0)) = true then
              some 401
            else
              Z57 k (Z4l k) ud uu
      else
        if (ud.gKind == 2) = true then
          (Z9b k ud.gName).bind fun ubu =>
          if (!ubu) = true then
            some 401
          else
            if (ud.gNum != 0) = true then
              some 401
            else
              if (decide ((ud.gKids.length : Int) > 0)) = true then
                some 401
              else
                Z57 k (Z4l k) ud uu
        else
          if (ud.gKind == 3) = true then
            if (!(sEq ud.gName (bs []))) = true then
              some 401
            else
              (Z4w k ud.gNum (-999999999) 999999999).bind fun uel =>
              if (!uel) = true then
                some 401
              else
                if (decide ((ud.gKids.length : Int) > 0)) = true then
                  some 401
                else
                  Z57 k (Z4l k) ud uu
          else
            if (ud.gKind == 4) = true then
              (Z9b k ud.gName).bind fun ubv =>
              if (!ubv) = true then
                some 401
              else
                if (ud.gNum != 0) = true then
                  some 401
                else
                  (Z4w k (ud.gKids.length : Int) 1 5).bind fun uem =>
                  if (!uem) = true then
                    some 401
                  else
                    Z57 k (Z4l k) ud uu
            else
              some 401
end
set_option maxHeartbeats 4000000 in
theorem Zlc : ∀ k : Nat, (∀ {ud : GTerm} {uu : Int} {r : Int}, Z4l k ud uu = some r → FnO Tryz.prog 27 [.v (.agg (GTerm.q ud)) [], .v (aI uu) []] (.v (aI r) []) []) := by
  intro k
  induction k with
  | zero =>
    · intro ud uu r h
      exact (Z1r (by rw [Z4l] at h; exact h)).elim
  | succ k ih =>
    have Zm7 := @ih
    · intro ud uu r h
      rw [Z4l] at h
      refine FnO.o2 Tryz.func27 (rfl : Tryz.f27.body = some _) ?_
      intro w0 X0 Fin pv0 pb gt
      apply Wc.seq
      refine Wc.r0 ⟨[tI 1 uu, tP 2 2], [bC 2 (GTerm.q ud)], []⟩ ?_
      apply Wc.seq
      apply Wc.seq
      refine Wc.r0 ⟨[tI 1 uu, tP 2 2, tB 9 (decide (uu > 40))], [bC 2 (GTerm.q ud)], []⟩ ?_
      rcases oif h with ⟨h591, h⟩ | ⟨h591, h⟩
      · refine Wc.cT h591 ?_
        apply Wc.seq
        refine Wc.r0 ⟨[tI 4 401], [], []⟩ ?_
        cases h; exact Wc.ret dn
      · refine Wc.cF h591 ?_
        refine Wc.fx [] ⟨[tI 1 uu, tP 2 2], [bC 2 (GTerm.q ud)], []⟩ ?_
        refine Wc.skip ?_
        refine Wc.seqJ (fun st => st = ⟨[tI 1 uu, tP 2 2], [bC 2 (GTerm.q ud)], []⟩ ∧ Z57 k (Z4l k) ud uu = some r) ?_ ?_
        · apply Wc.seq
          refine Wc.r0 ⟨[tI 1 uu, tP 2 2, tI 11 ud.gKind], [bC 2 (GTerm.q ud)], []⟩ ?_
          refine Wc.block ?_
          apply Wc.seq
          refine Wc.r0 ⟨[tI 1 uu, tP 2 2, tI 11 ud.gKind, tB 12 (ud.gKind == 1)], [bC 2 (GTerm.q ud)], []⟩ ?_
          rcases oif h with ⟨h597, h⟩ | ⟨h597, h⟩
          · refine Wc.cT h597 ?_
            apply Wc.seq
            rcases oif h with ⟨h598, h⟩ | ⟨h598, h⟩
            · refine Wc.r2 [{}, {}, {}, rT] ⟨[tI 1 uu, tP 2 2, tB 28 true], [bC 2 (GTerm.q ud)], []⟩ (cb h598 .nil) ?_
              refine Wc.cT rfl ?_
              apply Wc.seq
              refine Wc.r0 ⟨[tI 4 401], [], []⟩ ?_
              cases h; exact Wc.ret dn
            · obtain ⟨uek, h599, h⟩ := Z0 h
              rcases oif h with ⟨h600, h⟩ | ⟨h600, h⟩
              · refine Wc.r2 [{}, {}, {}, rF, {}, {}, { r := some (.v (.bool uek) []) }, {}, {}, rT] ⟨[tI 1 uu, tP 2 2, tB 28 true], [bC 2 (GTerm.q ud)], []⟩ (cb h598 (.cons (Z46 h599) (cb h600 .nil))) ?_
                refine Wc.cT rfl ?_
                apply Wc.seq
                refine Wc.r0 ⟨[tI 4 401], [], []⟩ ?_
                cases h; exact Wc.ret dn
              · refine Wc.r2 [{}, {}, {}, rF, {}, {}, { r := some (.v (.bool uek) []) }, {}, {}, rF, {}, {}, { v := some (aI (ud.gKids.length : Int)) }] ⟨[tI 1 uu, tP 2 2, tB 28 (decide ((ud.gKids.length : Int) > 0))], [bC 2 (GTerm.q ud)], []⟩ (cb h598 (.cons (Z46 h599) (cb h600 (.cons (Zn GTerm.c ud.gKids) .nil)))) ?_
                rcases oif h with ⟨h601, h⟩ | ⟨h601, h⟩
                · refine Wc.cT h601 ?_
                  apply Wc.seq
                  refine Wc.r0 ⟨[tI 4 401], [], []⟩ ?_
                  cases h; exact Wc.ret dn
                · refine Wc.cF h601 ?_
                  refine Wc.fx [] ⟨[tI 1 uu, tP 2 2], [bC 2 (GTerm.q ud)], []⟩ ?_
                  refine Wc.skip ?_
                  exact ⟨rfl, h⟩
          · refine Wc.cF h597 ?_
            apply Wc.seq
            refine Wc.r0 ⟨[tI 1 uu, tP 2 2, tI 11 ud.gKind, tB 29 (ud.gKind == 2)], [bC 2 (GTerm.q ud)], []⟩ ?_
            rcases oif h with ⟨h602, h⟩ | ⟨h602, h⟩
            · refine Wc.cT h602 ?_
              apply Wc.seq
              obtain ⟨ubu, h603, h⟩ := Z0 h
              rcases oif h with ⟨h604, h⟩ | ⟨h604, h⟩
              · refine Wc.r2 [{}, {}, { r := some (.v (.bool ubu) []) }, {}, rT] ⟨[tI 1 uu, tP 2 2, tB 45 true], [bC 2 (GTerm.q ud)], []⟩ (.cons (Z9q h603) (cb h604 .nil)) ?_
                refine Wc.cT rfl ?_
                apply Wc.seq
                refine Wc.r0 ⟨[tI 4 401], [], []⟩ ?_
                cases h; exact Wc.ret dn
              · rcases oif h with ⟨h605, h⟩ | ⟨h605, h⟩
                · refine Wc.r2 [{}, {}, { r := some (.v (.bool ubu) []) }, {}, rF, {}, {}, {}, {}, rT] ⟨[tI 1 uu, tP 2 2, tB 45 true], [bC 2 (GTerm.q ud)], []⟩ (.cons (Z9q h603) (cb h604 (cb h605 .nil))) ?_
                  refine Wc.cT rfl ?_
                  apply Wc.seq
                  refine Wc.r0 ⟨[tI 4 401], [], []⟩ ?_
                  cases h; exact Wc.ret dn
                · refine Wc.r2 [{}, {}, { r := some (.v (.bool ubu) []) }, {}, rF, {}, {}, {}, {}, rF, {}, {}, { v := some (aI (ud.gKids.length : Int)) }] ⟨[tI 1 uu, tP 2 2, tB 45 (decide ((ud.gKids.length : Int) > 0))], [bC 2 (GTerm.q ud)], []⟩ (.cons (Z9q h603) (cb h604 (cb h605 (.cons (Zn GTerm.c ud.gKids) .nil)))) ?_
                  rcases oif h with ⟨h606, h⟩ | ⟨h606, h⟩
                  · refine Wc.cT h606 ?_
                    apply Wc.seq
                    refine Wc.r0 ⟨[tI 4 401], [], []⟩ ?_
                    cases h; exact Wc.ret dn
                  · refine Wc.cF h606 ?_
                    refine Wc.fx [] ⟨[tI 1 uu, tP 2 2], [bC 2 (GTerm.q ud)], []⟩ ?_
                    refine Wc.skip ?_
                    exact ⟨rfl, h⟩
            · refine Wc.cF h602 ?_
              apply Wc.seq
              refine Wc.r0 ⟨[tI 1 uu, tP 2 2, tI 11 ud.gKind, tB 46 (ud.gKind == 3)], [bC 2 (GTerm.q ud)], []⟩ ?_
              rcases oif h with ⟨h607, h⟩ | ⟨h607, h⟩
              · refine Wc.cT h607 ?_
                apply Wc.seq
                rcases oif h with ⟨h608, h⟩ | ⟨h608, h⟩
                · refine Wc.r2 [{}, {}, {}, rT] ⟨[tI 1 uu, tP 2 2, tB 62 true], [bC 2 (GTerm.q ud)], []⟩ (cb h608 .nil) ?_
                  refine Wc.cT rfl ?_
                  apply Wc.seq
                  refine Wc.r0 ⟨[tI 4 401], [], []⟩ ?_
                  cases h; exact Wc.ret dn
                · obtain ⟨uel, h609, h⟩ := Z0 h
                  rcases oif h with ⟨h610, h⟩ | ⟨h610, h⟩
                  · refine Wc.r2 [{}, {}, {}, rF, {}, {}, { r := some (.v (.bool uel) []) }, {}, {}, rT] ⟨[tI 1 uu, tP 2 2, tB 62 true], [bC 2 (GTerm.q ud)], []⟩ (cb h608 (.cons (Z46 h609) (cb h610 .nil))) ?_
                    refine Wc.cT rfl ?_
                    apply Wc.seq
                    refine Wc.r0 ⟨[tI 4 401], [], []⟩ ?_
                    cases h; exact Wc.ret dn
                  · refine Wc.r2 [{}, {}, {}, rF, {}, {}, { r := some (.v (.bool uel) []) }, {}, {}, rF, {}, {}, { v := some (aI (ud.gKids.length : Int)) }] ⟨[tI 1 uu, tP 2 2, tB 62 (decide ((ud.gKids.length : Int) > 0))], [bC 2 (GTerm.q ud)], []⟩ (cb h608 (.cons (Z46 h609) (cb h610 (.cons (Zn GTerm.c ud.gKids) .nil)))) ?_
                    rcases oif h with ⟨h611, h⟩ | ⟨h611, h⟩
                    · refine Wc.cT h611 ?_
                      apply Wc.seq
                      refine Wc.r0 ⟨[tI 4 401], [], []⟩ ?_
                      cases h; exact Wc.ret dn
                    · refine Wc.cF h611 ?_
                      refine Wc.fx [] ⟨[tI 1 uu, tP 2 2], [bC 2 (GTerm.q ud)], []⟩ ?_
                      refine Wc.skip ?_
                      exact ⟨rfl, h⟩
              · refine Wc.cF h607 ?_
                apply Wc.seq
                refine Wc.r0 ⟨[tI 1 uu, tP 2 2, tB 63 (ud.gKind == 4)], [bC 2 (GTerm.q ud)], []⟩ ?_
                rcases oif h with ⟨h612, h⟩ | ⟨h612, h⟩
                · refine Wc.cT h612 ?_
                  apply Wc.seq
                  obtain ⟨ubv, h613, h⟩ := Z0 h
                  rcases oif h with ⟨h614, h⟩ | ⟨h614, h⟩
                  · refine Wc.r2 [{}, {}, { r := some (.v (.bool ubv) []) }, {}, rT] ⟨[tI 1 uu, tP 2 2, tB 80 true], [bC 2 (GTerm.q ud)], []⟩ (.cons (Z9q h613) (cb h614 .nil)) ?_
                    refine Wc.cT rfl ?_
                    apply Wc.seq
                    refine Wc.r0 ⟨[tI 4 401], [], []⟩ ?_
                    cases h; exact Wc.ret dn
                  · rcases oif h with ⟨h615, h⟩ | ⟨h615, h⟩
                    · refine Wc.r2 [{}, {}, { r := some (.v (.bool ubv) []) }, {}, rF, {}, {}, {}, {}, rT] ⟨[tI 1 uu, tP 2 2, tB 80 true], [bC 2 (GTerm.q ud)], []⟩ (.cons (Z9q h613) (cb h614 (cb h615 .nil))) ?_
                      refine Wc.cT rfl ?_
                      apply Wc.seq
                      refine Wc.r0 ⟨[tI 4 401], [], []⟩ ?_
                      cases h; exact Wc.ret dn
                    · obtain ⟨uem, h616, h⟩ := Z0 h
                      refine Wc.r2 [{}, {}, { r := some (.v (.bool ubv) []) }, {}, rF, {}, {}, {}, {}, rF, {}, {}, { v := some (aI (ud.gKids.length : Int)) }, { r := some (.v (.bool uem) []) }] ⟨[tI 1 uu, tP 2 2, tB 80 (!uem)], [bC 2 (GTerm.q ud)], []⟩ (.cons (Z9q h613) (cb h614 (cb h615 (.cons (Zn GTerm.c ud.gKids) (.cons (Z46 h616) .nil))))) ?_
                      rcases oif h with ⟨h617, h⟩ | ⟨h617, h⟩
                      · refine Wc.cT h617 ?_
                        apply Wc.seq
                        refine Wc.r0 ⟨[tI 4 401], [], []⟩ ?_
                        cases h; exact Wc.ret dn
                      · refine Wc.cF h617 ?_
                        refine Wc.fx [] ⟨[tI 1 uu, tP 2 2], [bC 2 (GTerm.q ud)], []⟩ ?_
                        refine Wc.skip ?_
                        exact ⟨rfl, h⟩
                · refine Wc.cF h612 ?_
                  apply Wc.seq
                  refine Wc.r0 ⟨[tI 4 401], [], []⟩ ?_
                  cases h; exact Wc.ret dn
        · rintro st ⟨rfl, h⟩
          apply Wc.seq
          refine Wc.r0 ⟨[tI 1 uu, tP 2 2, tI 5 1], [bC 2 (GTerm.q ud)], []⟩ ?_
          apply Wc.seq
          apply Wc.seq
          refine Wc.r2 [{}, {}, { v := some (aI (ud.gKids.length : Int)) }] ⟨[tI 1 uu, tI 5 1, tV 82 (.sl (List.map GTerm.c ud.gKids)), tI 83 (ud.gKids.length : Int), tI 84 0], [], []⟩ (.cons (Zn GTerm.c ud.gKids) .nil) ?_
          obtain ⟨out2, h592, h⟩ := Z0 h
          refine Wc.lastJ (fun st => ∃ (u90 : Int), out2 = .done u90 ∧ st = ⟨[tI 5 u90], [], []⟩) ?_ ?_
          · refine Wc.block ?_
            refine Wc.loop (fun m st => ∃ (u2z : Int) (u3i : Int), st = ⟨[tI 1 uu, tI 5 u2z, tV 82 (.sl (List.map GTerm.c ud.gKids)), tI 83 (ud.gKids.length : Int), tI 84 u3i], [], []⟩ ∧ Z87 k (Z4l k) ud uu m u2z u3i = some out2) ?_ k ⟨_, _, rfl, h592⟩
            rintro m st ⟨u2z, u3i, rfl, h592⟩
            cases m with
            | zero => exact (Z1r h592).elim
            | succ m =>
              apply Wc.seq
              refine Wc.r0 ⟨[tI 1 uu, tI 5 u2z, tV 82 (.sl (List.map GTerm.c ud.gKids)), tI 83 (ud.gKids.length : Int), tI 84 u3i, tB 85 (decide (u3i < (ud.gKids.length : Int)))], [], []⟩ ?_
              apply Wc.seq
              rcases oif h592 with ⟨h593, h592⟩ | ⟨h593, h592⟩
              · refine Wc.cT h593 ?_
                refine Wc.fx [] ⟨[tI 1 uu, tI 5 u2z, tV 82 (.sl (List.map GTerm.c ud.gKids)), tI 83 (ud.gKids.length : Int), tI 84 u3i], [], []⟩ ?_
                refine Wc.skip ?_
                apply Wc.seq
                refine Wc.block ?_
                apply Wc.seq
                obtain ⟨u8z, h594, h592⟩ := Z0 h592
                refine Wc.r2 [{ v := some (.vptr (GTerm.q u8z)) }] ⟨[tI 1 uu, tI 5 u2z, tP 7 7, tV 82 (.sl (List.map GTerm.c ud.gKids)), tI 83 (ud.gKids.length : Int), tI 84 u3i], [bC 7 (GTerm.q u8z)], []⟩ (.cons (Z19 (c := GTerm.c) (GTerm.c_eq u8z) GTerm.c_len h594) (.cons (Z18 4 (GTerm.q u8z)) .nil)) ?_
                apply Wc.seq
                obtain ⟨u6a, h595, h592⟩ := Z0 h592
                refine Wc.r2 [{}, {}, {}, {}, { r := some (.v (aI u6a) []) }] ⟨[tI 1 uu, tI 5 (wr.i64 (u2z + u6a)), tV 82 (.sl (List.map GTerm.c ud.gKids)), tI 83 (ud.gKids.length : Int), tI 84 u3i], [], []⟩ (.cons (Zm7 h595) .nil) ?_
                apply Wc.seq
                refine Wc.r0 ⟨[tI 1 uu, tI 5 (wr.i64 (u2z + u6a)), tV 82 (.sl (List.map GTerm.c ud.gKids)), tI 83 (ud.gKids.length : Int), tI 84 u3i, tB 95 (decide ((wr.i64 (u2z + u6a)) > 400))], [], []⟩ ?_
                rcases oif h592 with ⟨h596, h592⟩ | ⟨h596, h592⟩
                · refine Wc.cT h596 ?_
                  apply Wc.seq
                  refine Wc.r0 ⟨[tI 4 401], [], []⟩ ?_
                  refine Wc.ret ?_
                  cases h592
                  cases h
                  exact ⟨.inl rfl, by kernel_rfl, by kernel_rfl⟩
                · refine Wc.cF h596 ?_
                  refine Wc.fx [] ⟨[tI 1 uu, tI 5 (wr.i64 (u2z + u6a)), tV 82 (.sl (List.map GTerm.c ud.gKids)), tI 83 (ud.gKids.length : Int), tI 84 u3i], [], []⟩ ?_
                  refine Wc.skip ?_
                  refine Wc.r0 ⟨[tI 1 uu, tI 5 (wr.i64 (u2z + u6a)), tV 82 (.sl (List.map GTerm.c ud.gKids)), tI 83 (ud.gKids.length : Int), tI 84 (wr.i64 (u3i + 1))], [], []⟩ ?_
                  exact ⟨_, Nat.lt_succ_self _, _, _, rfl, h592⟩
              · refine Wc.cF h593 ?_
                refine Wc.fx [] ⟨[tI 5 u2z], [], []⟩ ?_
                refine Wc.exit ?_
                cases h592
                exact ⟨_, rfl, rfl⟩
          · rintro st ⟨u90, rfl, rfl⟩
            apply Wc.seq
            refine Wc.r0 ⟨[tI 4 u90], [], []⟩ ?_
            cases h; exact Wc.ret dn
theorem Zsb {k : Nat} {ud : GTerm} {uu : Int} {r : Int} (h : Z4l k ud uu = some r) : FnO Tryz.prog 27 [.v (.agg (GTerm.q ud)) [], .v (aI uu) []] (.v (aI r) []) [] := (Zlc k) h

def Z8b (k : Nat) (ubw : GTerm) : Option Bool :=
  (Z4l k ubw 1).bind fun uen =>
  some (decide (uen ≤ 400))
theorem Zgg {k : Nat} {ubw : GTerm} {r : Bool} (h : Z8b k ubw = some r) : FnO Tryz.prog 15 [.v (.agg (GTerm.q ubw)) []] (.v (.bool r) []) [] := by
  refine FnO.o2 Tryz.func15 (rfl : Tryz.f15.body = some _) ?_
  intro w0 X0 Fin pv0 pb gt
  unfold Z8b at h
  apply Wc.seq
  refine Wc.r0 ⟨[tP 1 1], [bC 1 (GTerm.q ubw)], []⟩ ?_
  apply Wc.seq
  obtain ⟨uen, h618, h⟩ := Z0 h
  refine Wc.r2 [{}, { r := some (.v (aI uen) []) }] ⟨[tB 2 (decide (uen ≤ 400))], [], []⟩ (.cons (Zsb h618) .nil) ?_
  cases h; exact Wc.ret dn

def Z7d (k : Nat) (u91 : Int) : Option Bool :=
  some (u91 != 10)
theorem Zku {k : Nat} {u91 : Int} {r : Bool} (h : Z7d k u91 = some r) : FnO Tryz.prog 53 [.v (.int .u8 u91) []] (.v (.bool r) []) [] := by
  refine FnO.o2 Tryz.func53 (rfl : Tryz.f53.body = some _) ?_
  intro w0 X0 Fin pv0 pb gt
  unfold Z7d at h
  apply Wc.seq
  refine Wc.r0 ⟨[tV 0 (.int .u8 u91)], [], []⟩ ?_
  apply Wc.seq
  refine Wc.r0 ⟨[tB 2 (u91 != 10)], [], []⟩ ?_
  cases h; exact Wc.ret dn

def Z1l (k : Nat) (s : ByteArray) (c : Int) : Option Int :=
  some (Lib.indexByte s.data.toList c.toNat.toUInt8)
theorem Z6s {k : Nat} {s : ByteArray} {c r : Int} (h : Z1l k s c = some r) : FnO Tryz.prog 82 [.v (.str s) [], .v (.int .u8 c) []] (.v (aI r) []) [] := Zm6 Tryz.strings_IndexByte h

def Z2n (k : Nat) (ubx : Int) : Option Bool :=
  (Z1l k (bs [43, 45, 42, 47, 92, 94, 60, 62, 61, 126, 58, 46, 63, 64, 35, 38, 36]) ubx).bind fun ueo =>
  some (decide (ueo ≥ 0))
theorem Za8 {k : Nat} {ubx : Int} {r : Bool} (h : Z2n k ubx = some r) : FnO Tryz.prog 81 [.v (.int .u8 ubx) []] (.v (.bool r) []) [] := by
  refine FnO.o2 Tryz.func81 (rfl : Tryz.f81.body = some _) ?_
  intro w0 X0 Fin pv0 pb gt
  unfold Z2n at h
  apply Wc.seq
  refine Wc.r0 ⟨[tV 0 (.int .u8 ubx)], [], []⟩ ?_
  apply Wc.seq
  obtain ⟨ueo, h619, h⟩ := Z0 h
  refine Wc.r2 [{}, { r := some (.v (aI ueo) []) }] ⟨[tB 2 (decide (ueo ≥ 0))], [], []⟩ (.cons (Z6s h619) .nil) ?_
  cases h; exact Wc.ret dn

def Z5r (k : Nat) (u0i : Int) (u1k : ByteArray) : Option Bool :=
  if ((wr.i64 (u0i + 1)) == (u1k.size : Int)) = true then
    some true
  else
    if 0 ≤ wr.i64 (u0i + 1) ∧ (wr.i64 (u0i + 1)).toNat < u1k.size then
      (Z1l k (bs [32, 9, 10, 37]) (bt u1k (wr.i64 (u0i + 1)))).bind fun uep =>
      some (decide (uep ≥ 0))
    else none
def Z8a (k : Nat) (u1k : ByteArray) (u0i : Int) : Option Bool :=
  if 0 ≤ u0i ∧ (u0i).toNat < u1k.size then
    if ((bt u1k u0i) != 46) = true then
      some false
    else
      if (decide (u0i > 0)) = true then
        if 0 ≤ wr.i64 (u0i - 1) ∧ (wr.i64 (u0i - 1)).toNat < u1k.size then
          (Z2n k (bt u1k (wr.i64 (u0i - 1)))).bind fun ueq =>
          if ueq = true then
            some false
          else
            Z5r k u0i u1k
        else none
      else
        Z5r k u0i u1k
  else none
theorem Zmh {k : Nat} {u1k : ByteArray} {u0i : Int} {r : Bool} (h : Z8a k u1k u0i = some r) : FnO Tryz.prog 76 [.v (.str u1k) [], .v (aI u0i) []] (.v (.bool r) []) [] := by
  refine FnO.o2 Tryz.func76 (rfl : Tryz.f76.body = some _) ?_
  intro w0 X0 Fin pv0 pb gt
  unfold Z8a at h
  apply Wc.seq
  refine Wc.r0 ⟨[tS 0 u1k, tI 1 u0i], [], []⟩ ?_
  refine Wc.seqJ (fun st => st = ⟨[tS 0 u1k, tI 1 u0i], [], []⟩ ∧ Z5r k u0i u1k = some r) ?_ ?_
  · apply Wc.seq
    obtain ⟨h623, h⟩ := Zg h
    rcases oif h with ⟨h624, h⟩ | ⟨h624, h⟩
    · refine Wc.r2 [{}, {}, {}, {}, rT] ⟨[tS 0 u1k, tI 1 u0i, tB 19 true], [], []⟩ (.cons h623 (cb h624 .nil)) ?_
      refine Wc.cT rfl ?_
      apply Wc.seq
      refine Wc.r0 ⟨[tB 4 false], [], []⟩ ?_
      cases h; exact Wc.ret dn
    · rcases oif h with ⟨h625, h⟩ | ⟨h625, h⟩
      · obtain ⟨h626, h⟩ := Zg h
        obtain ⟨ueq, h627, h⟩ := Z0 h
        refine Wc.r2 [{}, {}, {}, {}, rF, {}, {}, rT, {}, {}, {}, {}, { r := some (.v (.bool ueq) []) }] ⟨[tS 0 u1k, tI 1 u0i, tB 19 ueq], [], []⟩ (.cons h623 (cb h624 (cb h625 (.cons h626 (.cons (Za8 h627) .nil))))) ?_
        rcases oif h with ⟨h628, h⟩ | ⟨h628, h⟩
        · refine Wc.cT h628 ?_
          apply Wc.seq
          refine Wc.r0 ⟨[tB 4 false], [], []⟩ ?_
          cases h; exact Wc.ret dn
        · refine Wc.cF h628 ?_
          refine Wc.fx [] ⟨[tS 0 u1k, tI 1 u0i], [], []⟩ ?_
          refine Wc.skip ?_
          exact ⟨rfl, h⟩
      · refine Wc.r2 [{}, {}, {}, {}, rF, {}, {}, rF] ⟨[tS 0 u1k, tI 1 u0i, tB 19 false], [], []⟩ (.cons h623 (cb h624 (cb h625 .nil))) ?_
        refine Wc.cF rfl ?_
        refine Wc.fx [] ⟨[tS 0 u1k, tI 1 u0i], [], []⟩ ?_
        refine Wc.skip ?_
        exact ⟨rfl, h⟩
  · rintro st ⟨rfl, h⟩
    apply Wc.seq
    rcases oif h with ⟨h620, h⟩ | ⟨h620, h⟩
    · refine Wc.r2 [{}, {}, {}, {}, {}, rT] ⟨[tB 4 true], [], []⟩ (cb h620 .nil) ?_
      cases h; exact Wc.ret dn
    · obtain ⟨h621, h⟩ := Zg h
      obtain ⟨uep, h622, h⟩ := Z0 h
      refine Wc.r2 [{}, {}, {}, {}, {}, rF, {}, {}, {}, {}, { r := some (.v (aI uep) []) }] ⟨[tB 4 (decide (uep ≥ 0))], [], []⟩ (cb h620 (.cons h621 (.cons (Z6s h622) .nil))) ?_
      cases h; exact Wc.ret dn

def Z9v (k : Nat) (u7o : Int) : Option Bool :=
  if (decide (u7o ≥ 97)) = true then
    some (decide (u7o ≤ 122))
  else
    some false
theorem Z8x {k : Nat} {u7o : Int} {r : Bool} (h : Z9v k u7o = some r) : FnO Tryz.prog 77 [.v (.int .u8 u7o) []] (.v (.bool r) []) [] := by
  refine FnO.o2 Tryz.func77 (rfl : Tryz.f77.body = some _) ?_
  intro w0 X0 Fin pv0 pb gt
  unfold Z9v at h
  apply Wc.seq
  refine Wc.r0 ⟨[tV 0 (.int .u8 u7o)], [], []⟩ ?_
  apply Wc.seq
  rcases oif h with ⟨h629, h⟩ | ⟨h629, h⟩
  · refine Wc.r2 [{}, {}, rT] ⟨[tB 2 (decide (u7o ≤ 122))], [], []⟩ (cb h629 .nil) ?_
    cases h; exact Wc.ret dn
  · refine Wc.r2 [{}, {}, rF] ⟨[tB 2 false], [], []⟩ (cb h629 .nil) ?_
    cases h; exact Wc.ret dn

def Zb8 (k : Nat) (u7p : Int) : Option Bool :=
  if (decide (u7p ≥ 65)) = true then
    some (decide (u7p ≤ 90))
  else
    some false
theorem Zd5 {k : Nat} {u7p : Int} {r : Bool} (h : Zb8 k u7p = some r) : FnO Tryz.prog 78 [.v (.int .u8 u7p) []] (.v (.bool r) []) [] := by
  refine FnO.o2 Tryz.func78 (rfl : Tryz.f78.body = some _) ?_
  intro w0 X0 Fin pv0 pb gt
  unfold Zb8 at h
  apply Wc.seq
  refine Wc.r0 ⟨[tV 0 (.int .u8 u7p)], [], []⟩ ?_
  apply Wc.seq
  rcases oif h with ⟨h630, h⟩ | ⟨h630, h⟩
  · refine Wc.r2 [{}, {}, rT] ⟨[tB 2 (decide (u7p ≤ 90))], [], []⟩ (cb h630 .nil) ?_
    cases h; exact Wc.ret dn
  · refine Wc.r2 [{}, {}, rF] ⟨[tB 2 false], [], []⟩ (cb h630 .nil) ?_
    cases h; exact Wc.ret dn

def Z89 (k : Nat) (u7q : Int) : Option Bool :=
  if (decide (u7q ≥ 48)) = true then
    some (decide (u7q ≤ 57))
  else
    some false
theorem Zd7 {k : Nat} {u7q : Int} {r : Bool} (h : Z89 k u7q = some r) : FnO Tryz.prog 80 [.v (.int .u8 u7q) []] (.v (.bool r) []) [] := by
  refine FnO.o2 Tryz.func80 (rfl : Tryz.f80.body = some _) ?_
  intro w0 X0 Fin pv0 pb gt
  unfold Z89 at h
  apply Wc.seq
  refine Wc.r0 ⟨[tV 0 (.int .u8 u7q)], [], []⟩ ?_
  apply Wc.seq
  rcases oif h with ⟨h631, h⟩ | ⟨h631, h⟩
  · refine Wc.r2 [{}, {}, rT] ⟨[tB 2 (decide (u7q ≤ 57))], [], []⟩ (cb h631 .nil) ?_
    cases h; exact Wc.ret dn
  · refine Wc.r2 [{}, {}, rF] ⟨[tB 2 false], [], []⟩ (cb h631 .nil) ?_
    cases h; exact Wc.ret dn

def Z86 (k : Nat) (u6b : Int) : Option Bool :=
  (Z9v k u6b).bind fun u92 =>
  if u92 = true then
    some true
  else
    (Zb8 k u6b).bind fun uby =>
    if uby = true then
      some true
    else
      (Z89 k u6b).bind fun uer =>
      if uer = true then
        some true
      else
        some (u6b == 95)
theorem Zmd {k : Nat} {u6b : Int} {r : Bool} (h : Z86 k u6b = some r) : FnO Tryz.prog 79 [.v (.int .u8 u6b) []] (.v (.bool r) []) [] := by
  refine FnO.o2 Tryz.func79 (rfl : Tryz.f79.body = some _) ?_
  intro w0 X0 Fin pv0 pb gt
  unfold Z86 at h
  apply Wc.seq
  refine Wc.r0 ⟨[tV 0 (.int .u8 u6b)], [], []⟩ ?_
  apply Wc.seq
  obtain ⟨u92, h632, h⟩ := Z0 h
  rcases oif h with ⟨h633, h⟩ | ⟨h633, h⟩
  · refine Wc.r2 [{}, { r := some (.v (.bool u92) []) }, rT] ⟨[tB 2 true], [], []⟩ (.cons (Z8x h632) (cb h633 .nil)) ?_
    cases h; exact Wc.ret dn
  · obtain ⟨uby, h634, h⟩ := Z0 h
    rcases oif h with ⟨h635, h⟩ | ⟨h635, h⟩
    · refine Wc.r2 [{}, { r := some (.v (.bool u92) []) }, rF, {}, { r := some (.v (.bool uby) []) }, {}, rT] ⟨[tB 2 true], [], []⟩ (.cons (Z8x h632) (cb h633 (.cons (Zd5 h634) (cb h635 .nil)))) ?_
      cases h; exact Wc.ret dn
    · obtain ⟨uer, h636, h⟩ := Z0 h
      rcases oif h with ⟨h637, h⟩ | ⟨h637, h⟩
      · refine Wc.r2 [{}, { r := some (.v (.bool u92) []) }, rF, {}, { r := some (.v (.bool uby) []) }, {}, rF, {}, { r := some (.v (.bool uer) []) }, {}, rT] ⟨[tB 2 true], [], []⟩ (.cons (Z8x h632) (cb h633 (.cons (Zd5 h634) (cb h635 (.cons (Zd7 h636) (cb h637 .nil)))))) ?_
        cases h; exact Wc.ret dn
      · refine Wc.r2 [{}, { r := some (.v (.bool u92) []) }, rF, {}, { r := some (.v (.bool uby) []) }, {}, rF, {}, { r := some (.v (.bool uer) []) }, {}, rF] ⟨[tB 2 (u6b == 95)], [], []⟩ (.cons (Z8x h632) (cb h633 (.cons (Zd5 h634) (cb h635 (.cons (Zd7 h636) (cb h637 .nil)))))) ?_
        cases h; exact Wc.ret dn

def Z6c (k : Nat) (u6u : Int) : Option Bool :=
  (Z4w k (wr.i64 u6u) 33 126).bind fun ubz =>
  if ubz = true then
    if (u6u != 39) = true then
      some (u6u != 34)
    else
      some false
  else
    some false
theorem Zj5 {k : Nat} {u6u : Int} {r : Bool} (h : Z6c k u6u = some r) : FnO Tryz.prog 83 [.v (.int .u8 u6u) []] (.v (.bool r) []) [] := by
  refine FnO.o2 Tryz.func83 (rfl : Tryz.f83.body = some _) ?_
  intro w0 X0 Fin pv0 pb gt
  unfold Z6c at h
  apply Wc.seq
  refine Wc.r0 ⟨[tV 0 (.int .u8 u6u)], [], []⟩ ?_
  apply Wc.seq
  obtain ⟨ubz, h638, h⟩ := Z0 h
  rcases oif h with ⟨h639, h⟩ | ⟨h639, h⟩
  · rcases oif h with ⟨h640, h⟩ | ⟨h640, h⟩
    · refine Wc.r2 [{}, {}, { r := some (.v (.bool ubz) []) }, rT, {}, {}, {}, rT] ⟨[tB 2 (u6u != 34)], [], []⟩ (.cons (Z46 h638) (cb h639 (cb h640 .nil))) ?_
      cases h; exact Wc.ret dn
    · refine Wc.r2 [{}, {}, { r := some (.v (.bool ubz) []) }, rT, {}, {}, {}, rF] ⟨[tB 2 false], [], []⟩ (.cons (Z46 h638) (cb h639 (cb h640 .nil))) ?_
      cases h; exact Wc.ret dn
  · refine Wc.r2 [{}, {}, { r := some (.v (.bool ubz) []) }, rF] ⟨[tB 2 false], [], []⟩ (.cons (Z46 h638) (cb h639 .nil)) ?_
    cases h; exact Wc.ret dn

def Z2b (k : Nat) (u30 : ByteArray) : Nat → Int → Option (Out Int Int)
  | 0, _ => none
  | m + 1, u2i =>
    if (decide (u2i < (u30.size : Int))) = true then
      if 0 ≤ u2i ∧ (u2i).toNat < u30.size then
        (Z86 k (bt u30 u2i)).bind fun u6c =>
        if u6c = true then
          Z2b k u30 m (wr.i64 (u2i + 1))
        else
          some (.done u2i)
      else none
    else
      some (.done u2i)
def Z2u (k : Nat) (u30 : ByteArray) (uc0 : Int) : Option Int :=
  (Z2b k u30 k uc0).bind fun out1 => match out1 with
  | .ret r => some r
  | .done u31 =>
    some u31
theorem Zae {k : Nat} {u30 : ByteArray} {uc0 : Int} {r : Int} (h : Z2u k u30 uc0 = some r) : FnO Tryz.prog 52 [.v (.str u30) [], .v (aI uc0) [], .v (.func 79 []) []] (.v (aI r) []) [] := by
  refine FnO.o2 Tryz.func52 (rfl : Tryz.f52.body = some _) ?_
  intro w0 X0 Fin pv0 pb gt
  unfold Z2u at h
  apply Wc.seq
  refine Wc.r0 ⟨[tS 0 u30, tI 1 uc0, tV 2 (.func 79 [])], [], []⟩ ?_
  obtain ⟨out1, h645, h⟩ := Z0 h
  refine Wc.seqJ (fun st => ∃ (u31 : Int), out1 = .done u31 ∧ st = ⟨[tI 1 u31], [], []⟩) ?_ ?_
  · refine Wc.block ?_
    refine Wc.loop (fun m st => ∃ (u2i : Int), st = ⟨[tS 0 u30, tI 1 u2i, tV 2 (.func 79 [])], [], []⟩ ∧ Z2b k u30 m u2i = some out1) ?_ k ⟨_, rfl, h645⟩
    rintro m st ⟨u2i, rfl, h645⟩
    cases m with
    | zero => exact (Z1r h645).elim
    | succ m =>
      apply Wc.seq
      apply Wc.seq
      rcases oif h645 with ⟨h646, h645⟩ | ⟨h646, h645⟩
      · obtain ⟨h647, h645⟩ := Zg h645
        obtain ⟨u6c, h648, h645⟩ := Z0 h645
        refine Wc.r2 [{}, {}, {}, {}, rT, {}, {}, {}, {}, { r := some (.v (.bool u6c) []) }] ⟨[tS 0 u30, tI 1 u2i, tV 2 (.func 79 []), tB 17 u6c], [], []⟩ (cb h646 (.cons h647 (.cons (Zmd h648) .nil))) ?_
        rcases oif h645 with ⟨h649, h645⟩ | ⟨h649, h645⟩
        · refine Wc.cT h649 ?_
          refine Wc.fx [] ⟨[tS 0 u30, tI 1 u2i, tV 2 (.func 79 [])], [], []⟩ ?_
          refine Wc.skip ?_
          refine Wc.block ?_
          refine Wc.r0 ⟨[tS 0 u30, tI 1 (wr.i64 (u2i + 1)), tV 2 (.func 79 [])], [], []⟩ ?_
          exact ⟨_, Nat.lt_succ_self _, _, rfl, h645⟩
        · refine Wc.cF h649 ?_
          refine Wc.fx [] ⟨[tI 1 u2i], [], []⟩ ?_
          refine Wc.exit ?_
          cases h645
          exact ⟨_, rfl, rfl⟩
      · refine Wc.r2 [{}, {}, {}, {}, rF] ⟨[tS 0 u30, tI 1 u2i, tV 2 (.func 79 []), tB 17 false], [], []⟩ (cb h646 .nil) ?_
        refine Wc.cF rfl ?_
        refine Wc.fx [] ⟨[tI 1 u2i], [], []⟩ ?_
        refine Wc.exit ?_
        cases h645
        exact ⟨_, rfl, rfl⟩
  · rintro st ⟨u31, rfl, rfl⟩
    apply Wc.seq
    refine Wc.r0 ⟨[tI 6 u31], [], []⟩ ?_
    cases h; exact Wc.ret dn

def Z2l (k : Nat) (u32 : ByteArray) : Nat → Int → Option (Out Int Int)
  | 0, _ => none
  | m + 1, u2j =>
    if (decide (u2j < (u32.size : Int))) = true then
      if 0 ≤ u2j ∧ (u2j).toNat < u32.size then
        (Z89 k (bt u32 u2j)).bind fun ues =>
        if ues = true then
          Z2l k u32 m (wr.i64 (u2j + 1))
        else
          some (.done u2j)
      else none
    else
      some (.done u2j)
def Z3f (k : Nat) (u32 : ByteArray) (uc1 : Int) : Option Int :=
  (Z2l k u32 k uc1).bind fun out1 => match out1 with
  | .ret r => some r
  | .done z4 =>
    some z4
theorem Zbm {k : Nat} {u32 : ByteArray} {uc1 : Int} {r : Int} (h : Z3f k u32 uc1 = some r) : FnO Tryz.prog 52 [.v (.str u32) [], .v (aI uc1) [], .v (.func 80 []) []] (.v (aI r) []) [] := by
  refine FnO.o2 Tryz.func52 (rfl : Tryz.f52.body = some _) ?_
  intro w0 X0 Fin pv0 pb gt
  unfold Z3f at h
  apply Wc.seq
  refine Wc.r0 ⟨[tS 0 u32, tI 1 uc1, tV 2 (.func 80 [])], [], []⟩ ?_
  obtain ⟨out1, h650, h⟩ := Z0 h
  refine Wc.seqJ (fun st => ∃ (z4 : Int), out1 = .done z4 ∧ st = ⟨[tI 1 z4], [], []⟩) ?_ ?_
  · refine Wc.block ?_
    refine Wc.loop (fun m st => ∃ (u2j : Int), st = ⟨[tS 0 u32, tI 1 u2j, tV 2 (.func 80 [])], [], []⟩ ∧ Z2l k u32 m u2j = some out1) ?_ k ⟨_, rfl, h650⟩
    rintro m st ⟨u2j, rfl, h650⟩
    cases m with
    | zero => exact (Z1r h650).elim
    | succ m =>
      apply Wc.seq
      apply Wc.seq
      rcases oif h650 with ⟨h651, h650⟩ | ⟨h651, h650⟩
      · obtain ⟨h652, h650⟩ := Zg h650
        obtain ⟨ues, h653, h650⟩ := Z0 h650
        refine Wc.r2 [{}, {}, {}, {}, rT, {}, {}, {}, {}, { r := some (.v (.bool ues) []) }] ⟨[tS 0 u32, tI 1 u2j, tV 2 (.func 80 []), tB 17 ues], [], []⟩ (cb h651 (.cons h652 (.cons (Zd7 h653) .nil))) ?_
        rcases oif h650 with ⟨h654, h650⟩ | ⟨h654, h650⟩
        · refine Wc.cT h654 ?_
          refine Wc.fx [] ⟨[tS 0 u32, tI 1 u2j, tV 2 (.func 80 [])], [], []⟩ ?_
          refine Wc.skip ?_
          refine Wc.block ?_
          refine Wc.r0 ⟨[tS 0 u32, tI 1 (wr.i64 (u2j + 1)), tV 2 (.func 80 [])], [], []⟩ ?_
          exact ⟨_, Nat.lt_succ_self _, _, rfl, h650⟩
        · refine Wc.cF h654 ?_
          refine Wc.fx [] ⟨[tI 1 u2j], [], []⟩ ?_
          refine Wc.exit ?_
          cases h650
          exact ⟨_, rfl, rfl⟩
      · refine Wc.r2 [{}, {}, {}, {}, rF] ⟨[tS 0 u32, tI 1 u2j, tV 2 (.func 80 []), tB 17 false], [], []⟩ (cb h651 .nil) ?_
        refine Wc.cF rfl ?_
        refine Wc.fx [] ⟨[tI 1 u2j], [], []⟩ ?_
        refine Wc.exit ?_
        cases h650
        exact ⟨_, rfl, rfl⟩
  · rintro st ⟨z4, rfl, rfl⟩
    apply Wc.seq
    refine Wc.r0 ⟨[tI 6 z4], [], []⟩ ?_
    cases h; exact Wc.ret dn

def Z1z (k : Nat) (u33 : ByteArray) : Nat → Int → Option (Out Int Int)
  | 0, _ => none
  | m + 1, u2k =>
    if (decide (u2k < (u33.size : Int))) = true then
      if 0 ≤ u2k ∧ (u2k).toNat < u33.size then
        (Z2n k (bt u33 u2k)).bind fun u5o =>
        if u5o = true then
          Z1z k u33 m (wr.i64 (u2k + 1))
        else
          some (.done u2k)
      else none
    else
      some (.done u2k)
def Z2h (k : Nat) (u33 : ByteArray) (u34 : Int) : Option Int :=
  (Z1z k u33 k u34).bind fun out1 => match out1 with
  | .ret r => some r
  | .done u4p =>
    some u4p
theorem Z9p {k : Nat} {u33 : ByteArray} {u34 : Int} {r : Int} (h : Z2h k u33 u34 = some r) : FnO Tryz.prog 52 [.v (.str u33) [], .v (aI u34) [], .v (.func 81 []) []] (.v (aI r) []) [] := by
  refine FnO.o2 Tryz.func52 (rfl : Tryz.f52.body = some _) ?_
  intro w0 X0 Fin pv0 pb gt
  unfold Z2h at h
  apply Wc.seq
  refine Wc.r0 ⟨[tS 0 u33, tI 1 u34, tV 2 (.func 81 [])], [], []⟩ ?_
  obtain ⟨out1, h658, h⟩ := Z0 h
  refine Wc.seqJ (fun st => ∃ (u4p : Int), out1 = .done u4p ∧ st = ⟨[tI 1 u4p], [], []⟩) ?_ ?_
  · refine Wc.block ?_
    refine Wc.loop (fun m st => ∃ (u2k : Int), st = ⟨[tS 0 u33, tI 1 u2k, tV 2 (.func 81 [])], [], []⟩ ∧ Z1z k u33 m u2k = some out1) ?_ k ⟨_, rfl, h658⟩
    rintro m st ⟨u2k, rfl, h658⟩
    cases m with
    | zero => exact (Z1r h658).elim
    | succ m =>
      apply Wc.seq
      apply Wc.seq
      rcases oif h658 with ⟨h659, h658⟩ | ⟨h659, h658⟩
      · obtain ⟨h660, h658⟩ := Zg h658
        obtain ⟨u5o, h661, h658⟩ := Z0 h658
        refine Wc.r2 [{}, {}, {}, {}, rT, {}, {}, {}, {}, { r := some (.v (.bool u5o) []) }] ⟨[tS 0 u33, tI 1 u2k, tV 2 (.func 81 []), tB 17 u5o], [], []⟩ (cb h659 (.cons h660 (.cons (Za8 h661) .nil))) ?_
        rcases oif h658 with ⟨h662, h658⟩ | ⟨h662, h658⟩
        · refine Wc.cT h662 ?_
          refine Wc.fx [] ⟨[tS 0 u33, tI 1 u2k, tV 2 (.func 81 [])], [], []⟩ ?_
          refine Wc.skip ?_
          refine Wc.block ?_
          refine Wc.r0 ⟨[tS 0 u33, tI 1 (wr.i64 (u2k + 1)), tV 2 (.func 81 [])], [], []⟩ ?_
          exact ⟨_, Nat.lt_succ_self _, _, rfl, h658⟩
        · refine Wc.cF h662 ?_
          refine Wc.fx [] ⟨[tI 1 u2k], [], []⟩ ?_
          refine Wc.exit ?_
          cases h658
          exact ⟨_, rfl, rfl⟩
      · refine Wc.r2 [{}, {}, {}, {}, rF] ⟨[tS 0 u33, tI 1 u2k, tV 2 (.func 81 []), tB 17 false], [], []⟩ (cb h659 .nil) ?_
        refine Wc.cF rfl ?_
        refine Wc.fx [] ⟨[tI 1 u2k], [], []⟩ ?_
        refine Wc.exit ?_
        cases h658
        exact ⟨_, rfl, rfl⟩
  · rintro st ⟨u4p, rfl, rfl⟩
    apply Wc.seq
    refine Wc.r0 ⟨[tI 6 u4p], [], []⟩ ?_
    cases h; exact Wc.ret dn

def Z1y (k : Nat) (u35 : ByteArray) : Nat → Int → Option (Out Int Int)
  | 0, _ => none
  | m + 1, u2l =>
    if (decide (u2l < (u35.size : Int))) = true then
      if 0 ≤ u2l ∧ (u2l).toNat < u35.size then
        (Z6c k (bt u35 u2l)).bind fun uet =>
        if uet = true then
          Z1y k u35 m (wr.i64 (u2l + 1))
        else
          some (.done u2l)
      else none
    else
      some (.done u2l)
def Z2g (k : Nat) (u35 : ByteArray) (uc2 : Int) : Option Int :=
  (Z1y k u35 k uc2).bind fun out1 => match out1 with
  | .ret r => some r
  | .done u93 =>
    some u93
theorem Z9o {k : Nat} {u35 : ByteArray} {uc2 : Int} {r : Int} (h : Z2g k u35 uc2 = some r) : FnO Tryz.prog 52 [.v (.str u35) [], .v (aI uc2) [], .v (.func 83 []) []] (.v (aI r) []) [] := by
  refine FnO.o2 Tryz.func52 (rfl : Tryz.f52.body = some _) ?_
  intro w0 X0 Fin pv0 pb gt
  unfold Z2g at h
  apply Wc.seq
  refine Wc.r0 ⟨[tS 0 u35, tI 1 uc2, tV 2 (.func 83 [])], [], []⟩ ?_
  obtain ⟨out1, h668, h⟩ := Z0 h
  refine Wc.seqJ (fun st => ∃ (u93 : Int), out1 = .done u93 ∧ st = ⟨[tI 1 u93], [], []⟩) ?_ ?_
  · refine Wc.block ?_
    refine Wc.loop (fun m st => ∃ (u2l : Int), st = ⟨[tS 0 u35, tI 1 u2l, tV 2 (.func 83 [])], [], []⟩ ∧ Z1y k u35 m u2l = some out1) ?_ k ⟨_, rfl, h668⟩
    rintro m st ⟨u2l, rfl, h668⟩
    cases m with
    | zero => exact (Z1r h668).elim
    | succ m =>
      apply Wc.seq
      apply Wc.seq
      rcases oif h668 with ⟨h669, h668⟩ | ⟨h669, h668⟩
      · obtain ⟨h670, h668⟩ := Zg h668
        obtain ⟨uet, h671, h668⟩ := Z0 h668
        refine Wc.r2 [{}, {}, {}, {}, rT, {}, {}, {}, {}, { r := some (.v (.bool uet) []) }] ⟨[tS 0 u35, tI 1 u2l, tV 2 (.func 83 []), tB 17 uet], [], []⟩ (cb h669 (.cons h670 (.cons (Zj5 h671) .nil))) ?_
        rcases oif h668 with ⟨h672, h668⟩ | ⟨h672, h668⟩
        · refine Wc.cT h672 ?_
          refine Wc.fx [] ⟨[tS 0 u35, tI 1 u2l, tV 2 (.func 83 [])], [], []⟩ ?_
          refine Wc.skip ?_
          refine Wc.block ?_
          refine Wc.r0 ⟨[tS 0 u35, tI 1 (wr.i64 (u2l + 1)), tV 2 (.func 83 [])], [], []⟩ ?_
          exact ⟨_, Nat.lt_succ_self _, _, rfl, h668⟩
        · refine Wc.cF h672 ?_
          refine Wc.fx [] ⟨[tI 1 u2l], [], []⟩ ?_
          refine Wc.exit ?_
          cases h668
          exact ⟨_, rfl, rfl⟩
      · refine Wc.r2 [{}, {}, {}, {}, rF] ⟨[tS 0 u35, tI 1 u2l, tV 2 (.func 83 []), tB 17 false], [], []⟩ (cb h669 .nil) ?_
        refine Wc.cF rfl ?_
        refine Wc.fx [] ⟨[tI 1 u2l], [], []⟩ ?_
        refine Wc.exit ?_
        cases h668
        exact ⟨_, rfl, rfl⟩
  · rintro st ⟨u93, rfl, rfl⟩
    apply Wc.seq
    refine Wc.r0 ⟨[tI 6 u93], [], []⟩ ?_
    cases h; exact Wc.ret dn

def Z3k (k : Nat) (u1 : Int) (u4 : ByteArray) (uw : GSign) (zi : Int) (uc3 : Bool) : Option (GSign × Int) :=
  if uc3 = true then
    if 0 ≤ u1 ∧ u1 ≤ (wr.i64 (u1 + 1)) ∧ (wr.i64 (u1 + 1)) ≤ (u4.size : Int) then
      some (GSign.mk 6 (u4.extract (u1 : Int).toNat ((wr.i64 (u1 + 1)) : Int).toNat) uw.gNum uw.gAt uw.gNear, wr.i64 (u1 + 1))
    else none
  else
    some (GSign.mk uw.gKind (u4.extract (u1 : Int).toNat (zi : Int).toNat) uw.gNum uw.gAt uw.gNear, zi)
def Z17 (k : Nat) (u1 : Int) (u4 : ByteArray) (zi : Int) (uw : GSign) : Option (GSign × Int) :=
  if 0 ≤ u1 ∧ u1 ≤ zi ∧ zi ≤ (u4.size : Int) then
    if (uw.gKind == 0) = true then
      Z3k k u1 u4 uw zi true
    else
      if (uw.gKind != 4) = true then
        Z3k k u1 u4 uw zi (decide (((u4.extract (u1 : Int).toNat (zi : Int).toNat).size : Int) > 20))
      else
        Z3k k u1 u4 uw zi false
  else none
def Z31 (k : Nat) (z4 : Int) (u4 : ByteArray) : Nat → Int → Int → Option (Out (GSign × Int) Int)
  | 0, _, _ => none
  | m + 1, u36, u37 =>
    if (decide (u37 < z4)) = true then
      if (decide (u36 ≤ 999999999)) = true then
        if 0 ≤ u37 ∧ (u37).toNat < u4.size then
          Z31 k z4 u4 m (wr.i64 ((wr.i64 (10 * u36)) + (wr.i64 (wr.u8 ((bt u4 u37) - 48))))) (wr.i64 (u37 + 1))
        else none
      else
        some (.done u36)
    else
      some (.done u36)
def Z47 (k : Nat) (u1 : Int) (u0j : Int) (u4 : ByteArray) (uc4 : Bool) : Option (GSign × Int) :=
  if uc4 = true then
    if 0 ≤ (wr.i64 (u1 + 1)) ∧ (wr.i64 (u1 + 1)) ≤ u0j ∧ u0j ≤ (u4.size : Int) then
      some (GSign.mk 1 (u4.extract ((wr.i64 (u1 + 1)) : Int).toNat (u0j : Int).toNat) 0 u1 false, wr.i64 (u0j + 1))
    else none
  else
    Z17 k u1 u4 (wr.i64 (u1 + 1)) (GSign.mk 0 (bs []) 0 u1 false)
def Z22 (k : Nat) (u1 : Int) (u4 : ByteArray) (u5o : Bool) : Option (GSign × Int) :=
  if u5o = true then
    Z17 k u1 u4 (wr.i64 (u1 + 1)) (GSign.mk 1 (bs []) 0 u1 false)
  else
    (Z1l k (bs [40, 41, 91, 93, 44, 124]) (bt u4 u1)).bind fun ueu =>
    if (decide (ueu ≥ 0)) = true then
      Z17 k u1 u4 (wr.i64 (u1 + 1)) (GSign.mk 4 (bs []) 0 u1 false)
    else
      if ((bt u4 u1) == 39) = true then
        (Z2g k u4 (wr.i64 (u1 + 1))).bind fun u0j =>
        if (decide (u0j < (u4.size : Int))) = true then
          if 0 ≤ u0j ∧ (u0j).toNat < u4.size then
            if ((bt u4 u0j) == 39) = true then
              (Z4w k (wr.i64 ((wr.i64 (u0j - u1)) - 1)) 1 20).bind fun uev =>
              Z47 k u1 u0j u4 uev
            else
              Z47 k u1 u0j u4 false
          else none
        else
          Z47 k u1 u0j u4 false
      else
        Z17 k u1 u4 (wr.i64 (u1 + 1)) (GSign.mk 0 (bs []) 0 u1 false)
def Z10 (k : Nat) (u4 : ByteArray) (u1 : Int) (uc5 : Bool) : Option (GSign × Int) :=
  if uc5 = true then
    (Z2u k u4 u1).bind fun u31 =>
    (Z9v k (bt u4 u1)).bind fun u6c =>
    if u6c = true then
      Z17 k u1 u4 u31 (GSign.mk 1 (bs []) 0 u1 false)
    else
      Z17 k u1 u4 u31 (GSign.mk 2 (bs []) 0 u1 false)
  else
    (Z89 k (bt u4 u1)).bind fun uew =>
    if uew = true then
      (Z3f k u4 u1).bind fun z4 =>
      (Z31 k z4 u4 k 0 u1).bind fun out4 => match out4 with
      | .ret r => some r
      | .done u34 =>
        if (decide (u34 ≤ 999999999)) = true then
          some (GSign.mk 3 (bs []) u34 u1 false, z4)
        else
          Z17 k u1 u4 z4 (GSign.mk 0 (bs []) 0 u1 false)
    else
      (Z2n k (bt u4 u1)).bind fun uex =>
      if uex = true then
        (Z2h k u4 u1).bind fun u4p =>
        Z17 k u1 u4 u4p (GSign.mk 1 (bs []) 0 u1 false)
      else
        if ((bt u4 u1) == 33) = true then
          Z22 k u1 u4 true
        else
          Z22 k u1 u4 ((bt u4 u1) == 59)
def Z48 (k : Nat) (u4 : ByteArray) (u1 : Int) : Option (GSign × Int) :=
  if 0 ≤ u1 ∧ (u1).toNat < u4.size then
    (Z8a k u4 u1).bind fun uey =>
    if uey = true then
      some (GSign.mk 5 (bs [46]) 0 u1 false, wr.i64 (u1 + 1))
    else
      (Z9v k (bt u4 u1)).bind fun uc6 =>
      if uc6 = true then
        Z10 k u4 u1 true
      else
        (Zb8 k (bt u4 u1)).bind fun uez =>
        if uez = true then
          Z10 k u4 u1 true
        else
          Z10 k u4 u1 ((bt u4 u1) == 95)
  else none
set_option maxHeartbeats 4000000 in
theorem Zmf {k : Nat} {u4 : ByteArray} {u1 : Int} {r : GSign × Int} (h : Z48 k u4 u1 = some r) : FnO Tryz.prog 54 [.v (.str u4) [], .v (aI u1) []] (.v (.tup [.agg (GSign.q r.1), aI r.2]) []) [] := by
  refine FnO.o2 Tryz.func54 (rfl : Tryz.f54.body = some _) ?_
  intro w0 X0 Fin pv0 pb gt
  unfold Z48 at h
  apply Wc.seq
  refine Wc.r0 ⟨[tS 0 u4, tI 1 u1, tP 4 4], [bC 4 GSign.z], []⟩ ?_
  apply Wc.seq
  obtain ⟨h641, h⟩ := Zg h
  refine Wc.r2 [] ⟨[tS 0 u4, tI 1 u1, tP 4 4, tV 6 (.int .u8 (bt u4 u1))], [bC 4 GSign.z], []⟩ (.cons h641 .nil) ?_
  apply Wc.seq
  refine Wc.r0 ⟨[tS 0 u4, tI 1 u1, tP 4 4, tV 6 (.int .u8 (bt u4 u1)), tP 7 7], [bC 4 GSign.z, bC 7 [aI 0, .str (bs []), aI 0, aI u1, .bool false]], []⟩ ?_
  apply Wc.seq
  refine Wc.r0 ⟨[tS 0 u4, tI 1 u1, tP 4 4, tV 6 (.int .u8 (bt u4 u1)), tP 7 7, tI 8 (wr.i64 (u1 + 1))], [bC 4 GSign.z, bC 7 [aI 0, .str (bs []), aI 0, aI u1, .bool false]], []⟩ ?_
  refine Wc.seqJ (fun st => ∃ (zi : Int) (uw : GSign), st = ⟨[tS 0 u4, tI 1 u1, tP 4 4, tP 7 7, tI 8 zi], [bC 4 GSign.z, bC 7 (GSign.q uw)], []⟩ ∧ Z17 k u1 u4 zi uw = some r) ?_ ?_
  · refine Wc.block ?_
    apply Wc.seq
    obtain ⟨uey, h647, h⟩ := Z0 h
    refine Wc.r2 [{}, {}, { r := some (.v (.bool uey) []) }] ⟨[tS 0 u4, tI 1 u1, tP 4 4, tV 6 (.int .u8 (bt u4 u1)), tP 7 7, tI 8 (wr.i64 (u1 + 1)), tB 19 uey], [bC 4 GSign.z, bC 7 [aI 0, .str (bs []), aI 0, aI u1, .bool false]], []⟩ (.cons (Zmh h647) .nil) ?_
    rcases oif h with ⟨h648, h⟩ | ⟨h648, h⟩
    · refine Wc.cT h648 ?_
      apply Wc.seq
      refine Wc.r0 ⟨[tP 4 4, tP 7 7, tI 8 (wr.i64 (u1 + 1))], [bC 4 GSign.z, bC 7 [aI 5, .str (bs [46]), aI 0, aI u1, .bool false]], []⟩ ?_
      apply Wc.seq
      refine Wc.r0 ⟨[tP 4 4, tI 5 (wr.i64 (u1 + 1))], [bC 4 [aI 5, .str (bs [46]), aI 0, aI u1, .bool false]], []⟩ ?_
      cases h; exact Wc.ret dn
    · refine Wc.cF h648 ?_
      refine Wc.seqJ (fun st => ∃ (uc5 : Bool), st = ⟨[tS 0 u4, tI 1 u1, tP 4 4, tV 6 (.int .u8 (bt u4 u1)), tP 7 7, tI 8 (wr.i64 (u1 + 1)), tB 27 uc5], [bC 4 GSign.z, bC 7 [aI 0, .str (bs []), aI 0, aI u1, .bool false]], []⟩ ∧ Z10 k u4 u1 uc5 = some r) ?_ ?_
      · obtain ⟨uc6, h676, h⟩ := Z0 h
        rcases oif h with ⟨h677, h⟩ | ⟨h677, h⟩
        · refine Wc.r2 [{}, { r := some (.v (.bool uc6) []) }, rT] ⟨[tS 0 u4, tI 1 u1, tP 4 4, tV 6 (.int .u8 (bt u4 u1)), tP 7 7, tI 8 (wr.i64 (u1 + 1)), tB 27 true], [bC 4 GSign.z, bC 7 [aI 0, .str (bs []), aI 0, aI u1, .bool false]], []⟩ (.cons (Z8x h676) (cb h677 .nil)) ?_
          exact ⟨_, rfl, h⟩
        · obtain ⟨uez, h678, h⟩ := Z0 h
          rcases oif h with ⟨h679, h⟩ | ⟨h679, h⟩
          · refine Wc.r2 [{}, { r := some (.v (.bool uc6) []) }, rF, {}, { r := some (.v (.bool uez) []) }, {}, rT] ⟨[tS 0 u4, tI 1 u1, tP 4 4, tV 6 (.int .u8 (bt u4 u1)), tP 7 7, tI 8 (wr.i64 (u1 + 1)), tB 27 true], [bC 4 GSign.z, bC 7 [aI 0, .str (bs []), aI 0, aI u1, .bool false]], []⟩ (.cons (Z8x h676) (cb h677 (.cons (Zd5 h678) (cb h679 .nil)))) ?_
            exact ⟨_, rfl, h⟩
          · refine Wc.r2 [{}, { r := some (.v (.bool uc6) []) }, rF, {}, { r := some (.v (.bool uez) []) }, {}, rF] ⟨[tS 0 u4, tI 1 u1, tP 4 4, tV 6 (.int .u8 (bt u4 u1)), tP 7 7, tI 8 (wr.i64 (u1 + 1)), tB 27 ((bt u4 u1) == 95)], [bC 4 GSign.z, bC 7 [aI 0, .str (bs []), aI 0, aI u1, .bool false]], []⟩ (.cons (Z8x h676) (cb h677 (.cons (Zd5 h678) (cb h679 .nil)))) ?_
            exact ⟨_, rfl, h⟩
      · rintro st ⟨uc5, rfl, h⟩
        rcases oif h with ⟨h649, h⟩ | ⟨h649, h⟩
        · refine Wc.cT h649 ?_
          apply Wc.seq
          obtain ⟨u31, h650, h⟩ := Z0 h
          refine Wc.r2 [{}, {}, { r := some (.v (aI u31) []) }] ⟨[tS 0 u4, tI 1 u1, tP 4 4, tV 6 (.int .u8 (bt u4 u1)), tP 7 7, tI 8 u31], [bC 4 GSign.z, bC 7 [aI 0, .str (bs []), aI 0, aI u1, .bool false]], []⟩ (.cons (Zae h650) .nil) ?_
          apply Wc.seq
          refine Wc.r0 ⟨[tS 0 u4, tI 1 u1, tP 4 4, tV 6 (.int .u8 (bt u4 u1)), tP 7 7, tI 8 u31], [bC 4 GSign.z, bC 7 [aI 2, .str (bs []), aI 0, aI u1, .bool false]], []⟩ ?_
          apply Wc.seq
          obtain ⟨u6c, h651, h⟩ := Z0 h
          refine Wc.r2 [{}, { r := some (.v (.bool u6c) []) }] ⟨[tS 0 u4, tI 1 u1, tP 4 4, tP 7 7, tI 8 u31, tB 43 u6c], [bC 4 GSign.z, bC 7 [aI 2, .str (bs []), aI 0, aI u1, .bool false]], []⟩ (.cons (Z8x h651) .nil) ?_
          rcases oif h with ⟨h652, h⟩ | ⟨h652, h⟩
          · refine Wc.cT h652 ?_
            refine Wc.r0 ⟨[tS 0 u4, tI 1 u1, tP 4 4, tP 7 7, tI 8 u31], [bC 4 GSign.z, bC 7 [aI 1, .str (bs []), aI 0, aI u1, .bool false]], []⟩ ?_
            exact ⟨_, _, rfl, h⟩
          · refine Wc.cF h652 ?_
            refine Wc.fx [] ⟨[tS 0 u4, tI 1 u1, tP 4 4, tP 7 7, tI 8 u31], [bC 4 GSign.z, bC 7 [aI 2, .str (bs []), aI 0, aI u1, .bool false]], []⟩ ?_
            refine Wc.skip ?_
            exact ⟨_, _, rfl, h⟩
        · refine Wc.cF h649 ?_
          apply Wc.seq
          obtain ⟨uew, h653, h⟩ := Z0 h
          refine Wc.r2 [{}, { r := some (.v (.bool uew) []) }] ⟨[tS 0 u4, tI 1 u1, tP 4 4, tV 6 (.int .u8 (bt u4 u1)), tP 7 7, tI 8 (wr.i64 (u1 + 1)), tB 45 uew], [bC 4 GSign.z, bC 7 [aI 0, .str (bs []), aI 0, aI u1, .bool false]], []⟩ (.cons (Zd7 h653) .nil) ?_
          rcases oif h with ⟨h654, h⟩ | ⟨h654, h⟩
          · refine Wc.cT h654 ?_
            apply Wc.seq
            obtain ⟨z4, h655, h⟩ := Z0 h
            refine Wc.r2 [{}, {}, { r := some (.v (aI z4) []) }] ⟨[tS 0 u4, tI 1 u1, tP 4 4, tP 7 7, tI 8 z4], [bC 4 GSign.z, bC 7 [aI 0, .str (bs []), aI 0, aI u1, .bool false]], []⟩ (.cons (Zbm h655) .nil) ?_
            apply Wc.seq
            refine Wc.r0 ⟨[tS 0 u4, tI 1 u1, tP 4 4, tP 7 7, tI 8 z4, tI 9 0], [bC 4 GSign.z, bC 7 [aI 0, .str (bs []), aI 0, aI u1, .bool false]], []⟩ ?_
            apply Wc.seq
            apply Wc.seq
            refine Wc.r0 ⟨[tS 0 u4, tI 1 u1, tP 4 4, tP 7 7, tI 8 z4, tI 9 0, tI 10 u1], [bC 4 GSign.z, bC 7 [aI 0, .str (bs []), aI 0, aI u1, .bool false]], []⟩ ?_
            obtain ⟨out4, h656, h⟩ := Z0 h
            refine Wc.lastJ (fun st => ∃ (u34 : Int), out4 = .done u34 ∧ st = ⟨[tS 0 u4, tI 1 u1, tP 4 4, tP 7 7, tI 8 z4, tI 9 u34], [bC 4 GSign.z, bC 7 [aI 0, .str (bs []), aI 0, aI u1, .bool false]], []⟩) ?_ ?_
            · refine Wc.block ?_
              refine Wc.loop (fun m st => ∃ (u36 : Int) (u37 : Int), st = ⟨[tS 0 u4, tI 1 u1, tP 4 4, tP 7 7, tI 8 z4, tI 9 u36, tI 10 u37], [bC 4 GSign.z, bC 7 [aI 0, .str (bs []), aI 0, aI u1, .bool false]], []⟩ ∧ Z31 k z4 u4 m u36 u37 = some out4) ?_ k ⟨_, _, rfl, h656⟩
              rintro m st ⟨u36, u37, rfl, h656⟩
              cases m with
              | zero => exact (Z1r h656).elim
              | succ m =>
                apply Wc.seq
                apply Wc.seq
                rcases oif h656 with ⟨h657, h656⟩ | ⟨h657, h656⟩
                · refine Wc.r2 [{}, {}, {}, rT] ⟨[tS 0 u4, tI 1 u1, tP 4 4, tP 7 7, tI 8 z4, tI 9 u36, tI 10 u37, tB 58 (decide (u36 ≤ 999999999))], [bC 4 GSign.z, bC 7 [aI 0, .str (bs []), aI 0, aI u1, .bool false]], []⟩ (cb h657 .nil) ?_
                  rcases oif h656 with ⟨h658, h656⟩ | ⟨h658, h656⟩
                  · refine Wc.cT h658 ?_
                    refine Wc.fx [] ⟨[tS 0 u4, tI 1 u1, tP 4 4, tP 7 7, tI 8 z4, tI 9 u36, tI 10 u37], [bC 4 GSign.z, bC 7 [aI 0, .str (bs []), aI 0, aI u1, .bool false]], []⟩ ?_
                    refine Wc.skip ?_
                    apply Wc.seq
                    refine Wc.block ?_
                    obtain ⟨h659, h656⟩ := Zg h656
                    refine Wc.r2 [] ⟨[tS 0 u4, tI 1 u1, tP 4 4, tP 7 7, tI 8 z4, tI 9 (wr.i64 ((wr.i64 (10 * u36)) + (wr.i64 (wr.u8 ((bt u4 u37) - 48))))), tI 10 u37], [bC 4 GSign.z, bC 7 [aI 0, .str (bs []), aI 0, aI u1, .bool false]], []⟩ (.cons h659 .nil) ?_
                    refine Wc.r0 ⟨[tS 0 u4, tI 1 u1, tP 4 4, tP 7 7, tI 8 z4, tI 9 (wr.i64 ((wr.i64 (10 * u36)) + (wr.i64 (wr.u8 ((bt u4 u37) - 48))))), tI 10 (wr.i64 (u37 + 1))], [bC 4 GSign.z, bC 7 [aI 0, .str (bs []), aI 0, aI u1, .bool false]], []⟩ ?_
                    exact ⟨_, Nat.lt_succ_self _, _, _, rfl, h656⟩
                  · refine Wc.cF h658 ?_
                    refine Wc.fx [] ⟨[tS 0 u4, tI 1 u1, tP 4 4, tP 7 7, tI 8 z4, tI 9 u36], [bC 4 GSign.z, bC 7 [aI 0, .str (bs []), aI 0, aI u1, .bool false]], []⟩ ?_
                    refine Wc.exit ?_
                    cases h656
                    exact ⟨_, rfl, rfl⟩
                · refine Wc.r2 [{}, {}, {}, rF] ⟨[tS 0 u4, tI 1 u1, tP 4 4, tP 7 7, tI 8 z4, tI 9 u36, tI 10 u37, tB 58 false], [bC 4 GSign.z, bC 7 [aI 0, .str (bs []), aI 0, aI u1, .bool false]], []⟩ (cb h657 .nil) ?_
                  refine Wc.cF rfl ?_
                  refine Wc.fx [] ⟨[tS 0 u4, tI 1 u1, tP 4 4, tP 7 7, tI 8 z4, tI 9 u36], [bC 4 GSign.z, bC 7 [aI 0, .str (bs []), aI 0, aI u1, .bool false]], []⟩ ?_
                  refine Wc.exit ?_
                  cases h656
                  exact ⟨_, rfl, rfl⟩
            · rintro st ⟨u34, rfl, rfl⟩
              apply Wc.seq
              refine Wc.r0 ⟨[tS 0 u4, tI 1 u1, tP 4 4, tP 7 7, tI 8 z4, tI 9 u34, tB 70 (decide (u34 ≤ 999999999))], [bC 4 GSign.z, bC 7 [aI 0, .str (bs []), aI 0, aI u1, .bool false]], []⟩ ?_
              rcases oif h with ⟨h660, h⟩ | ⟨h660, h⟩
              · refine Wc.cT h660 ?_
                apply Wc.seq
                refine Wc.r0 ⟨[tP 4 4, tP 7 7, tI 8 z4], [bC 4 GSign.z, bC 7 [aI 3, .str (bs []), aI u34, aI u1, .bool false]], []⟩ ?_
                apply Wc.seq
                refine Wc.r0 ⟨[tP 4 4, tI 5 z4], [bC 4 [aI 3, .str (bs []), aI u34, aI u1, .bool false]], []⟩ ?_
                cases h; exact Wc.ret dn
              · refine Wc.cF h660 ?_
                refine Wc.fx [] ⟨[tS 0 u4, tI 1 u1, tP 4 4, tP 7 7, tI 8 z4], [bC 4 GSign.z, bC 7 [aI 0, .str (bs []), aI 0, aI u1, .bool false]], []⟩ ?_
                refine Wc.skip ?_
                exact ⟨_, _, rfl, h⟩
          · refine Wc.cF h654 ?_
            apply Wc.seq
            obtain ⟨uex, h661, h⟩ := Z0 h
            refine Wc.r2 [{}, { r := some (.v (.bool uex) []) }] ⟨[tS 0 u4, tI 1 u1, tP 4 4, tV 6 (.int .u8 (bt u4 u1)), tP 7 7, tI 8 (wr.i64 (u1 + 1)), tB 76 uex], [bC 4 GSign.z, bC 7 [aI 0, .str (bs []), aI 0, aI u1, .bool false]], []⟩ (.cons (Za8 h661) .nil) ?_
            rcases oif h with ⟨h662, h⟩ | ⟨h662, h⟩
            · refine Wc.cT h662 ?_
              apply Wc.seq
              obtain ⟨u4p, h663, h⟩ := Z0 h
              refine Wc.r2 [{}, {}, { r := some (.v (aI u4p) []) }] ⟨[tS 0 u4, tI 1 u1, tP 4 4, tP 7 7, tI 8 u4p], [bC 4 GSign.z, bC 7 [aI 0, .str (bs []), aI 0, aI u1, .bool false]], []⟩ (.cons (Z9p h663) .nil) ?_
              refine Wc.r0 ⟨[tS 0 u4, tI 1 u1, tP 4 4, tP 7 7, tI 8 u4p], [bC 4 GSign.z, bC 7 [aI 1, .str (bs []), aI 0, aI u1, .bool false]], []⟩ ?_
              exact ⟨_, _, rfl, h⟩
            · refine Wc.cF h662 ?_
              refine Wc.seqJ (fun st => ∃ (u5o : Bool), st = ⟨[tS 0 u4, tI 1 u1, tP 4 4, tV 6 (.int .u8 (bt u4 u1)), tP 7 7, tI 8 (wr.i64 (u1 + 1)), tB 83 u5o], [bC 4 GSign.z, bC 7 [aI 0, .str (bs []), aI 0, aI u1, .bool false]], []⟩ ∧ Z22 k u1 u4 u5o = some r) ?_ ?_
              · rcases oif h with ⟨h675, h⟩ | ⟨h675, h⟩
                · refine Wc.r2 [{}, {}, rT] ⟨[tS 0 u4, tI 1 u1, tP 4 4, tV 6 (.int .u8 (bt u4 u1)), tP 7 7, tI 8 (wr.i64 (u1 + 1)), tB 83 true], [bC 4 GSign.z, bC 7 [aI 0, .str (bs []), aI 0, aI u1, .bool false]], []⟩ (cb h675 .nil) ?_
                  exact ⟨_, rfl, h⟩
                · refine Wc.r2 [{}, {}, rF] ⟨[tS 0 u4, tI 1 u1, tP 4 4, tV 6 (.int .u8 (bt u4 u1)), tP 7 7, tI 8 (wr.i64 (u1 + 1)), tB 83 ((bt u4 u1) == 59)], [bC 4 GSign.z, bC 7 [aI 0, .str (bs []), aI 0, aI u1, .bool false]], []⟩ (cb h675 .nil) ?_
                  exact ⟨_, rfl, h⟩
              · rintro st ⟨u5o, rfl, h⟩
                rcases oif h with ⟨h664, h⟩ | ⟨h664, h⟩
                · refine Wc.cT h664 ?_
                  refine Wc.r0 ⟨[tS 0 u4, tI 1 u1, tP 4 4, tP 7 7, tI 8 (wr.i64 (u1 + 1))], [bC 4 GSign.z, bC 7 [aI 1, .str (bs []), aI 0, aI u1, .bool false]], []⟩ ?_
                  exact ⟨_, _, rfl, h⟩
                · refine Wc.cF h664 ?_
                  apply Wc.seq
                  obtain ⟨ueu, h665, h⟩ := Z0 h
                  refine Wc.r2 [{}, { r := some (.v (aI ueu) []) }] ⟨[tS 0 u4, tI 1 u1, tP 4 4, tV 6 (.int .u8 (bt u4 u1)), tP 7 7, tI 8 (wr.i64 (u1 + 1)), tB 91 (decide (ueu ≥ 0))], [bC 4 GSign.z, bC 7 [aI 0, .str (bs []), aI 0, aI u1, .bool false]], []⟩ (.cons (Z6s h665) .nil) ?_
                  rcases oif h with ⟨h666, h⟩ | ⟨h666, h⟩
                  · refine Wc.cT h666 ?_
                    refine Wc.r0 ⟨[tS 0 u4, tI 1 u1, tP 4 4, tP 7 7, tI 8 (wr.i64 (u1 + 1))], [bC 4 GSign.z, bC 7 [aI 4, .str (bs []), aI 0, aI u1, .bool false]], []⟩ ?_
                    exact ⟨_, _, rfl, h⟩
                  · refine Wc.cF h666 ?_
                    apply Wc.seq
                    refine Wc.r0 ⟨[tS 0 u4, tI 1 u1, tP 4 4, tP 7 7, tI 8 (wr.i64 (u1 + 1)), tB 96 ((bt u4 u1) == 39)], [bC 4 GSign.z, bC 7 [aI 0, .str (bs []), aI 0, aI u1, .bool false]], []⟩ ?_
                    rcases oif h with ⟨h667, h⟩ | ⟨h667, h⟩
                    · refine Wc.cT h667 ?_
                      apply Wc.seq
                      obtain ⟨u0j, h668, h⟩ := Z0 h
                      refine Wc.r2 [{}, {}, {}, { r := some (.v (aI u0j) []) }] ⟨[tS 0 u4, tI 1 u1, tP 4 4, tP 7 7, tI 8 (wr.i64 (u1 + 1)), tI 11 u0j], [bC 4 GSign.z, bC 7 [aI 0, .str (bs []), aI 0, aI u1, .bool false]], []⟩ (.cons (Z9o h668) .nil) ?_
                      refine Wc.seqJ (fun st => ∃ (uc4 : Bool), st = ⟨[tS 0 u4, tI 1 u1, tP 4 4, tP 7 7, tI 8 (wr.i64 (u1 + 1)), tI 11 u0j, tB 119 uc4], [bC 4 GSign.z, bC 7 [aI 0, .str (bs []), aI 0, aI u1, .bool false]], []⟩ ∧ Z47 k u1 u0j u4 uc4 = some r) ?_ ?_
                      · rcases oif h with ⟨h671, h⟩ | ⟨h671, h⟩
                        · obtain ⟨h672, h⟩ := Zg h
                          rcases oif h with ⟨h673, h⟩ | ⟨h673, h⟩
                          · obtain ⟨uev, h674, h⟩ := Z0 h
                            refine Wc.r2 [{}, {}, {}, {}, rT, {}, {}, {}, {}, {}, rT, {}, {}, {}, {}, { r := some (.v (.bool uev) []) }] ⟨[tS 0 u4, tI 1 u1, tP 4 4, tP 7 7, tI 8 (wr.i64 (u1 + 1)), tI 11 u0j, tB 119 uev], [bC 4 GSign.z, bC 7 [aI 0, .str (bs []), aI 0, aI u1, .bool false]], []⟩ (cb h671 (.cons h672 (cb h673 (.cons (Z46 h674) .nil)))) ?_
                            exact ⟨_, rfl, h⟩
                          · refine Wc.r2 [{}, {}, {}, {}, rT, {}, {}, {}, {}, {}, rF] ⟨[tS 0 u4, tI 1 u1, tP 4 4, tP 7 7, tI 8 (wr.i64 (u1 + 1)), tI 11 u0j, tB 119 false], [bC 4 GSign.z, bC 7 [aI 0, .str (bs []), aI 0, aI u1, .bool false]], []⟩ (cb h671 (.cons h672 (cb h673 .nil))) ?_
                            exact ⟨_, rfl, h⟩
                        · refine Wc.r2 [{}, {}, {}, {}, rF] ⟨[tS 0 u4, tI 1 u1, tP 4 4, tP 7 7, tI 8 (wr.i64 (u1 + 1)), tI 11 u0j, tB 119 false], [bC 4 GSign.z, bC 7 [aI 0, .str (bs []), aI 0, aI u1, .bool false]], []⟩ (cb h671 .nil) ?_
                          exact ⟨_, rfl, h⟩
                      · rintro st ⟨uc4, rfl, h⟩
                        rcases oif h with ⟨h669, h⟩ | ⟨h669, h⟩
                        · refine Wc.cT h669 ?_
                          apply Wc.seq
                          obtain ⟨h670, h⟩ := Zg h
                          refine Wc.draw hmix [] [] [4, 7, 11] [4, 7] [] ⟨[tP 4 4, tP 7 7, tI 11 u0j], [bC 4 GSign.z, bC 7 [aI 1, .str (u4.extract ((wr.i64 (u1 + 1)) : Int).toNat (u0j : Int).toNat), aI 0, aI u1, .bool false]], []⟩ _ (by kernel_rfl) (fun X => by kernel_rfl) (.cons h670 .nil) ?_
                          apply Wc.seq
                          refine Wc.r0 ⟨[tP 4 4, tI 5 (wr.i64 (u0j + 1))], [bC 4 [aI 1, .str (u4.extract ((wr.i64 (u1 + 1)) : Int).toNat (u0j : Int).toNat), aI 0, aI u1, .bool false]], []⟩ ?_
                          cases h; exact Wc.ret dn
                        · refine Wc.cF h669 ?_
                          refine Wc.fx [] ⟨[tS 0 u4, tI 1 u1, tP 4 4, tP 7 7, tI 8 (wr.i64 (u1 + 1))], [bC 4 GSign.z, bC 7 [aI 0, .str (bs []), aI 0, aI u1, .bool false]], []⟩ ?_
                          refine Wc.skip ?_
                          exact ⟨_, _, rfl, h⟩
                    · refine Wc.cF h667 ?_
                      refine Wc.fx [] ⟨[tS 0 u4, tI 1 u1, tP 4 4, tP 7 7, tI 8 (wr.i64 (u1 + 1))], [bC 4 GSign.z, bC 7 [aI 0, .str (bs []), aI 0, aI u1, .bool false]], []⟩ ?_
                      refine Wc.skip ?_
                      exact ⟨_, _, rfl, h⟩
  · rintro st ⟨zi, uw, rfl, h⟩
    apply Wc.seq
    obtain ⟨h642, h⟩ := Zg h
    refine Wc.r2 [] ⟨[tS 0 u4, tI 1 u1, tP 4 4, tP 7 7, tI 8 zi], [bC 4 GSign.z, bC 7 [aI uw.gKind, .str (u4.extract (u1 : Int).toNat (zi : Int).toNat), aI uw.gNum, aI uw.gAt, .bool uw.gNear]], []⟩ (.cons h642 .nil) ?_
    apply Wc.seq
    refine Wc.seqJ (fun st => ∃ (uc3 : Bool), st = ⟨[tS 0 u4, tI 1 u1, tP 4 4, tP 7 7, tI 8 zi, tB 148 uc3], [bC 4 GSign.z, bC 7 [aI uw.gKind, .str (u4.extract (u1 : Int).toNat (zi : Int).toNat), aI uw.gNum, aI uw.gAt, .bool uw.gNear]], []⟩ ∧ Z3k k u1 u4 uw zi uc3 = some r) ?_ ?_
    · rcases oif h with ⟨h645, h⟩ | ⟨h645, h⟩
      · refine Wc.r2 [{}, {}, {}, rT] ⟨[tS 0 u4, tI 1 u1, tP 4 4, tP 7 7, tI 8 zi, tB 148 true], [bC 4 GSign.z, bC 7 [aI uw.gKind, .str (u4.extract (u1 : Int).toNat (zi : Int).toNat), aI uw.gNum, aI uw.gAt, .bool uw.gNear]], []⟩ (cb h645 .nil) ?_
        exact ⟨_, rfl, h⟩
      · rcases oif h with ⟨h646, h⟩ | ⟨h646, h⟩
        · refine Wc.r2 [{}, {}, {}, rF, {}, {}, {}, rT] ⟨[tS 0 u4, tI 1 u1, tP 4 4, tP 7 7, tI 8 zi, tB 148 (decide (((u4.extract (u1 : Int).toNat (zi : Int).toNat).size : Int) > 20))], [bC 4 GSign.z, bC 7 [aI uw.gKind, .str (u4.extract (u1 : Int).toNat (zi : Int).toNat), aI uw.gNum, aI uw.gAt, .bool uw.gNear]], []⟩ (cb h645 (cb h646 .nil)) ?_
          exact ⟨_, rfl, h⟩
        · refine Wc.r2 [{}, {}, {}, rF, {}, {}, {}, rF] ⟨[tS 0 u4, tI 1 u1, tP 4 4, tP 7 7, tI 8 zi, tB 148 false], [bC 4 GSign.z, bC 7 [aI uw.gKind, .str (u4.extract (u1 : Int).toNat (zi : Int).toNat), aI uw.gNum, aI uw.gAt, .bool uw.gNear]], []⟩ (cb h645 (cb h646 .nil)) ?_
          exact ⟨_, rfl, h⟩
    · rintro st ⟨uc3, rfl, h⟩
      rcases oif h with ⟨h643, h⟩ | ⟨h643, h⟩
      · refine Wc.cT h643 ?_
        apply Wc.seq
        obtain ⟨h644, h⟩ := Zg h
        refine Wc.draw hmix [] [] [1, 4, 7] [4, 7] [] ⟨[tI 1 u1, tP 4 4, tP 7 7], [bC 4 GSign.z, bC 7 [aI 6, .str (eX u4 u1), aI uw.gNum, aI uw.gAt, .bool uw.gNear]], []⟩ _ (by kernel_rfl) (fun X => by kernel_rfl) (.cons h644 .nil) ?_
        refine Wc.r0 ⟨[tP 4 4, tP 7 7, tI 8 (wr.i64 (u1 + 1))], [bC 4 GSign.z, bC 7 [aI 6, .str (eX u4 u1), aI uw.gNum, aI uw.gAt, .bool uw.gNear]], []⟩ ?_
        apply Wc.seq
        refine Wc.r0 ⟨[tP 4 4, tI 5 (wr.i64 (u1 + 1))], [bC 4 [aI 6, .str (eX u4 u1), aI uw.gNum, aI uw.gAt, .bool uw.gNear]], []⟩ ?_
        cases h; exact Wc.ret dn
      · refine Wc.cF h643 ?_
        refine Wc.fx [] ⟨[tP 4 4, tP 7 7, tI 8 zi], [bC 4 GSign.z, bC 7 [aI uw.gKind, .str (u4.extract (u1 : Int).toNat (zi : Int).toNat), aI uw.gNum, aI uw.gAt, .bool uw.gNear]], []⟩ ?_
        refine Wc.skip ?_
        apply Wc.seq
        refine Wc.r0 ⟨[tP 4 4, tI 5 zi], [bC 4 [aI uw.gKind, .str (u4.extract (u1 : Int).toNat (zi : Int).toNat), aI uw.gNum, aI uw.gAt, .bool uw.gNear]], []⟩ ?_
        cases h; exact Wc.ret dn

def Zw (k : Nat) (u38 : ByteArray) : Nat → Int → Option (Out Int Int)
  | 0, _ => none
  | m + 1, u2m =>
    if (decide (u2m < (u38.size : Int))) = true then
      if 0 ≤ u2m ∧ (u2m).toNat < u38.size then
        (Z7d k (bt u38 u2m)).bind fun uf0 =>
        if uf0 = true then
          Zw k u38 m (wr.i64 (u2m + 1))
        else
          some (.done u2m)
      else none
    else
      some (.done u2m)
def Z2m (k : Nat) (u38 : ByteArray) (uc7 : Int) : Option Int :=
  (Zw k u38 k uc7).bind fun out1 => match out1 with
  | .ret r => some r
  | .done u94 =>
    some u94
theorem Za7 {k : Nat} {u38 : ByteArray} {uc7 : Int} {r : Int} (h : Z2m k u38 uc7 = some r) : FnO Tryz.prog 52 [.v (.str u38) [], .v (aI uc7) [], .v (.func 53 []) []] (.v (aI r) []) [] := by
  refine FnO.o2 Tryz.func52 (rfl : Tryz.f52.body = some _) ?_
  intro w0 X0 Fin pv0 pb gt
  unfold Z2m at h
  apply Wc.seq
  refine Wc.r0 ⟨[tS 0 u38, tI 1 uc7, tV 2 (.func 53 [])], [], []⟩ ?_
  obtain ⟨out1, h685, h⟩ := Z0 h
  refine Wc.seqJ (fun st => ∃ (u94 : Int), out1 = .done u94 ∧ st = ⟨[tI 1 u94], [], []⟩) ?_ ?_
  · refine Wc.block ?_
    refine Wc.loop (fun m st => ∃ (u2m : Int), st = ⟨[tS 0 u38, tI 1 u2m, tV 2 (.func 53 [])], [], []⟩ ∧ Zw k u38 m u2m = some out1) ?_ k ⟨_, rfl, h685⟩
    rintro m st ⟨u2m, rfl, h685⟩
    cases m with
    | zero => exact (Z1r h685).elim
    | succ m =>
      apply Wc.seq
      apply Wc.seq
      rcases oif h685 with ⟨h686, h685⟩ | ⟨h686, h685⟩
      · obtain ⟨h687, h685⟩ := Zg h685
        obtain ⟨uf0, h688, h685⟩ := Z0 h685
        refine Wc.r2 [{}, {}, {}, {}, rT, {}, {}, {}, {}, { r := some (.v (.bool uf0) []) }] ⟨[tS 0 u38, tI 1 u2m, tV 2 (.func 53 []), tB 17 uf0], [], []⟩ (cb h686 (.cons h687 (.cons (Zku h688) .nil))) ?_
        rcases oif h685 with ⟨h689, h685⟩ | ⟨h689, h685⟩
        · refine Wc.cT h689 ?_
          refine Wc.fx [] ⟨[tS 0 u38, tI 1 u2m, tV 2 (.func 53 [])], [], []⟩ ?_
          refine Wc.skip ?_
          refine Wc.block ?_
          refine Wc.r0 ⟨[tS 0 u38, tI 1 (wr.i64 (u2m + 1)), tV 2 (.func 53 [])], [], []⟩ ?_
          exact ⟨_, Nat.lt_succ_self _, _, rfl, h685⟩
        · refine Wc.cF h689 ?_
          refine Wc.fx [] ⟨[tI 1 u2m], [], []⟩ ?_
          refine Wc.exit ?_
          cases h685
          exact ⟨_, rfl, rfl⟩
      · refine Wc.r2 [{}, {}, {}, {}, rF] ⟨[tS 0 u38, tI 1 u2m, tV 2 (.func 53 []), tB 17 false], [], []⟩ (cb h686 .nil) ?_
        refine Wc.cF rfl ?_
        refine Wc.fx [] ⟨[tI 1 u2m], [], []⟩ ?_
        refine Wc.exit ?_
        cases h685
        exact ⟨_, rfl, rfl⟩
  · rintro st ⟨u94, rfl, rfl⟩
    apply Wc.seq
    refine Wc.r0 ⟨[tI 6 u94], [], []⟩ ?_
    cases h; exact Wc.ret dn

def Z3z (k : Nat) (bk_ : (List GSign) → Int → Option (Out ((List GSign) × Bool) (List GSign))) (vh : List GSign) (vi : Int) (uk : ByteArray) (uc8 : Bool) : Option (Out ((List GSign) × Bool) (List GSign)) :=
  if uc8 = true then
    bk_ vh (wr.i64 (vi + 1))
  else
    if ((bt uk vi) == 37) = true then
      (Z2m k uk vi).bind fun uf1 =>
      bk_ vh uf1
    else
      (Z48 k uk vi).bind fun u8 =>
      if (decide (u8.2 < (uk.size : Int))) = true then
        if 0 ≤ u8.2 ∧ (u8.2).toNat < uk.size then
          if vh.length + [GSign.mk u8.1.gKind u8.1.gText u8.1.gNum u8.1.gAt ((bt uk u8.2) == 40)].length ≤ 1073741824 then
            bk_ (vh ++ [GSign.mk u8.1.gKind u8.1.gText u8.1.gNum u8.1.gAt ((bt uk u8.2) == 40)]) u8.2
          else none
        else none
      else
        if vh.length + [GSign.mk u8.1.gKind u8.1.gText u8.1.gNum u8.1.gAt false].length ≤ 1073741824 then
          bk_ (vh ++ [GSign.mk u8.1.gKind u8.1.gText u8.1.gNum u8.1.gAt false]) u8.2
        else none
def Z1b (k : Nat) (uk : ByteArray) : Nat → (List GSign) → Int → Option (Out ((List GSign) × Bool) (List GSign))
  | 0, _, _ => none
  | m + 1, vh, vi =>
    if (decide (vi < (uk.size : Int))) = true then
      if 0 ≤ vi ∧ (vi).toNat < uk.size then
        if ((bt uk vi) == 32) = true then
          Z3z k (Z1b k uk m) vh vi uk ((bt uk vi) == 32)
        else
          if ((bt uk vi) == 9) = true then
            Z3z k (Z1b k uk m) vh vi uk ((bt uk vi) == 9)
          else
            Z3z k (Z1b k uk m) vh vi uk ((bt uk vi) == 10)
      else none
    else
      some (.done vh)
def Z65 (k : Nat) (uk : ByteArray) : Option ((List GSign) × Bool) :=
  if (decide ((uk.size : Int) > 3000)) = true then
    some ([], false)
  else
    (Z1b k uk k [] 0).bind fun out1 => match out1 with
    | .ret r => some r
    | .done u95 =>
      some (u95, true)
set_option maxHeartbeats 4000000 in
theorem Zhr {k : Nat} {uk : ByteArray} {r : (List GSign) × Bool} (h : Z65 k uk = some r) : FnO Tryz.prog 28 [.v (.str uk) []] (.v (.tup [.sl (List.map GSign.c r.1), .bool r.2]) [(0, .app 55)]) [] := by
  refine FnO.o2 Tryz.func28 (rfl : Tryz.f28.body = some _) ?_
  intro w0 X0 Fin pv0 pb gt
  unfold Z65 at h
  apply Wc.seq
  refine Wc.r0 ⟨[tS 0 uk], [], []⟩ ?_
  apply Wc.seq
  apply Wc.seq
  refine Wc.r0 ⟨[tS 0 uk, tB 10 (decide ((uk.size : Int) > 3000))], [], []⟩ ?_
  rcases oif h with ⟨h694, h⟩ | ⟨h694, h⟩
  · refine Wc.cT h694 ?_
    apply Wc.seq
    refine Wc.r0 ⟨[(2, (.v (.sl (List.map GSign.c [])), [(0, .app 55)])), tB 3 false], [], []⟩ ?_
    cases h; exact Wc.ret dn
  · refine Wc.cF h694 ?_
    refine Wc.fx [] ⟨[tS 0 uk], [], []⟩ ?_
    refine Wc.skip ?_
    apply Wc.seq
    refine Wc.r0 ⟨[tS 0 uk, (4, (.v (.sl (List.map GSign.c [])), [(0, .app 55)]))], [], []⟩ ?_
    apply Wc.seq
    apply Wc.seq
    refine Wc.r0 ⟨[tS 0 uk, (4, (.v (.sl (List.map GSign.c [])), [(0, .app 55)])), tI 5 0], [], []⟩ ?_
    obtain ⟨out1, h695, h⟩ := Z0 h
    refine Wc.lastJ (fun st => ∃ (u95 : List GSign), out1 = .done u95 ∧ st = ⟨[(4, (.v (.sl (List.map GSign.c u95)), [(0, .app 55)]))], [], []⟩) ?_ ?_
    · refine Wc.block ?_
      refine Wc.loop (fun m st => ∃ (vh : List GSign) (vi : Int), st = ⟨[tS 0 uk, (4, (.v (.sl (List.map GSign.c vh)), [(0, .app 55)])), tI 5 vi], [], []⟩ ∧ Z1b k uk m vh vi = some out1) ?_ k ⟨_, _, rfl, h695⟩
      rintro m st ⟨vh, vi, rfl, h695⟩
      cases m with
      | zero => exact (Z1r h695).elim
      | succ m =>
        apply Wc.seq
        apply Wc.seq
        refine Wc.r0 ⟨[tS 0 uk, (4, (.v (.sl (List.map GSign.c vh)), [(0, .app 55)])), tI 5 vi, tB 14 (decide (vi < (uk.size : Int)))], [], []⟩ ?_
        rcases oif h695 with ⟨h696, h695⟩ | ⟨h696, h695⟩
        · refine Wc.cT h696 ?_
          refine Wc.fx [] ⟨[tS 0 uk, (4, (.v (.sl (List.map GSign.c vh)), [(0, .app 55)])), tI 5 vi], [], []⟩ ?_
          refine Wc.skip ?_
          refine Wc.block ?_
          apply Wc.seq
          apply Wc.seq
          obtain ⟨h697, h695⟩ := Zg h695
          refine Wc.r2 [] ⟨[tS 0 uk, (4, (.v (.sl (List.map GSign.c vh)), [(0, .app 55)])), tI 5 vi, tV 17 (.int .u8 (bt uk vi))], [], []⟩ (.cons h697 .nil) ?_
          refine Wc.block ?_
          refine Wc.seqJ (fun st => ∃ (uc8 : Bool), st = ⟨[tS 0 uk, (4, (.v (.sl (List.map GSign.c vh)), [(0, .app 55)])), tI 5 vi, tV 17 (.int .u8 (bt uk vi)), tB 18 uc8], [], []⟩ ∧ Z3z k (Z1b k uk m) vh vi uk uc8 = some out1) ?_ ?_
          · apply Wc.seq
            refine Wc.r0 ⟨[tS 0 uk, (4, (.v (.sl (List.map GSign.c vh)), [(0, .app 55)])), tI 5 vi, tV 17 (.int .u8 (bt uk vi)), tB 18 ((bt uk vi) == 32)], [], []⟩ ?_
            rcases oif h695 with ⟨h706, h695⟩ | ⟨h706, h695⟩
            · refine Wc.cT h706 ?_
              refine Wc.skip ?_
              exact ⟨_, rfl, h695⟩
            · refine Wc.cF h706 ?_
              apply Wc.seq
              refine Wc.r0 ⟨[tS 0 uk, (4, (.v (.sl (List.map GSign.c vh)), [(0, .app 55)])), tI 5 vi, tV 17 (.int .u8 (bt uk vi)), tB 18 ((bt uk vi) == 9)], [], []⟩ ?_
              rcases oif h695 with ⟨h707, h695⟩ | ⟨h707, h695⟩
              · refine Wc.cT h707 ?_
                refine Wc.skip ?_
                exact ⟨_, rfl, h695⟩
              · refine Wc.cF h707 ?_
                refine Wc.r0 ⟨[tS 0 uk, (4, (.v (.sl (List.map GSign.c vh)), [(0, .app 55)])), tI 5 vi, tV 17 (.int .u8 (bt uk vi)), tB 18 ((bt uk vi) == 10)], [], []⟩ ?_
                exact ⟨_, rfl, h695⟩
          · rintro st ⟨uc8, rfl, h695⟩
            rcases oif h695 with ⟨h698, h695⟩ | ⟨h698, h695⟩
            · refine Wc.cT h698 ?_
              apply Wc.seq
              refine Wc.r0 ⟨[tS 0 uk, (4, (.v (.sl (List.map GSign.c vh)), [(0, .app 55)])), tI 5 (wr.i64 (vi + 1))], [], []⟩ ?_
              refine Wc.exit ?_
              exact ⟨_, Nat.lt_succ_self _, _, _, rfl, h695⟩
            · refine Wc.cF h698 ?_
              apply Wc.seq
              refine Wc.r0 ⟨[tS 0 uk, (4, (.v (.sl (List.map GSign.c vh)), [(0, .app 55)])), tI 5 vi, tB 24 ((bt uk vi) == 37)], [], []⟩ ?_
              rcases oif h695 with ⟨h699, h695⟩ | ⟨h699, h695⟩
              · refine Wc.cT h699 ?_
                apply Wc.seq
                obtain ⟨uf1, h700, h695⟩ := Z0 h695
                refine Wc.r2 [{}, {}, { r := some (.v (aI uf1) []) }] ⟨[tS 0 uk, (4, (.v (.sl (List.map GSign.c vh)), [(0, .app 55)])), tI 5 uf1], [], []⟩ (.cons (Za7 h700) .nil) ?_
                refine Wc.exit ?_
                exact ⟨_, Nat.lt_succ_self _, _, _, rfl, h695⟩
              · refine Wc.cF h699 ?_
                refine Wc.fx [] ⟨[tS 0 uk, (4, (.v (.sl (List.map GSign.c vh)), [(0, .app 55)])), tI 5 vi], [], []⟩ ?_
                refine Wc.skip ?_
                apply Wc.seq
                obtain ⟨u8, h701, h695⟩ := Z0 h695
                refine Wc.r2 [{}, {}, { r := some (.v (.tup [.agg (GSign.q u8.1), aI u8.2]) []) }] ⟨[tS 0 uk, (4, (.v (.sl (List.map GSign.c vh)), [(0, .app 55)])), tP 6 6, tI 7 u8.2], [bC 6 (GSign.q u8.1)], []⟩ (.cons (Zmf h701) .nil) ?_
                apply Wc.seq
                rcases oif h695 with ⟨h702, h695⟩ | ⟨h702, h695⟩
                · obtain ⟨h703, h695⟩ := Zg h695
                  refine Wc.r2 [{}, {}, {}, {}, rT] ⟨[tS 0 uk, (4, (.v (.sl (List.map GSign.c vh)), [(0, .app 55)])), tP 6 6, tI 7 u8.2], [bC 6 [aI u8.1.gKind, .str u8.1.gText, aI u8.1.gNum, aI u8.1.gAt, .bool ((bt uk u8.2) == 40)]], []⟩ (cb h702 (.cons h703 .nil)) ?_
                  apply Wc.seq
                  obtain ⟨h704, h695⟩ := Zg h695
                  refine Wc.r2 [{ tk := [4] }, {}, { c := some (List.map GSign.c [GSign.mk u8.1.gKind u8.1.gText u8.1.gNum u8.1.gAt ((bt uk u8.2) == 40)]) }, { c := some (List.map GSign.c (vh ++ [GSign.mk u8.1.gKind u8.1.gText u8.1.gNum u8.1.gAt ((bt uk u8.2) == 40)])), tk := [46] }, { tk := [49] }] ⟨[tS 0 uk, (4, (.v (.sl (List.map GSign.c (vh ++ [GSign.mk u8.1.gKind u8.1.gText u8.1.gNum u8.1.gAt ((bt uk u8.2) == 40)]))), [(0, .app 55)])), tI 7 u8.2], [], []⟩ (.cons (Z3r (c := GSign.c) (x := GSign.mk u8.1.gKind u8.1.gText u8.1.gNum u8.1.gAt ((bt uk u8.2) == 40)) (GSign.c_eq (GSign.mk u8.1.gKind u8.1.gText u8.1.gNum u8.1.gAt ((bt uk u8.2) == 40))) (Z4g GSign.c)) (.cons (Z75 GSign.c vh [GSign.mk u8.1.gKind u8.1.gText u8.1.gNum u8.1.gAt ((bt uk u8.2) == 40)]) (.cons (Z53 (c := GSign.c) (ys := [GSign.mk u8.1.gKind u8.1.gText u8.1.gNum u8.1.gAt ((bt uk u8.2) == 40)]) GSign.c_leaf) (.cons (Z52 (c := GSign.c) (xs := vh) (ys := [GSign.mk u8.1.gKind u8.1.gText u8.1.gNum u8.1.gAt ((bt uk u8.2) == 40)]) GSign.c_len h704) .nil)))) ?_
                  refine Wc.r0 ⟨[tS 0 uk, (4, (.v (.sl (List.map GSign.c (vh ++ [GSign.mk u8.1.gKind u8.1.gText u8.1.gNum u8.1.gAt ((bt uk u8.2) == 40)]))), [(0, .app 55)])), tI 5 u8.2], [], []⟩ ?_
                  exact ⟨_, Nat.lt_succ_self _, _, _, rfl, h695⟩
                · refine Wc.r2 [{}, {}, {}, {}, rF] ⟨[tS 0 uk, (4, (.v (.sl (List.map GSign.c vh)), [(0, .app 55)])), tP 6 6, tI 7 u8.2], [bC 6 [aI u8.1.gKind, .str u8.1.gText, aI u8.1.gNum, aI u8.1.gAt, .bool false]], []⟩ (cb h702 .nil) ?_
                  apply Wc.seq
                  obtain ⟨h705, h695⟩ := Zg h695
                  refine Wc.r2 [{ tk := [4] }, {}, { c := some (List.map GSign.c [GSign.mk u8.1.gKind u8.1.gText u8.1.gNum u8.1.gAt false]) }, { c := some (List.map GSign.c (vh ++ [GSign.mk u8.1.gKind u8.1.gText u8.1.gNum u8.1.gAt false])), tk := [46] }, { tk := [49] }] ⟨[tS 0 uk, (4, (.v (.sl (List.map GSign.c (vh ++ [GSign.mk u8.1.gKind u8.1.gText u8.1.gNum u8.1.gAt false]))), [(0, .app 55)])), tI 7 u8.2], [], []⟩ (.cons (Z3r (c := GSign.c) (x := GSign.mk u8.1.gKind u8.1.gText u8.1.gNum u8.1.gAt false) (GSign.c_eq (GSign.mk u8.1.gKind u8.1.gText u8.1.gNum u8.1.gAt false)) (Z4g GSign.c)) (.cons (Z75 GSign.c vh [GSign.mk u8.1.gKind u8.1.gText u8.1.gNum u8.1.gAt false]) (.cons (Z53 (c := GSign.c) (ys := [GSign.mk u8.1.gKind u8.1.gText u8.1.gNum u8.1.gAt false]) GSign.c_leaf) (.cons (Z52 (c := GSign.c) (xs := vh) (ys := [GSign.mk u8.1.gKind u8.1.gText u8.1.gNum u8.1.gAt false]) GSign.c_len h705) .nil)))) ?_
                  refine Wc.r0 ⟨[tS 0 uk, (4, (.v (.sl (List.map GSign.c (vh ++ [GSign.mk u8.1.gKind u8.1.gText u8.1.gNum u8.1.gAt false]))), [(0, .app 55)])), tI 5 u8.2], [], []⟩ ?_
                  exact ⟨_, Nat.lt_succ_self _, _, _, rfl, h695⟩
        · refine Wc.cF h696 ?_
          refine Wc.fx [] ⟨[(4, (.v (.sl (List.map GSign.c vh)), [(0, .app 55)]))], [], []⟩ ?_
          refine Wc.exit ?_
          cases h695
          exact ⟨_, rfl, rfl⟩
    · rintro st ⟨u95, rfl, rfl⟩
      apply Wc.seq
      refine Wc.r1 [{ tk := [4] }, { tk := [51] }] ⟨[(2, (.v (.sl (List.map GSign.c u95)), [(0, .app 55)])), tB 3 true], [], []⟩ ?_
      cases h; exact Wc.ret dn

def Z2c (k : Nat) (vd : GParser) (u6d : Int) : Option (GParser × GSign) :=
  if (decide ((wr.i64 (vd.gAt + u6d)) ≥ (vd.gList.length : Int))) = true then
    some (vd, GSign.mk 0 (bs []) 0 0 false)
  else
    (at' vd.gList (wr.i64 (vd.gAt + u6d))).bind fun u96 =>
    some (vd, u96)
theorem Z51 {k : Nat} {vd : GParser} {u6d : Int} {r : GParser × GSign} (h : Z2c k vd u6d = some r) : FnO Tryz.prog 56 [.p (GParser.k2 vd) (GParser.h2_9f vd), .v (aI u6d) []] (.v (.agg (GSign.q r.2)) []) [(0, .p (GParser.k2 r.1) (GParser.h2_9f r.1))] := by
  refine FnO.o2 Tryz.func56 (rfl : Tryz.f56.body = some _) ?_
  intro w0 X0 Fin pv0 pb gt
  unfold Z2c at h
  apply Wc.seq
  refine Wc.r0 ⟨[tP 0 1000000, tI 1 u6d, tP 4 4], [bC 4 GSign.z, (1000000, .cells (GParser.k2 vd) (GParser.h2_9f vd))], []⟩ ?_
  apply Wc.seq
  apply Wc.seq
  refine Wc.draw hmix [{}, {}, {}, {}, {}, {}, {}, {}, {}, {}, { v := some (aI (vd.gList.length : Int)) }] [] [0, 1, 4, 16] [4, 1000000] [] ⟨[tP 0 1000000, tI 1 u6d, tP 4 4, tB 16 (decide ((wr.i64 (vd.gAt + u6d)) ≥ (vd.gList.length : Int)))], [bC 4 GSign.z, (1000000, .cells (GParser.k2 vd) (GParser.h2_9f vd))], []⟩ _ (by kernel_rfl) (fun X => by kernel_rfl) (.cons (Zn GSign.c vd.gList) .nil) ?_
  rcases oif h with ⟨h708, h⟩ | ⟨h708, h⟩
  · refine Wc.cT h708 ?_
    apply Wc.seq
    refine Wc.r0 ⟨[tP 4 4], [bC 4 GSign.z, (1000000, .cells (GParser.k2 vd) (GParser.h2_9f vd))], []⟩ ?_
    cases h; exact Wc.ret dn
  · refine Wc.cF h708 ?_
    refine Wc.fx [] ⟨[tP 0 1000000, tI 1 u6d, tP 4 4], [bC 4 GSign.z, (1000000, .cells (GParser.k2 vd) (GParser.h2_9f vd))], []⟩ ?_
    refine Wc.skip ?_
    apply Wc.seq
    obtain ⟨u96, h709, h⟩ := Z0 h
    refine Wc.draw hmix [{}, {}, {}, {}, {}, {}, {}, {}, {}, {}, { v := some (.vptr (GSign.q u96)) }] [] [4] [4, 1000000] [] ⟨[tP 4 4], [bC 4 (GSign.q u96), (1000000, .cells (GParser.k2 vd) (GParser.h2_9f vd))], []⟩ _ (by kernel_rfl) (fun X => by kernel_rfl) (.cons (Z19 (c := GSign.c) (GSign.c_eq u96) GSign.c_len h709) (.cons (Z18 5 (GSign.q u96)) .nil)) ?_
    cases h; exact Wc.ret dn

def Z9y (k : Nat) (ub : ByteArray) (uc9 : Bool) : Option (GOp × Bool) :=
  if uc9 = true then
    some (GOp.mk ub 500 500 499, true)
  else
    if (sEq ub (bs [42])) = true then
      if (sEq ub (bs [42])) = true then
        some (GOp.mk ub 400 400 399, true)
      else
        some (GOp.mk (bs []) 0 0 0, false)
    else
      if (sEq ub (bs [47, 47])) = true then
        some (GOp.mk ub 400 400 399, true)
      else
        some (GOp.mk (bs []) 0 0 0, false)
def Z4m (k : Nat) (ub : ByteArray) (uca : Bool) : Option (GOp × Bool) :=
  if uca = true then
    some (GOp.mk ub 700 699 699, true)
  else
    if (sEq ub (bs [43])) = true then
      Z9y k ub (sEq ub (bs [43]))
    else
      Z9y k ub (sEq ub (bs [45]))
def Z9z (k : Nat) (ub : ByteArray) (ucb : Bool) : Option (GOp × Bool) :=
  if ucb = true then
    some (GOp.mk ub 1200 1199 1199, true)
  else
    if (sEq ub (bs [59])) = true then
      some (GOp.mk ub 1100 1099 1100, true)
    else
      if (sEq ub (bs [45, 62])) = true then
        some (GOp.mk ub 1050 1049 1050, true)
      else
        if (sEq ub (bs [44])) = true then
          some (GOp.mk ub 1000 999 1000, true)
        else
          if (sEq ub (bs [61])) = true then
            Z4m k ub (sEq ub (bs [61]))
          else
            if (sEq ub (bs [92, 61])) = true then
              Z4m k ub (sEq ub (bs [92, 61]))
            else
              if (sEq ub (bs [61, 61])) = true then
                Z4m k ub (sEq ub (bs [61, 61]))
              else
                if (sEq ub (bs [105, 115])) = true then
                  Z4m k ub (sEq ub (bs [105, 115]))
                else
                  if (sEq ub (bs [60])) = true then
                    Z4m k ub (sEq ub (bs [60]))
                  else
                    Z4m k ub (sEq ub (bs [61, 58, 61]))
def Z66 (k : Nat) (ub : ByteArray) : Option (GOp × Bool) :=
  if (sEq ub (bs [58, 45])) = true then
    Z9z k ub (sEq ub (bs [58, 45]))
  else
    Z9z k ub (sEq ub (bs [45, 45, 62]))
set_option maxHeartbeats 4000000 in
theorem Zbh {k : Nat} {ub : ByteArray} {r : GOp × Bool} (h : Z66 k ub = some r) : FnO Tryz.prog 85 [.v (.str ub) []] (.v (.tup [.agg (GOp.q r.1), .bool r.2]) []) [] := by
  refine FnO.o2 Tryz.func85 (rfl : Tryz.f85.body = some _) ?_
  intro w0 X0 Fin pv0 pb gt
  unfold Z66 at h
  apply Wc.seq
  refine Wc.r0 ⟨[tS 0 ub, tP 2 2], [bC 2 GOp.z], []⟩ ?_
  apply Wc.seq
  apply Wc.seq
  refine Wc.r0 ⟨[tS 0 ub, tP 2 2, tS 4 ub], [bC 2 GOp.z], []⟩ ?_
  refine Wc.block ?_
  refine Wc.seqJ (fun st => ∃ (ucb : Bool), st = ⟨[tS 0 ub, tP 2 2, tS 4 ub, tB 5 ucb], [bC 2 GOp.z], []⟩ ∧ Z9z k ub ucb = some r) ?_ ?_
  · apply Wc.seq
    refine Wc.r0 ⟨[tS 0 ub, tP 2 2, tS 4 ub, tB 5 (sEq ub (bs [58, 45]))], [bC 2 GOp.z], []⟩ ?_
    rcases oif h with ⟨h725, h⟩ | ⟨h725, h⟩
    · refine Wc.cT h725 ?_
      refine Wc.skip ?_
      exact ⟨_, rfl, h⟩
    · refine Wc.cF h725 ?_
      refine Wc.r0 ⟨[tS 0 ub, tP 2 2, tS 4 ub, tB 5 (sEq ub (bs [45, 45, 62]))], [bC 2 GOp.z], []⟩ ?_
      exact ⟨_, rfl, h⟩
  · rintro st ⟨ucb, rfl, h⟩
    rcases oif h with ⟨h710, h⟩ | ⟨h710, h⟩
    · refine Wc.cT h710 ?_
      apply Wc.seq
      refine Wc.r0 ⟨[tP 2 2, tB 3 true], [bC 2 [.str ub, aI 1200, aI 1199, aI 1199]], []⟩ ?_
      cases h; exact Wc.ret dn
    · refine Wc.cF h710 ?_
      apply Wc.seq
      refine Wc.r0 ⟨[tS 0 ub, tP 2 2, tS 4 ub, tB 10 (sEq ub (bs [59]))], [bC 2 GOp.z], []⟩ ?_
      rcases oif h with ⟨h711, h⟩ | ⟨h711, h⟩
      · refine Wc.cT h711 ?_
        apply Wc.seq
        refine Wc.r0 ⟨[tP 2 2, tB 3 true], [bC 2 [.str ub, aI 1100, aI 1099, aI 1100]], []⟩ ?_
        cases h; exact Wc.ret dn
      · refine Wc.cF h711 ?_
        apply Wc.seq
        refine Wc.r0 ⟨[tS 0 ub, tP 2 2, tS 4 ub, tB 14 (sEq ub (bs [45, 62]))], [bC 2 GOp.z], []⟩ ?_
        rcases oif h with ⟨h712, h⟩ | ⟨h712, h⟩
        · refine Wc.cT h712 ?_
          apply Wc.seq
          refine Wc.r0 ⟨[tP 2 2, tB 3 true], [bC 2 [.str ub, aI 1050, aI 1049, aI 1050]], []⟩ ?_
          cases h; exact Wc.ret dn
        · refine Wc.cF h712 ?_
          apply Wc.seq
          refine Wc.r0 ⟨[tS 0 ub, tP 2 2, tS 4 ub, tB 18 (sEq ub (bs [44]))], [bC 2 GOp.z], []⟩ ?_
          rcases oif h with ⟨h713, h⟩ | ⟨h713, h⟩
          · refine Wc.cT h713 ?_
            apply Wc.seq
            refine Wc.r0 ⟨[tP 2 2, tB 3 true], [bC 2 [.str ub, aI 1000, aI 999, aI 1000]], []⟩ ?_
            cases h; exact Wc.ret dn
          · refine Wc.cF h713 ?_
            refine Wc.seqJ (fun st => ∃ (uca : Bool), st = ⟨[tS 0 ub, tP 2 2, tS 4 ub, tB 22 uca], [bC 2 GOp.z], []⟩ ∧ Z4m k ub uca = some r) ?_ ?_
            · apply Wc.seq
              refine Wc.r0 ⟨[tS 0 ub, tP 2 2, tS 4 ub, tB 22 (sEq ub (bs [61]))], [bC 2 GOp.z], []⟩ ?_
              rcases oif h with ⟨h720, h⟩ | ⟨h720, h⟩
              · refine Wc.cT h720 ?_
                refine Wc.skip ?_
                exact ⟨_, rfl, h⟩
              · refine Wc.cF h720 ?_
                apply Wc.seq
                refine Wc.r0 ⟨[tS 0 ub, tP 2 2, tS 4 ub, tB 22 (sEq ub (bs [92, 61]))], [bC 2 GOp.z], []⟩ ?_
                rcases oif h with ⟨h721, h⟩ | ⟨h721, h⟩
                · refine Wc.cT h721 ?_
                  refine Wc.skip ?_
                  exact ⟨_, rfl, h⟩
                · refine Wc.cF h721 ?_
                  apply Wc.seq
                  refine Wc.r0 ⟨[tS 0 ub, tP 2 2, tS 4 ub, tB 22 (sEq ub (bs [61, 61]))], [bC 2 GOp.z], []⟩ ?_
                  rcases oif h with ⟨h722, h⟩ | ⟨h722, h⟩
                  · refine Wc.cT h722 ?_
                    refine Wc.skip ?_
                    exact ⟨_, rfl, h⟩
                  · refine Wc.cF h722 ?_
                    apply Wc.seq
                    refine Wc.r0 ⟨[tS 0 ub, tP 2 2, tS 4 ub, tB 22 (sEq ub (bs [105, 115]))], [bC 2 GOp.z], []⟩ ?_
                    rcases oif h with ⟨h723, h⟩ | ⟨h723, h⟩
                    · refine Wc.cT h723 ?_
                      refine Wc.skip ?_
                      exact ⟨_, rfl, h⟩
                    · refine Wc.cF h723 ?_
                      apply Wc.seq
                      refine Wc.r0 ⟨[tS 0 ub, tP 2 2, tS 4 ub, tB 22 (sEq ub (bs [60]))], [bC 2 GOp.z], []⟩ ?_
                      rcases oif h with ⟨h724, h⟩ | ⟨h724, h⟩
                      · refine Wc.cT h724 ?_
                        refine Wc.skip ?_
                        exact ⟨_, rfl, h⟩
                      · refine Wc.cF h724 ?_
                        refine Wc.r0 ⟨[tS 0 ub, tP 2 2, tS 4 ub, tB 22 (sEq ub (bs [61, 58, 61]))], [bC 2 GOp.z], []⟩ ?_
                        exact ⟨_, rfl, h⟩
            · rintro st ⟨uca, rfl, h⟩
              rcases oif h with ⟨h714, h⟩ | ⟨h714, h⟩
              · refine Wc.cT h714 ?_
                apply Wc.seq
                refine Wc.r0 ⟨[tP 2 2, tB 3 true], [bC 2 [.str ub, aI 700, aI 699, aI 699]], []⟩ ?_
                cases h; exact Wc.ret dn
              · refine Wc.cF h714 ?_
                refine Wc.seqJ (fun st => ∃ (uc9 : Bool), st = ⟨[tS 0 ub, tP 2 2, tS 4 ub, tB 31 uc9], [bC 2 GOp.z], []⟩ ∧ Z9y k ub uc9 = some r) ?_ ?_
                · apply Wc.seq
                  refine Wc.r0 ⟨[tS 0 ub, tP 2 2, tS 4 ub, tB 31 (sEq ub (bs [43]))], [bC 2 GOp.z], []⟩ ?_
                  rcases oif h with ⟨h719, h⟩ | ⟨h719, h⟩
                  · refine Wc.cT h719 ?_
                    refine Wc.skip ?_
                    exact ⟨_, rfl, h⟩
                  · refine Wc.cF h719 ?_
                    refine Wc.r0 ⟨[tS 0 ub, tP 2 2, tS 4 ub, tB 31 (sEq ub (bs [45]))], [bC 2 GOp.z], []⟩ ?_
                    exact ⟨_, rfl, h⟩
                · rintro st ⟨uc9, rfl, h⟩
                  rcases oif h with ⟨h715, h⟩ | ⟨h715, h⟩
                  · refine Wc.cT h715 ?_
                    apply Wc.seq
                    refine Wc.r0 ⟨[tP 2 2, tB 3 true], [bC 2 [.str ub, aI 500, aI 500, aI 499]], []⟩ ?_
                    cases h; exact Wc.ret dn
                  · refine Wc.cF h715 ?_
                    apply Wc.seq
                    apply Wc.seq
                    refine Wc.r0 ⟨[tS 0 ub, tP 2 2, tS 4 ub, tB 36 (sEq ub (bs [42]))], [bC 2 GOp.z], []⟩ ?_
                    rcases oif h with ⟨h716, h⟩ | ⟨h716, h⟩
                    · refine Wc.cT h716 ?_
                      refine Wc.fx [] ⟨[tS 0 ub, tP 2 2, tB 36 (sEq ub (bs [42]))], [bC 2 GOp.z], []⟩ ?_
                      refine Wc.skip ?_
                      rcases oif h with ⟨h717, h⟩ | ⟨h717, h⟩
                      · refine Wc.cT h717 ?_
                        apply Wc.seq
                        refine Wc.r0 ⟨[tP 2 2, tB 3 true], [bC 2 [.str ub, aI 400, aI 400, aI 399]], []⟩ ?_
                        cases h; exact Wc.ret dn
                      · refine Wc.cF h717 ?_
                        refine Wc.fx [] ⟨[tP 2 2], [bC 2 GOp.z], []⟩ ?_
                        refine Wc.skip ?_
                        apply Wc.seq
                        refine Wc.r0 ⟨[tP 2 2, tB 3 false], [bC 2 GOp.z], []⟩ ?_
                        cases h; exact Wc.ret dn
                    · refine Wc.cF h716 ?_
                      refine Wc.r0 ⟨[tS 0 ub, tP 2 2, tB 36 (sEq ub (bs [47, 47]))], [bC 2 GOp.z], []⟩ ?_
                      rcases oif h with ⟨h718, h⟩ | ⟨h718, h⟩
                      · refine Wc.cT h718 ?_
                        apply Wc.seq
                        refine Wc.r0 ⟨[tP 2 2, tB 3 true], [bC 2 [.str ub, aI 400, aI 400, aI 399]], []⟩ ?_
                        cases h; exact Wc.ret dn
                      · refine Wc.cF h718 ?_
                        refine Wc.fx [] ⟨[tP 2 2], [bC 2 GOp.z], []⟩ ?_
                        refine Wc.skip ?_
                        apply Wc.seq
                        refine Wc.r0 ⟨[tP 2 2, tB 3 false], [bC 2 GOp.z], []⟩ ?_
                        cases h; exact Wc.ret dn

def Z3j (k : Nat) (u97 : ByteArray) (u98 : List GTerm) : Option GTerm :=
  some (GTerm.mk 4 u97 0 u98)
theorem Z7q {k : Nat} {u97 : ByteArray} {u98 : List GTerm} {r : GTerm} (h : Z3j k u97 u98 = some r) : FnO Tryz.prog 86 [.v (.str u97) [], .v (.sl (List.map GTerm.c u98)) []] (.v (.agg (GTerm.q r)) []) [] := by
  refine FnO.o2 Tryz.func86 (rfl : Tryz.f86.body = some _) ?_
  intro w0 X0 Fin pv0 pb gt
  unfold Z3j at h
  apply Wc.seq
  refine Wc.r0 ⟨[tS 0 u97, tV 1 (.sl (List.map GTerm.c u98)), tP 4 4], [bX0 4], []⟩ ?_
  apply Wc.seq
  refine Wc.r0 ⟨[tP 4 4], [bC 4 [aI 4, .str u97, aI 0, .sl (List.map GTerm.c u98)]], []⟩ ?_
  cases h; exact Wc.ret dn

def Z6y (k : Nat) (u0v : ByteArray) : Option (GOp × Bool) :=
  if (sEq u0v (bs [58, 45])) = true then
    some (GOp.mk u0v 1200 0 1199, true)
  else
    if (sEq u0v (bs [92, 43])) = true then
      some (GOp.mk u0v 900 0 900, true)
    else
      if (sEq u0v (bs [45])) = true then
        some (GOp.mk u0v 200 0 200, true)
      else
        some (GOp.mk (bs []) 0 0 0, false)
theorem Zgh {k : Nat} {u0v : ByteArray} {r : GOp × Bool} (h : Z6y k u0v = some r) : FnO Tryz.prog 103 [.v (.str u0v) []] (.v (.tup [.agg (GOp.q r.1), .bool r.2]) []) [] := by
  refine FnO.o2 Tryz.func103 (rfl : Tryz.f103.body = some _) ?_
  intro w0 X0 Fin pv0 pb gt
  unfold Z6y at h
  apply Wc.seq
  refine Wc.r0 ⟨[tS 0 u0v, tP 2 2], [bC 2 GOp.z], []⟩ ?_
  apply Wc.seq
  apply Wc.seq
  refine Wc.r0 ⟨[tS 0 u0v, tP 2 2, tS 4 u0v], [bC 2 GOp.z], []⟩ ?_
  refine Wc.block ?_
  apply Wc.seq
  refine Wc.r0 ⟨[tS 0 u0v, tP 2 2, tS 4 u0v, tB 5 (sEq u0v (bs [58, 45]))], [bC 2 GOp.z], []⟩ ?_
  rcases oif h with ⟨h726, h⟩ | ⟨h726, h⟩
  · refine Wc.cT h726 ?_
    apply Wc.seq
    refine Wc.r0 ⟨[tP 2 2, tB 3 true], [bC 2 [.str u0v, aI 1200, aI 0, aI 1199]], []⟩ ?_
    cases h; exact Wc.ret dn
  · refine Wc.cF h726 ?_
    apply Wc.seq
    refine Wc.r0 ⟨[tS 0 u0v, tP 2 2, tS 4 u0v, tB 9 (sEq u0v (bs [92, 43]))], [bC 2 GOp.z], []⟩ ?_
    rcases oif h with ⟨h727, h⟩ | ⟨h727, h⟩
    · refine Wc.cT h727 ?_
      apply Wc.seq
      refine Wc.r0 ⟨[tP 2 2, tB 3 true], [bC 2 [.str u0v, aI 900, aI 0, aI 900]], []⟩ ?_
      cases h; exact Wc.ret dn
    · refine Wc.cF h727 ?_
      apply Wc.seq
      refine Wc.r0 ⟨[tS 0 u0v, tP 2 2, tB 13 (sEq u0v (bs [45]))], [bC 2 GOp.z], []⟩ ?_
      rcases oif h with ⟨h728, h⟩ | ⟨h728, h⟩
      · refine Wc.cT h728 ?_
        apply Wc.seq
        refine Wc.r0 ⟨[tP 2 2, tB 3 true], [bC 2 [.str u0v, aI 200, aI 0, aI 200]], []⟩ ?_
        cases h; exact Wc.ret dn
      · refine Wc.cF h728 ?_
        refine Wc.fx [] ⟨[tP 2 2], [bC 2 GOp.z], []⟩ ?_
        refine Wc.skip ?_
        apply Wc.seq
        refine Wc.r0 ⟨[tP 2 2, tB 3 false], [bC 2 GOp.z], []⟩ ?_
        cases h; exact Wc.ret dn

def Zy (k : Nat) (u47 : GParser) (ucc : Int) (u7r : ByteArray) : Option (GParser × Bool) :=
  (Z2c k u47 ucc).bind fun zt =>
  if (zt.2.gKind == 4) = true then
    some (zt.1, sEq zt.2.gText u7r)
  else
    some (zt.1, false)
theorem Z23 {k : Nat} {u47 : GParser} {ucc : Int} {u7r : ByteArray} {r : GParser × Bool} (h : Zy k u47 ucc u7r = some r) : FnO Tryz.prog 106 [.p (GParser.k2 u47) (GParser.h2_9f u47), .v (aI ucc) [], .v (.str u7r) []] (.v (.bool r.2) []) [(0, .p (GParser.k2 r.1) (GParser.h2_9f r.1))] := by
  refine FnO.o2 Tryz.func106 (rfl : Tryz.f106.body = some _) ?_
  intro w0 X0 Fin pv0 pb gt
  unfold Zy at h
  apply Wc.seq
  refine Wc.r0 ⟨[tP 0 1000000, tI 1 ucc, tS 2 u7r], [(1000000, .cells (GParser.k2 u47) (GParser.h2_9f u47))], []⟩ ?_
  apply Wc.seq
  obtain ⟨zt, h729, h⟩ := Z0 h
  refine Wc.r2 [{}, {}, { r := some (.v (.agg (GSign.q zt.2)) []), outs := [(0, .p (GParser.k2 zt.1) (GParser.h2_9f zt.1))] }] ⟨[tS 2 u7r, tP 7 7], [bC 7 (GSign.q zt.2), (1000000, .cells (GParser.k2 zt.1) (GParser.h2_9f zt.1))], []⟩ (.cons (Z51 h729) .nil) ?_
  apply Wc.seq
  rcases oif h with ⟨h730, h⟩ | ⟨h730, h⟩
  · refine Wc.r2 [{}, {}, {}, rT] ⟨[tB 6 (sEq zt.2.gText u7r)], [(1000000, .cells (GParser.k2 zt.1) (GParser.h2_9f zt.1))], []⟩ (cb h730 .nil) ?_
    cases h; exact Wc.ret dn
  · refine Wc.r2 [{}, {}, {}, rF] ⟨[tB 6 false], [(1000000, .cells (GParser.k2 zt.1) (GParser.h2_9f zt.1))], []⟩ (cb h730 .nil) ?_
    cases h; exact Wc.ret dn

def Z2d (k : Nat) (u6v : GParser) (uf2 : ByteArray) : Option GParser :=
  (Zy k u6v 0 uf2).bind fun vj =>
  if (!vj.2) = true then
    some (GParser.mk vj.1.gList (wr.i64 (vj.1.gAt + 1)) vj.1.gNames vj.1.gDeep true)
  else
    some (GParser.mk vj.1.gList (wr.i64 (vj.1.gAt + 1)) vj.1.gNames vj.1.gDeep vj.1.gBad)
theorem Z5x {k : Nat} {u6v : GParser} {uf2 : ByteArray} {r : GParser} (h : Z2d k u6v uf2 = some r) : FnO Tryz.prog 104 [.p (GParser.k2 u6v) (GParser.h2_9f u6v), .v (.str uf2) []] (.v (.tup []) []) [(0, .p (GParser.k2 r) (GParser.h2_9f r))] := by
  refine FnO.o2 Tryz.func104 (rfl : Tryz.f104.body = some _) ?_
  intro w0 X0 Fin pv0 pb gt
  unfold Z2d at h
  apply Wc.seq
  apply Wc.seq
  obtain ⟨vj, h731, h⟩ := Z0 h
  refine Wc.r2 [{}, {}, { r := some (.v (.bool vj.2) []), outs := [(0, .p (GParser.k2 vj.1) (GParser.h2_9f vj.1))] }] ⟨[tP 0 1000000, tB 7 (!vj.2)], [(1000000, .cells (GParser.k2 vj.1) (GParser.h2_9f vj.1))], []⟩ (.cons (Z23 h731) .nil) ?_
  rcases oif h with ⟨h732, h⟩ | ⟨h732, h⟩
  · refine Wc.cT h732 ?_
    refine Wc.r0 ⟨[tP 0 1000000], [(1000000, .cells [.sl (List.map GSign.c vj.1.gList), aI vj.1.gAt, .slx, aI vj.1.gDeep, .bool true] (GParser.h2_9f vj.1))], []⟩ ?_
    refine Wc.r0 ⟨[], [(1000000, .cells [.sl (List.map GSign.c vj.1.gList), aI (wr.i64 (vj.1.gAt + 1)), .slx, aI vj.1.gDeep, .bool true] (GParser.h2_9f vj.1))], []⟩ ?_
    cases h
    exact ⟨(by first | exact .inl rfl | exact .inr rfl), by kernel_rfl, by kernel_rfl⟩
  · refine Wc.cF h732 ?_
    refine Wc.fx [] ⟨[tP 0 1000000], [(1000000, .cells (GParser.k2 vj.1) (GParser.h2_9f vj.1))], []⟩ ?_
    refine Wc.skip ?_
    refine Wc.r0 ⟨[], [(1000000, .cells [.sl (List.map GSign.c vj.1.gList), aI (wr.i64 (vj.1.gAt + 1)), .slx, aI vj.1.gDeep, .bool vj.1.gBad] (GParser.h2_9f vj.1))], []⟩ ?_
    cases h
    exact ⟨(by first | exact .inl rfl | exact .inr rfl), by kernel_rfl, by kernel_rfl⟩

def Z9x (k : Nat) (u99 : ByteArray) : Option GTerm :=
  some (GTerm.mk 2 u99 0 [])
theorem Zj6 {k : Nat} {u99 : ByteArray} {r : GTerm} (h : Z9x k u99 = some r) : FnO Tryz.prog 107 [.v (.str u99) []] (.v (.agg (GTerm.q r)) [(3, .app 29)]) [] := by
  refine FnO.o2 Tryz.func107 (rfl : Tryz.f107.body = some _) ?_
  intro w0 X0 Fin pv0 pb gt
  unfold Z9x at h
  apply Wc.seq
  refine Wc.r0 ⟨[tS 0 u99, tP 2 2], [bX0 2], []⟩ ?_
  apply Wc.seq
  refine Wc.r1 [{}, {}, { tk := [4] }] ⟨[tP 2 2], [(2, .cells [aI 2, .str u99, aI 0, .sl (List.map GTerm.c [])] [(3, .app 29)])], []⟩ ?_
  cases h; exact Wc.ret dn

def Z9a (k : Nat) (u9a : Int) : Option GTerm :=
  some (GTerm.mk 3 (bs []) u9a [])
theorem Zko {k : Nat} {u9a : Int} {r : GTerm} (h : Z9a k u9a = some r) : FnO Tryz.prog 109 [.v (aI u9a) []] (.v (.agg (GTerm.q r)) [(3, .app 29)]) [] := by
  refine FnO.o2 Tryz.func109 (rfl : Tryz.f109.body = some _) ?_
  intro w0 X0 Fin pv0 pb gt
  unfold Z9a at h
  apply Wc.seq
  refine Wc.r0 ⟨[tI 0 u9a, tP 2 2], [bX0 2], []⟩ ?_
  apply Wc.seq
  refine Wc.r1 [{}, {}, { tk := [4] }] ⟨[tP 2 2], [(2, .cells [aI 3, .str (bs []), aI u9a, .sl (List.map GTerm.c [])] [(3, .app 29)])], []⟩ ?_
  cases h; exact Wc.ret dn

def Zz (k : Nat) (zj : List ByteArray) (u23 : ByteArray) : Nat → Int → Option (Out Int Unit)
  | 0, _ => none
  | m + 1, u24 =>
    if (decide (u24 < (zj.length : Int))) = true then
      (at' zj u24).bind fun ucd =>
      if (sEq u23 ucd) = true then
        some (.ret u24)
      else
        Zz k zj u23 m (wr.i64 (u24 + 1))
    else
      some (.done ())
def Z28 (k : Nat) (zj : List ByteArray) (u23 : ByteArray) : Option Int :=
  (Zz k zj u23 k 0).bind fun out1 => match out1 with
  | .ret r => some r
  | .done () =>
    some (-1)
theorem Z7o {k : Nat} {zj : List ByteArray} {u23 : ByteArray} {r : Int} (h : Z28 k zj u23 = some r) : FnO Tryz.prog 123 [.v (.sl (List.map cS zj)) [], .v (.str u23) []] (.v (aI r) []) [] := by
  refine FnO.o2 Tryz.func123 (rfl : Tryz.f123.body = some _) ?_
  intro w0 X0 Fin pv0 pb gt
  unfold Z28 at h
  apply Wc.seq
  refine Wc.r0 ⟨[tV 0 (.sl (List.map cS zj)), tS 1 u23], [], []⟩ ?_
  apply Wc.seq
  apply Wc.seq
  refine Wc.r2 [{}, { v := some (aI (zj.length : Int)) }] ⟨[tV 0 (.sl (List.map cS zj)), tS 1 u23, tI 7 (zj.length : Int), tI 8 0], [], []⟩ (.cons (Zn cS zj) .nil) ?_
  obtain ⟨out1, h733, h⟩ := Z0 h
  refine Wc.lastJ (fun st => out1 = .done () ∧ st = ⟨[], [], []⟩) ?_ ?_
  · refine Wc.block ?_
    refine Wc.loop (fun m st => ∃ (u24 : Int), st = ⟨[tV 0 (.sl (List.map cS zj)), tS 1 u23, tI 7 (zj.length : Int), tI 8 u24], [], []⟩ ∧ Zz k zj u23 m u24 = some out1) ?_ k ⟨_, rfl, h733⟩
    rintro m st ⟨u24, rfl, h733⟩
    cases m with
    | zero => exact (Z1r h733).elim
    | succ m =>
      apply Wc.seq
      refine Wc.r0 ⟨[tV 0 (.sl (List.map cS zj)), tS 1 u23, tI 7 (zj.length : Int), tI 8 u24, tB 9 (decide (u24 < (zj.length : Int)))], [], []⟩ ?_
      apply Wc.seq
      rcases oif h733 with ⟨h734, h733⟩ | ⟨h734, h733⟩
      · refine Wc.cT h734 ?_
        refine Wc.fx [] ⟨[tV 0 (.sl (List.map cS zj)), tS 1 u23, tI 7 (zj.length : Int), tI 8 u24], [], []⟩ ?_
        refine Wc.skip ?_
        apply Wc.seq
        refine Wc.block ?_
        apply Wc.seq
        refine Wc.r0 ⟨[tV 0 (.sl (List.map cS zj)), tS 1 u23, tI 5 u24, tI 7 (zj.length : Int), tI 8 u24], [], []⟩ ?_
        apply Wc.seq
        obtain ⟨ucd, h735, h733⟩ := Z0 h733
        refine Wc.r2 [{}, {}, {}, { v := some (.vptr [.str ucd]) }] ⟨[tV 0 (.sl (List.map cS zj)), tS 1 u23, tI 5 u24, tI 7 (zj.length : Int), tI 8 u24, tB 16 (sEq u23 ucd)], [], []⟩ (.cons (Z19 (c := cS) rfl Zht h735) (.cons (Z18 1 [.str ucd]) .nil)) ?_
        rcases oif h733 with ⟨h736, h733⟩ | ⟨h736, h733⟩
        · refine Wc.cT h736 ?_
          apply Wc.seq
          refine Wc.r0 ⟨[tI 4 u24], [], []⟩ ?_
          refine Wc.ret ?_
          cases h733
          cases h
          exact ⟨.inl rfl, by kernel_rfl, by kernel_rfl⟩
        · refine Wc.cF h736 ?_
          refine Wc.fx [] ⟨[tV 0 (.sl (List.map cS zj)), tS 1 u23, tI 7 (zj.length : Int), tI 8 u24], [], []⟩ ?_
          refine Wc.skip ?_
          refine Wc.r0 ⟨[tV 0 (.sl (List.map cS zj)), tS 1 u23, tI 7 (zj.length : Int), tI 8 (wr.i64 (u24 + 1))], [], []⟩ ?_
          exact ⟨_, Nat.lt_succ_self _, _, rfl, h733⟩
      · refine Wc.cF h734 ?_
        refine Wc.fx [] ⟨[], [], []⟩ ?_
        refine Wc.exit ?_
        cases h733
        exact ⟨rfl, rfl⟩
  · rintro st ⟨rfl, rfl⟩
    apply Wc.seq
    refine Wc.r0 ⟨[tI 4 (-1)], [], []⟩ ?_
    cases h; exact Wc.ret dn

def Z6w (k : Nat) (u9b : Int) : Option GTerm :=
  some (GTerm.mk 1 (bs []) u9b [])
theorem Zgf {k : Nat} {u9b : Int} {r : GTerm} (h : Z6w k u9b = some r) : FnO Tryz.prog 124 [.v (aI u9b) []] (.v (.agg (GTerm.q r)) [(3, .app 29)]) [] := by
  refine FnO.o2 Tryz.func124 (rfl : Tryz.f124.body = some _) ?_
  intro w0 X0 Fin pv0 pb gt
  unfold Z6w at h
  apply Wc.seq
  refine Wc.r0 ⟨[tI 0 u9b, tP 2 2], [bX0 2], []⟩ ?_
  apply Wc.seq
  refine Wc.r1 [{}, {}, { tk := [4] }] ⟨[tP 2 2], [(2, .cells [aI 1, .str (bs []), aI u9b, .sl (List.map GTerm.c [])] [(3, .app 29)])], []⟩ ?_
  cases h; exact Wc.ret dn

def Z2i (k : Nat) (ui : GParser) (u0b : ByteArray) (u48 : Int) (uce : Bool) : Option (GParser × GTerm) :=
  if uce = true then
    if ui.gNames.length + [u0b].length ≤ 1073741824 then
      (Z6w k (ui.gNames.length : Int)).bind fun uf3 =>
      some (GParser.mk ui.gList ui.gAt (ui.gNames ++ [u0b]) ui.gDeep ui.gBad, uf3)
    else none
  else
    (Z6w k u48).bind fun uf4 =>
    some (ui, uf4)
def Z37 (k : Nat) (ui : GParser) (u0b : ByteArray) : Option (GParser × GTerm) :=
  (Z28 k ui.gNames u0b).bind fun u48 =>
  if (decide (u48 < 0)) = true then
    Z2i k ui u0b u48 true
  else
    Z2i k ui u0b u48 (sEq u0b (bs [95]))
theorem Zd6 {k : Nat} {ui : GParser} {u0b : ByteArray} {r : GParser × GTerm} (h : Z37 k ui u0b = some r) : FnO Tryz.prog 110 [.p (GParser.k2 ui) (GParser.h2_9f ui), .v (.str u0b) []] (.v (.agg (GTerm.q r.2)) [(3, .app 29)]) [(0, .p (GParser.k2 r.1) (GParser.h2_9f r.1))] := by
  refine FnO.o2 Tryz.func110 (rfl : Tryz.f110.body = some _) ?_
  intro w0 X0 Fin pv0 pb gt
  unfold Z37 at h
  apply Wc.seq
  refine Wc.r0 ⟨[tP 0 1000000, tS 1 u0b, tP 4 4], [bX0 4, (1000000, .cells (GParser.k2 ui) (GParser.h2_9f ui))], []⟩ ?_
  apply Wc.seq
  obtain ⟨u48, h743, h⟩ := Z0 h
  refine Wc.r2 [{}, {}, {}, {}, {}, { r := some (.v (aI u48) []) }] ⟨[tP 0 1000000, tS 1 u0b, tP 4 4, tI 5 u48], [bX0 4, (1000000, .cells (GParser.k2 ui) (GParser.h2_9f ui))], []⟩ (.cons (Z7o h743) .nil) ?_
  apply Wc.seq
  refine Wc.seqJ (fun st => ∃ (uce : Bool), st = ⟨[tP 0 1000000, tS 1 u0b, tP 4 4, tI 5 u48, tB 17 uce], [bX0 4, (1000000, .cells (GParser.k2 ui) (GParser.h2_9f ui))], []⟩ ∧ Z2i k ui u0b u48 uce = some r) ?_ ?_
  · rcases oif h with ⟨h748, h⟩ | ⟨h748, h⟩
    · refine Wc.r2 [{}, {}, rT] ⟨[tP 0 1000000, tS 1 u0b, tP 4 4, tI 5 u48, tB 17 true], [bX0 4, (1000000, .cells (GParser.k2 ui) (GParser.h2_9f ui))], []⟩ (cb h748 .nil) ?_
      exact ⟨_, rfl, h⟩
    · refine Wc.r2 [{}, {}, rF] ⟨[tP 0 1000000, tS 1 u0b, tP 4 4, tI 5 u48, tB 17 (sEq u0b (bs [95]))], [bX0 4, (1000000, .cells (GParser.k2 ui) (GParser.h2_9f ui))], []⟩ (cb h748 .nil) ?_
      exact ⟨_, rfl, h⟩
  · rintro st ⟨uce, rfl, h⟩
    rcases oif h with ⟨h744, h⟩ | ⟨h744, h⟩
    · refine Wc.cT h744 ?_
      apply Wc.seq
      refine Wc.r2 [{}, {}, {}, {}, { v := some (aI (ui.gNames.length : Int)) }] ⟨[tP 0 1000000, tS 1 u0b, tP 4 4, tI 5 (ui.gNames.length : Int)], [bX0 4, (1000000, .cells (GParser.k2 ui) (GParser.h2_9f ui))], []⟩ (.cons (Zn cS ui.gNames) .nil) ?_
      obtain ⟨h745, h⟩ := Zg h
      refine Wc.r2 [{}, {}, {}, {}, { md := 1 }, {}, { c := some (List.map cS [u0b]) }, { c := some (List.map cS (ui.gNames ++ [u0b])), tk := [27], md := 1 }, {}, {}, { tk := [30] }] ⟨[tP 4 4, tI 5 (ui.gNames.length : Int)], [bX0 4, (1000000, .cells (GParser.k2 ui) [(2, .ex 9 false (List.map cS (ui.gNames ++ [u0b])))])], []⟩ (.cons (Z3r (c := cS) (x := u0b) rfl (Z4g cS)) (.cons (Z75 cS ui.gNames [u0b]) (.cons (Z53 (c := cS) (ys := [u0b]) Zj7) (.cons (Z52 (c := cS) (xs := ui.gNames) (ys := [u0b]) Zht h745) .nil)))) ?_
      apply Wc.seq
      obtain ⟨uf3, h746, h⟩ := Z0 h
      refine Wc.r2 [{}, { r := some (.v (.agg (GTerm.q uf3)) [(3, .app 29)]) }, { tk := [34] }] ⟨[tP 4 4], [(4, .cells (GTerm.q uf3) [(3, .app 29)]), (1000000, .cells (GParser.k2 ui) [(2, .ex 9 false (List.map cS (ui.gNames ++ [u0b])))])], []⟩ (.cons (Zgf h746) .nil) ?_
      cases h; exact Wc.ret dn
    · refine Wc.cF h744 ?_
      refine Wc.fx [] ⟨[tP 4 4, tI 5 u48], [bX0 4, (1000000, .cells (GParser.k2 ui) (GParser.h2_9f ui))], []⟩ ?_
      refine Wc.skip ?_
      apply Wc.seq
      obtain ⟨uf4, h747, h⟩ := Z0 h
      refine Wc.r2 [{}, { r := some (.v (.agg (GTerm.q uf4)) [(3, .app 29)]) }, { tk := [34] }] ⟨[tP 4 4], [(4, .cells (GTerm.q uf4) [(3, .app 29)]), (1000000, .cells (GParser.k2 ui) (GParser.h2_9f ui))], []⟩ (.cons (Zgf h747) .nil) ?_
      cases h; exact Wc.ret dn
end Go.Proofs.YtkchjlmfonfjlaaGreatDoor

/- What the functions do, part 2. -/
import Derived.Test.YtipjloclobcpkaaGreatDoorFna
set_option linter.unusedVariables false
set_option linter.unusedSimpArgs false
namespace Go.Proofs.YtipjloclobcpkaaGreatDoor
open Go.RowKit Go.Bv
def pQ_l05Sign_L2 (k : Nat) (u2 : ByteArray) : Nat → Int → Int → Option (Out (GSign × Int) (Int × Int))
  | 0, _, _ => none
  | m + 1, z7, u09 =>
    if (decide (z7 < (u2.size : Int))) = true then
      if 0 ≤ z7 ∧ (z7).toNat < u2.size then
        (pQ_l05Figure k (bt u2 z7)).bind fun ubw =>
        if ubw = true then
          if (decide (u09 ≤ 999999999)) = true then
            if 0 ≤ z7 ∧ (z7).toNat < u2.size then
              pQ_l05Sign_L2 k u2 m (wr.i64 (z7 + 1)) (wr.i64 ((wr.i64 ((wr.i64 (10 * u09)) + (wr.i64 (bt u2 z7)))) - 48))
            else none
          else
            some (.done (z7, u09))
        else
          some (.done (z7, u09))
      else none
    else
      some (.done (z7, u09))
def pQ_l05Sign_L5 (k : Nat) (u2 : ByteArray) : Nat → Int → Option (Out (GSign × Int) Int)
  | 0, _ => none
  | m + 1, u0p =>
    if (decide (u0p < (u2.size : Int))) = true then
      if 0 ≤ u0p ∧ (u0p).toNat < u2.size then
        (pQ_SymbolByte k (bt u2 u0p)).bind fun ubx =>
        if ubx = true then
          pQ_l05Sign_L5 k u2 m (wr.i64 (u0p + 1))
        else
          some (.done u0p)
      else none
    else
      some (.done u0p)
def pQ_l05Sign_J4 (k : Nat) (u2 : ByteArray) (u0 : Int) (u8o : Bool) : Option (GSign × Int) :=
  if u8o = true then
    some (GSign.mk 4 (u2.extract (u0 : Int).toNat ((wr.i64 (u0 + 1)) : Int).toNat) 0 u0 false, wr.i64 (u0 + 1))
  else
    (pQ_l05End k u2 u0).bind fun uby =>
    if uby = true then
      some (GSign.mk 5 (u2.extract (u0 : Int).toNat ((wr.i64 (u0 + 1)) : Int).toNat) 0 u0 false, wr.i64 (u0 + 1))
    else
      (pQ_SymbolByte k (bt u2 u0)).bind fun ubz =>
      if ubz = true then
        (pQ_l05Sign_L5 k u2 k u0).bind fun out5 => match out5 with
        | .ret r => some r
        | .done u0e =>
          if (decide ((wr.i64 (u0e - u0)) ≤ 20)) = true then
            if 0 ≤ u0 ∧ u0 ≤ u0e ∧ u0e ≤ (u2.size : Int) then
              some (GSign.mk 1 (u2.extract (u0 : Int).toNat (u0e : Int).toNat) 0 u0 false, u0e)
            else none
          else
            some (GSign.mk 6 (u2.extract (u0 : Int).toNat ((wr.i64 (u0 + 1)) : Int).toNat) 0 u0 false, wr.i64 (u0 + 1))
      else
        some (GSign.mk 6 (u2.extract (u0 : Int).toNat ((wr.i64 (u0 + 1)) : Int).toNat) 0 u0 false, wr.i64 (u0 + 1))
def pQ_l05Sign_J3 (k : Nat) (u2 : ByteArray) (u0 : Int) (u8p : Bool) : Option (GSign × Int) :=
  if u8p = true then
    some (GSign.mk 1 (u2.extract (u0 : Int).toNat ((wr.i64 (u0 + 1)) : Int).toNat) 0 u0 false, wr.i64 (u0 + 1))
  else
    if ((bt u2 u0) == 40) = true then
      pQ_l05Sign_J4 k u2 u0 true
    else
      if ((bt u2 u0) == 41) = true then
        pQ_l05Sign_J4 k u2 u0 true
      else
        if ((bt u2 u0) == 91) = true then
          pQ_l05Sign_J4 k u2 u0 true
        else
          if ((bt u2 u0) == 93) = true then
            pQ_l05Sign_J4 k u2 u0 true
          else
            if ((bt u2 u0) == 44) = true then
              pQ_l05Sign_J4 k u2 u0 true
            else
              pQ_l05Sign_J4 k u2 u0 ((bt u2 u0) == 124)
def pQ_l05Sign_J1 (k : Nat) (u2 : ByteArray) (u0 : Int) (u8q : Bool) : Option (GSign × Int) :=
  if u8q = true then
    (pQ_l05Run k u2 u0).bind fun vj =>
    if (decide ((wr.i64 (vj - u0)) ≤ 20)) = true then
      (pQ_l05Great k (bt u2 u0)).bind fun uc0 =>
      if uc0 = true then
        if 0 ≤ u0 ∧ u0 ≤ vj ∧ vj ≤ (u2.size : Int) then
          some (GSign.mk 2 (u2.extract (u0 : Int).toNat (vj : Int).toNat) 0 u0 false, vj)
        else none
      else
        if 0 ≤ u0 ∧ u0 ≤ vj ∧ vj ≤ (u2.size : Int) then
          some (GSign.mk 1 (u2.extract (u0 : Int).toNat (vj : Int).toNat) 0 u0 false, vj)
        else none
    else
      some (GSign.mk 6 (u2.extract (u0 : Int).toNat ((wr.i64 (u0 + 1)) : Int).toNat) 0 u0 false, wr.i64 (u0 + 1))
  else
    (pQ_l05Figure k (bt u2 u0)).bind fun uc1 =>
    if uc1 = true then
      (pQ_l05Sign_L2 k u2 k u0 0).bind fun out2 => match out2 with
      | .ret r => some r
      | .done (u52, u3r) =>
        if (decide (u3r ≤ 999999999)) = true then
          some (GSign.mk 3 (bs []) u3r u0 false, u52)
        else
          some (GSign.mk 6 (u2.extract (u0 : Int).toNat ((wr.i64 (u0 + 1)) : Int).toNat) 0 u0 false, wr.i64 (u0 + 1))
    else
      if ((bt u2 u0) == 39) = true then
        (pQ_l05Quoted k u2 u0).bind fun u19 =>
        if (decide (u19 > 0)) = true then
          if 0 ≤ (wr.i64 (u0 + 1)) ∧ (wr.i64 (u0 + 1)) ≤ (wr.i64 (u19 - 1)) ∧ (wr.i64 (u19 - 1)) ≤ (u2.size : Int) then
            some (GSign.mk 1 (u2.extract ((wr.i64 (u0 + 1)) : Int).toNat ((wr.i64 (u19 - 1)) : Int).toNat) 0 u0 false, u19)
          else none
        else
          some (GSign.mk 6 (u2.extract (u0 : Int).toNat ((wr.i64 (u0 + 1)) : Int).toNat) 0 u0 false, wr.i64 (u0 + 1))
      else
        if ((bt u2 u0) == 33) = true then
          pQ_l05Sign_J3 k u2 u0 true
        else
          pQ_l05Sign_J3 k u2 u0 ((bt u2 u0) == 59)
def pQ_l05Sign (k : Nat) (u2 : ByteArray) (u0 : Int) : Option (GSign × Int) :=
  if 0 ≤ u0 ∧ (u0).toNat < u2.size then
    if 0 ≤ u0 ∧ u0 ≤ (wr.i64 (u0 + 1)) ∧ (wr.i64 (u0 + 1)) ≤ (u2.size : Int) then
      (pQ_l05Small k (bt u2 u0)).bind fun uc2 =>
      if uc2 = true then
        pQ_l05Sign_J1 k u2 u0 true
      else
        (pQ_l05Great k (bt u2 u0)).bind fun uc3 =>
        pQ_l05Sign_J1 k u2 u0 uc3
    else none
  else none
set_option maxHeartbeats 4000000 in
theorem cQ_l05Sign {k : Nat} {u2 : ByteArray} {u0 : Int} {r : GSign × Int} (h : pQ_l05Sign k u2 u0 = some r) : FnO Tryz.prog 96 [.v (.str u2) [], .v (aI u0) []] (.v (.tup [.agg (GSign.q r.1), aI r.2]) []) [] := by
  refine FnO.o2 Tryz.func96 (rfl : Tryz.f96.body = some _) ?_
  intro w0 X0 Fin pv0 pb gt
  unfold pQ_l05Sign at h
  apply Wc.seq
  refine Wc.r0 ⟨[tS 0 u2, tI 1 u0, tP 4 4], [bC 4 GSign.z], []⟩ ?_
  apply Wc.seq
  obtain ⟨h363, h⟩ := oguard h
  refine Wc.r2 [] ⟨[tS 0 u2, tI 1 u0, tP 4 4, tV 6 (.int .u8 (bt u2 u0))], [bC 4 GSign.z], []⟩ (.cons h363 .nil) ?_
  apply Wc.seq
  obtain ⟨h364, h⟩ := oguard h
  refine Wc.r2 [] ⟨[tS 0 u2, tI 1 u0, tP 4 4, tV 6 (.int .u8 (bt u2 u0)), tP 7 7], [bC 4 GSign.z, bC 7 [aI 6, .str (u2.extract (u0 : Int).toNat ((wr.i64 (u0 + 1)) : Int).toNat), aI 0, aI u0, .bool false]], []⟩ (.cons h364 .nil) ?_
  apply Wc.seq
  refine Wc.r0 ⟨[tS 0 u2, tI 1 u0, tP 4 4, tV 6 (.int .u8 (bt u2 u0)), tP 7 7, tI 8 (wr.i64 (u0 + 1))], [bC 4 GSign.z, bC 7 [aI 6, .str (u2.extract (u0 : Int).toNat ((wr.i64 (u0 + 1)) : Int).toNat), aI 0, aI u0, .bool false]], []⟩ ?_
  apply Wc.seq
  refine Wc.block ?_
  refine Wc.seqJ (fun st => ∃ (u8q : Bool), st = ⟨[tS 0 u2, tI 1 u0, tP 4 4, tV 6 (.int .u8 (bt u2 u0)), tP 7 7, tI 8 (wr.i64 (u0 + 1)), tB 26 u8q], [bC 4 GSign.z, bC 7 [aI 6, .str (u2.extract (u0 : Int).toNat ((wr.i64 (u0 + 1)) : Int).toNat), aI 0, aI u0, .bool false]], []⟩ ∧ pQ_l05Sign_J1 k u2 u0 u8q = some r) ?_ ?_
  · obtain ⟨uc2, h405, h⟩ := obind h
    rcases oif h with ⟨h406, h⟩ | ⟨h406, h⟩
    · refine Wc.r2 [{}, { r := some (.v (.bool uc2) []) }, { re := some (.bool true) }] ⟨[tS 0 u2, tI 1 u0, tP 4 4, tV 6 (.int .u8 (bt u2 u0)), tP 7 7, tI 8 (wr.i64 (u0 + 1)), tB 26 true], [bC 4 GSign.z, bC 7 [aI 6, .str (u2.extract (u0 : Int).toNat ((wr.i64 (u0 + 1)) : Int).toNat), aI 0, aI u0, .bool false]], []⟩ (.cons (cQ_l05Small h405) (.cons (congrArg AV.bool h406) .nil)) ?_
      exact ⟨_, rfl, h⟩
    · obtain ⟨uc3, h407, h⟩ := obind h
      refine Wc.r2 [{}, { r := some (.v (.bool uc2) []) }, { re := some (.bool false) }, {}, { r := some (.v (.bool uc3) []) }] ⟨[tS 0 u2, tI 1 u0, tP 4 4, tV 6 (.int .u8 (bt u2 u0)), tP 7 7, tI 8 (wr.i64 (u0 + 1)), tB 26 uc3], [bC 4 GSign.z, bC 7 [aI 6, .str (u2.extract (u0 : Int).toNat ((wr.i64 (u0 + 1)) : Int).toNat), aI 0, aI u0, .bool false]], []⟩ (.cons (cQ_l05Small h405) (.cons (congrArg AV.bool h406) (.cons (cQ_l05Great h407) .nil))) ?_
      exact ⟨_, rfl, h⟩
  · rintro st ⟨u8q, rfl, h⟩
    rcases oif h with ⟨h365, h⟩ | ⟨h365, h⟩
    · refine Wc.cT h365 ?_
      apply Wc.seq
      obtain ⟨vj, h366, h⟩ := obind h
      refine Wc.r2 [{}, {}, { r := some (.v (aI vj) []) }] ⟨[tS 0 u2, tI 1 u0, tP 4 4, tV 6 (.int .u8 (bt u2 u0)), tP 7 7, tI 8 (wr.i64 (u0 + 1)), tI 9 vj], [bC 4 GSign.z, bC 7 [aI 6, .str (u2.extract (u0 : Int).toNat ((wr.i64 (u0 + 1)) : Int).toNat), aI 0, aI u0, .bool false]], []⟩ (.cons (cQ_l05Run h366) .nil) ?_
      apply Wc.seq
      refine Wc.r0 ⟨[tS 0 u2, tI 1 u0, tP 4 4, tV 6 (.int .u8 (bt u2 u0)), tP 7 7, tI 8 (wr.i64 (u0 + 1)), tI 9 vj, tB 39 (decide ((wr.i64 (vj - u0)) ≤ 20))], [bC 4 GSign.z, bC 7 [aI 6, .str (u2.extract (u0 : Int).toNat ((wr.i64 (u0 + 1)) : Int).toNat), aI 0, aI u0, .bool false]], []⟩ ?_
      rcases oif h with ⟨h367, h⟩ | ⟨h367, h⟩
      · refine Wc.cT h367 ?_
        apply Wc.seq
        refine Wc.r0 ⟨[tS 0 u2, tI 1 u0, tP 4 4, tV 6 (.int .u8 (bt u2 u0)), tP 7 7, tI 9 vj], [bC 4 GSign.z, bC 7 [aI 1, .str (u2.extract (u0 : Int).toNat ((wr.i64 (u0 + 1)) : Int).toNat), aI 0, aI u0, .bool false]], []⟩ ?_
        apply Wc.seq
        apply Wc.seq
        obtain ⟨uc0, h368, h⟩ := obind h
        refine Wc.r2 [{}, { r := some (.v (.bool uc0) []) }] ⟨[tS 0 u2, tI 1 u0, tP 4 4, tP 7 7, tI 9 vj, tB 42 uc0], [bC 4 GSign.z, bC 7 [aI 1, .str (u2.extract (u0 : Int).toNat ((wr.i64 (u0 + 1)) : Int).toNat), aI 0, aI u0, .bool false]], []⟩ (.cons (cQ_l05Great h368) .nil) ?_
        rcases oif h with ⟨h369, h⟩ | ⟨h369, h⟩
        · refine Wc.cT h369 ?_
          refine Wc.r0 ⟨[tS 0 u2, tI 1 u0, tP 4 4, tP 7 7, tI 9 vj], [bC 4 GSign.z, bC 7 [aI 2, .str (u2.extract (u0 : Int).toNat ((wr.i64 (u0 + 1)) : Int).toNat), aI 0, aI u0, .bool false]], []⟩ ?_
          apply Wc.seq
          obtain ⟨h370, h⟩ := oguard h
          refine Wc.r2 [] ⟨[tP 4 4, tP 7 7, tI 9 vj], [bC 4 GSign.z, bC 7 [aI 2, .str (u2.extract (u0 : Int).toNat (vj : Int).toNat), aI 0, aI u0, .bool false]], []⟩ (.cons h370 .nil) ?_
          refine Wc.r0 ⟨[tP 4 4, tP 7 7, tI 8 vj], [bC 4 GSign.z, bC 7 [aI 2, .str (u2.extract (u0 : Int).toNat (vj : Int).toNat), aI 0, aI u0, .bool false]], []⟩ ?_
          apply Wc.seq
          refine Wc.r0 ⟨[tP 4 4, tI 5 vj], [bC 4 [aI 2, .str (u2.extract (u0 : Int).toNat (vj : Int).toNat), aI 0, aI u0, .bool false]], []⟩ ?_
          obtain rfl := oInj h; exact Wc.ret dn
        · refine Wc.cF h369 ?_
          refine Wc.fx [] ⟨[tS 0 u2, tI 1 u0, tP 4 4, tP 7 7, tI 9 vj], [bC 4 GSign.z, bC 7 [aI 1, .str (u2.extract (u0 : Int).toNat ((wr.i64 (u0 + 1)) : Int).toNat), aI 0, aI u0, .bool false]], []⟩ ?_
          refine Wc.skip ?_
          apply Wc.seq
          obtain ⟨h371, h⟩ := oguard h
          refine Wc.r2 [] ⟨[tP 4 4, tP 7 7, tI 9 vj], [bC 4 GSign.z, bC 7 [aI 1, .str (u2.extract (u0 : Int).toNat (vj : Int).toNat), aI 0, aI u0, .bool false]], []⟩ (.cons h371 .nil) ?_
          refine Wc.r0 ⟨[tP 4 4, tP 7 7, tI 8 vj], [bC 4 GSign.z, bC 7 [aI 1, .str (u2.extract (u0 : Int).toNat (vj : Int).toNat), aI 0, aI u0, .bool false]], []⟩ ?_
          apply Wc.seq
          refine Wc.r0 ⟨[tP 4 4, tI 5 vj], [bC 4 [aI 1, .str (u2.extract (u0 : Int).toNat (vj : Int).toNat), aI 0, aI u0, .bool false]], []⟩ ?_
          obtain rfl := oInj h; exact Wc.ret dn
      · refine Wc.cF h367 ?_
        refine Wc.fx [] ⟨[tP 4 4, tP 7 7, tI 8 (wr.i64 (u0 + 1))], [bC 4 GSign.z, bC 7 [aI 6, .str (u2.extract (u0 : Int).toNat ((wr.i64 (u0 + 1)) : Int).toNat), aI 0, aI u0, .bool false]], []⟩ ?_
        refine Wc.skip ?_
        apply Wc.seq
        refine Wc.r0 ⟨[tP 4 4, tI 5 (wr.i64 (u0 + 1))], [bC 4 [aI 6, .str (u2.extract (u0 : Int).toNat ((wr.i64 (u0 + 1)) : Int).toNat), aI 0, aI u0, .bool false]], []⟩ ?_
        obtain rfl := oInj h; exact Wc.ret dn
    · refine Wc.cF h365 ?_
      apply Wc.seq
      obtain ⟨uc1, h372, h⟩ := obind h
      refine Wc.r2 [{}, { r := some (.v (.bool uc1) []) }] ⟨[tS 0 u2, tI 1 u0, tP 4 4, tV 6 (.int .u8 (bt u2 u0)), tP 7 7, tI 8 (wr.i64 (u0 + 1)), tB 50 uc1], [bC 4 GSign.z, bC 7 [aI 6, .str (u2.extract (u0 : Int).toNat ((wr.i64 (u0 + 1)) : Int).toNat), aI 0, aI u0, .bool false]], []⟩ (.cons (cQ_l05Figure h372) .nil) ?_
      rcases oif h with ⟨h373, h⟩ | ⟨h373, h⟩
      · refine Wc.cT h373 ?_
        apply Wc.seq
        refine Wc.r0 ⟨[tS 0 u2, tI 1 u0, tP 4 4, tP 7 7, tI 8 (wr.i64 (u0 + 1)), tI 10 u0], [bC 4 GSign.z, bC 7 [aI 6, .str (u2.extract (u0 : Int).toNat ((wr.i64 (u0 + 1)) : Int).toNat), aI 0, aI u0, .bool false]], []⟩ ?_
        apply Wc.seq
        refine Wc.r0 ⟨[tS 0 u2, tI 1 u0, tP 4 4, tP 7 7, tI 8 (wr.i64 (u0 + 1)), tI 10 u0, tI 11 0], [bC 4 GSign.z, bC 7 [aI 6, .str (u2.extract (u0 : Int).toNat ((wr.i64 (u0 + 1)) : Int).toNat), aI 0, aI u0, .bool false]], []⟩ ?_
        obtain ⟨out2, h374, h⟩ := obind h
        refine Wc.seqJ (fun st => ∃ (u52 : Int) (u3r : Int), out2 = .done (u52, u3r) ∧ st = ⟨[tI 1 u0, tP 4 4, tP 7 7, tI 8 (wr.i64 (u0 + 1)), tI 10 u52, tI 11 u3r], [bC 4 GSign.z, bC 7 [aI 6, .str (u2.extract (u0 : Int).toNat ((wr.i64 (u0 + 1)) : Int).toNat), aI 0, aI u0, .bool false]], []⟩) ?_ ?_
        · refine Wc.block ?_
          refine Wc.loop (fun m st => ∃ (z7 : Int) (u09 : Int), st = ⟨[tS 0 u2, tI 1 u0, tP 4 4, tP 7 7, tI 8 (wr.i64 (u0 + 1)), tI 10 z7, tI 11 u09], [bC 4 GSign.z, bC 7 [aI 6, .str (u2.extract (u0 : Int).toNat ((wr.i64 (u0 + 1)) : Int).toNat), aI 0, aI u0, .bool false]], []⟩ ∧ pQ_l05Sign_L2 k u2 m z7 u09 = some out2) ?_ k ⟨_, _, rfl, h374⟩
          rintro m st ⟨z7, u09, rfl, h374⟩
          cases m with
          | zero => exact (onone h374).elim
          | succ m =>
            apply Wc.seq
            apply Wc.seq
            rcases oif h374 with ⟨h375, h374⟩ | ⟨h375, h374⟩
            · obtain ⟨h376, h374⟩ := oguard h374
              obtain ⟨ubw, h377, h374⟩ := obind h374
              rcases oif h374 with ⟨h378, h374⟩ | ⟨h378, h374⟩
              · refine Wc.r2 [{}, {}, {}, {}, { re := some (.bool true) }, {}, {}, {}, { r := some (.v (.bool ubw) []) }, {}, { re := some (.bool true) }] ⟨[tS 0 u2, tI 1 u0, tP 4 4, tP 7 7, tI 8 (wr.i64 (u0 + 1)), tI 10 z7, tI 11 u09, tB 67 (decide (u09 ≤ 999999999))], [bC 4 GSign.z, bC 7 [aI 6, .str (u2.extract (u0 : Int).toNat ((wr.i64 (u0 + 1)) : Int).toNat), aI 0, aI u0, .bool false]], []⟩ (.cons (congrArg AV.bool h375) (.cons h376 (.cons (cQ_l05Figure h377) (.cons (congrArg AV.bool h378) .nil)))) ?_
                rcases oif h374 with ⟨h379, h374⟩ | ⟨h379, h374⟩
                · refine Wc.cT h379 ?_
                  refine Wc.fx [] ⟨[tS 0 u2, tI 1 u0, tP 4 4, tP 7 7, tI 8 (wr.i64 (u0 + 1)), tI 10 z7, tI 11 u09], [bC 4 GSign.z, bC 7 [aI 6, .str (u2.extract (u0 : Int).toNat ((wr.i64 (u0 + 1)) : Int).toNat), aI 0, aI u0, .bool false]], []⟩ ?_
                  refine Wc.skip ?_
                  refine Wc.block ?_
                  apply Wc.seq
                  obtain ⟨h380, h374⟩ := oguard h374
                  refine Wc.r2 [] ⟨[tS 0 u2, tI 1 u0, tP 4 4, tP 7 7, tI 8 (wr.i64 (u0 + 1)), tI 10 z7, tI 11 (wr.i64 ((wr.i64 ((wr.i64 (10 * u09)) + (wr.i64 (bt u2 z7)))) - 48))], [bC 4 GSign.z, bC 7 [aI 6, .str (u2.extract (u0 : Int).toNat ((wr.i64 (u0 + 1)) : Int).toNat), aI 0, aI u0, .bool false]], []⟩ (.cons h380 .nil) ?_
                  refine Wc.r0 ⟨[tS 0 u2, tI 1 u0, tP 4 4, tP 7 7, tI 8 (wr.i64 (u0 + 1)), tI 10 (wr.i64 (z7 + 1)), tI 11 (wr.i64 ((wr.i64 ((wr.i64 (10 * u09)) + (wr.i64 (bt u2 z7)))) - 48))], [bC 4 GSign.z, bC 7 [aI 6, .str (u2.extract (u0 : Int).toNat ((wr.i64 (u0 + 1)) : Int).toNat), aI 0, aI u0, .bool false]], []⟩ ?_
                  exact ⟨_, Nat.lt_succ_self _, _, _, rfl, h374⟩
                · refine Wc.cF h379 ?_
                  refine Wc.fx [] ⟨[tI 1 u0, tP 4 4, tP 7 7, tI 8 (wr.i64 (u0 + 1)), tI 10 z7, tI 11 u09], [bC 4 GSign.z, bC 7 [aI 6, .str (u2.extract (u0 : Int).toNat ((wr.i64 (u0 + 1)) : Int).toNat), aI 0, aI u0, .bool false]], []⟩ ?_
                  refine Wc.exit ?_
                  obtain rfl := oInj h374
                  exact ⟨_, _, rfl, rfl⟩
              · refine Wc.r2 [{}, {}, {}, {}, { re := some (.bool true) }, {}, {}, {}, { r := some (.v (.bool ubw) []) }, {}, { re := some (.bool false) }] ⟨[tS 0 u2, tI 1 u0, tP 4 4, tP 7 7, tI 8 (wr.i64 (u0 + 1)), tI 10 z7, tI 11 u09, tB 67 false], [bC 4 GSign.z, bC 7 [aI 6, .str (u2.extract (u0 : Int).toNat ((wr.i64 (u0 + 1)) : Int).toNat), aI 0, aI u0, .bool false]], []⟩ (.cons (congrArg AV.bool h375) (.cons h376 (.cons (cQ_l05Figure h377) (.cons (congrArg AV.bool h378) .nil)))) ?_
                refine Wc.cF rfl ?_
                refine Wc.fx [] ⟨[tI 1 u0, tP 4 4, tP 7 7, tI 8 (wr.i64 (u0 + 1)), tI 10 z7, tI 11 u09], [bC 4 GSign.z, bC 7 [aI 6, .str (u2.extract (u0 : Int).toNat ((wr.i64 (u0 + 1)) : Int).toNat), aI 0, aI u0, .bool false]], []⟩ ?_
                refine Wc.exit ?_
                obtain rfl := oInj h374
                exact ⟨_, _, rfl, rfl⟩
            · refine Wc.r2 [{}, {}, {}, {}, { re := some (.bool false) }] ⟨[tS 0 u2, tI 1 u0, tP 4 4, tP 7 7, tI 8 (wr.i64 (u0 + 1)), tI 10 z7, tI 11 u09, tB 67 false], [bC 4 GSign.z, bC 7 [aI 6, .str (u2.extract (u0 : Int).toNat ((wr.i64 (u0 + 1)) : Int).toNat), aI 0, aI u0, .bool false]], []⟩ (.cons (congrArg AV.bool h375) .nil) ?_
              refine Wc.cF rfl ?_
              refine Wc.fx [] ⟨[tI 1 u0, tP 4 4, tP 7 7, tI 8 (wr.i64 (u0 + 1)), tI 10 z7, tI 11 u09], [bC 4 GSign.z, bC 7 [aI 6, .str (u2.extract (u0 : Int).toNat ((wr.i64 (u0 + 1)) : Int).toNat), aI 0, aI u0, .bool false]], []⟩ ?_
              refine Wc.exit ?_
              obtain rfl := oInj h374
              exact ⟨_, _, rfl, rfl⟩
        · rintro st ⟨u52, u3r, rfl, rfl⟩
          apply Wc.seq
          refine Wc.r0 ⟨[tI 1 u0, tP 4 4, tP 7 7, tI 8 (wr.i64 (u0 + 1)), tI 10 u52, tI 11 u3r, tB 79 (decide (u3r ≤ 999999999))], [bC 4 GSign.z, bC 7 [aI 6, .str (u2.extract (u0 : Int).toNat ((wr.i64 (u0 + 1)) : Int).toNat), aI 0, aI u0, .bool false]], []⟩ ?_
          rcases oif h with ⟨h381, h⟩ | ⟨h381, h⟩
          · refine Wc.cT h381 ?_
            apply Wc.seq
            refine Wc.r0 ⟨[tP 4 4, tI 5 u52], [bC 4 [aI 3, .str (bs []), aI u3r, aI u0, .bool false]], []⟩ ?_
            obtain rfl := oInj h; exact Wc.ret dn
          · refine Wc.cF h381 ?_
            refine Wc.fx [] ⟨[tP 4 4, tP 7 7, tI 8 (wr.i64 (u0 + 1))], [bC 4 GSign.z, bC 7 [aI 6, .str (u2.extract (u0 : Int).toNat ((wr.i64 (u0 + 1)) : Int).toNat), aI 0, aI u0, .bool false]], []⟩ ?_
            refine Wc.skip ?_
            apply Wc.seq
            refine Wc.r0 ⟨[tP 4 4, tI 5 (wr.i64 (u0 + 1))], [bC 4 [aI 6, .str (u2.extract (u0 : Int).toNat ((wr.i64 (u0 + 1)) : Int).toNat), aI 0, aI u0, .bool false]], []⟩ ?_
            obtain rfl := oInj h; exact Wc.ret dn
      · refine Wc.cF h373 ?_
        apply Wc.seq
        refine Wc.r0 ⟨[tS 0 u2, tI 1 u0, tP 4 4, tV 6 (.int .u8 (bt u2 u0)), tP 7 7, tI 8 (wr.i64 (u0 + 1)), tB 84 ((bt u2 u0) == 39)], [bC 4 GSign.z, bC 7 [aI 6, .str (u2.extract (u0 : Int).toNat ((wr.i64 (u0 + 1)) : Int).toNat), aI 0, aI u0, .bool false]], []⟩ ?_
        rcases oif h with ⟨h382, h⟩ | ⟨h382, h⟩
        · refine Wc.cT h382 ?_
          apply Wc.seq
          obtain ⟨u19, h383, h⟩ := obind h
          refine Wc.r2 [{}, {}, { r := some (.v (aI u19) []) }] ⟨[tS 0 u2, tI 1 u0, tP 4 4, tP 7 7, tI 8 (wr.i64 (u0 + 1)), tI 12 u19], [bC 4 GSign.z, bC 7 [aI 6, .str (u2.extract (u0 : Int).toNat ((wr.i64 (u0 + 1)) : Int).toNat), aI 0, aI u0, .bool false]], []⟩ (.cons (cQ_l05Quoted h383) .nil) ?_
          apply Wc.seq
          refine Wc.r0 ⟨[tS 0 u2, tI 1 u0, tP 4 4, tP 7 7, tI 8 (wr.i64 (u0 + 1)), tI 12 u19, tB 91 (decide (u19 > 0))], [bC 4 GSign.z, bC 7 [aI 6, .str (u2.extract (u0 : Int).toNat ((wr.i64 (u0 + 1)) : Int).toNat), aI 0, aI u0, .bool false]], []⟩ ?_
          rcases oif h with ⟨h384, h⟩ | ⟨h384, h⟩
          · refine Wc.cT h384 ?_
            apply Wc.seq
            obtain ⟨h385, h⟩ := oguard h
            refine Wc.r2 [] ⟨[tP 4 4, tP 7 7, tI 12 u19], [bC 4 GSign.z, bC 7 [aI 1, .str (u2.extract ((wr.i64 (u0 + 1)) : Int).toNat ((wr.i64 (u19 - 1)) : Int).toNat), aI 0, aI u0, .bool false]], []⟩ (.cons h385 .nil) ?_
            refine Wc.r0 ⟨[tP 4 4, tP 7 7, tI 8 u19], [bC 4 GSign.z, bC 7 [aI 1, .str (u2.extract ((wr.i64 (u0 + 1)) : Int).toNat ((wr.i64 (u19 - 1)) : Int).toNat), aI 0, aI u0, .bool false]], []⟩ ?_
            apply Wc.seq
            refine Wc.r0 ⟨[tP 4 4, tI 5 u19], [bC 4 [aI 1, .str (u2.extract ((wr.i64 (u0 + 1)) : Int).toNat ((wr.i64 (u19 - 1)) : Int).toNat), aI 0, aI u0, .bool false]], []⟩ ?_
            obtain rfl := oInj h; exact Wc.ret dn
          · refine Wc.cF h384 ?_
            refine Wc.fx [] ⟨[tP 4 4, tP 7 7, tI 8 (wr.i64 (u0 + 1))], [bC 4 GSign.z, bC 7 [aI 6, .str (u2.extract (u0 : Int).toNat ((wr.i64 (u0 + 1)) : Int).toNat), aI 0, aI u0, .bool false]], []⟩ ?_
            refine Wc.skip ?_
            apply Wc.seq
            refine Wc.r0 ⟨[tP 4 4, tI 5 (wr.i64 (u0 + 1))], [bC 4 [aI 6, .str (u2.extract (u0 : Int).toNat ((wr.i64 (u0 + 1)) : Int).toNat), aI 0, aI u0, .bool false]], []⟩ ?_
            obtain rfl := oInj h; exact Wc.ret dn
        · refine Wc.cF h382 ?_
          refine Wc.seqJ (fun st => ∃ (u8p : Bool), st = ⟨[tS 0 u2, tI 1 u0, tP 4 4, tV 6 (.int .u8 (bt u2 u0)), tP 7 7, tI 8 (wr.i64 (u0 + 1)), tB 101 u8p], [bC 4 GSign.z, bC 7 [aI 6, .str (u2.extract (u0 : Int).toNat ((wr.i64 (u0 + 1)) : Int).toNat), aI 0, aI u0, .bool false]], []⟩ ∧ pQ_l05Sign_J3 k u2 u0 u8p = some r) ?_ ?_
          · rcases oif h with ⟨h404, h⟩ | ⟨h404, h⟩
            · refine Wc.r2 [{}, {}, { re := some (.bool true) }] ⟨[tS 0 u2, tI 1 u0, tP 4 4, tV 6 (.int .u8 (bt u2 u0)), tP 7 7, tI 8 (wr.i64 (u0 + 1)), tB 101 true], [bC 4 GSign.z, bC 7 [aI 6, .str (u2.extract (u0 : Int).toNat ((wr.i64 (u0 + 1)) : Int).toNat), aI 0, aI u0, .bool false]], []⟩ (.cons (congrArg AV.bool h404) .nil) ?_
              exact ⟨_, rfl, h⟩
            · refine Wc.r2 [{}, {}, { re := some (.bool false) }] ⟨[tS 0 u2, tI 1 u0, tP 4 4, tV 6 (.int .u8 (bt u2 u0)), tP 7 7, tI 8 (wr.i64 (u0 + 1)), tB 101 ((bt u2 u0) == 59)], [bC 4 GSign.z, bC 7 [aI 6, .str (u2.extract (u0 : Int).toNat ((wr.i64 (u0 + 1)) : Int).toNat), aI 0, aI u0, .bool false]], []⟩ (.cons (congrArg AV.bool h404) .nil) ?_
              exact ⟨_, rfl, h⟩
          · rintro st ⟨u8p, rfl, h⟩
            rcases oif h with ⟨h386, h⟩ | ⟨h386, h⟩
            · refine Wc.cT h386 ?_
              refine Wc.r0 ⟨[tP 4 4, tP 7 7, tI 8 (wr.i64 (u0 + 1))], [bC 4 GSign.z, bC 7 [aI 1, .str (u2.extract (u0 : Int).toNat ((wr.i64 (u0 + 1)) : Int).toNat), aI 0, aI u0, .bool false]], []⟩ ?_
              apply Wc.seq
              refine Wc.r0 ⟨[tP 4 4, tI 5 (wr.i64 (u0 + 1))], [bC 4 [aI 1, .str (u2.extract (u0 : Int).toNat ((wr.i64 (u0 + 1)) : Int).toNat), aI 0, aI u0, .bool false]], []⟩ ?_
              obtain rfl := oInj h; exact Wc.ret dn
            · refine Wc.cF h386 ?_
              refine Wc.seqJ (fun st => ∃ (u8o : Bool), st = ⟨[tS 0 u2, tI 1 u0, tP 4 4, tV 6 (.int .u8 (bt u2 u0)), tP 7 7, tI 8 (wr.i64 (u0 + 1)), tB 109 u8o], [bC 4 GSign.z, bC 7 [aI 6, .str (u2.extract (u0 : Int).toNat ((wr.i64 (u0 + 1)) : Int).toNat), aI 0, aI u0, .bool false]], []⟩ ∧ pQ_l05Sign_J4 k u2 u0 u8o = some r) ?_ ?_
              · rcases oif h with ⟨h399, h⟩ | ⟨h399, h⟩
                · refine Wc.r2 [{}, {}, { re := some (.bool true) }] ⟨[tS 0 u2, tI 1 u0, tP 4 4, tV 6 (.int .u8 (bt u2 u0)), tP 7 7, tI 8 (wr.i64 (u0 + 1)), tB 109 true], [bC 4 GSign.z, bC 7 [aI 6, .str (u2.extract (u0 : Int).toNat ((wr.i64 (u0 + 1)) : Int).toNat), aI 0, aI u0, .bool false]], []⟩ (.cons (congrArg AV.bool h399) .nil) ?_
                  exact ⟨_, rfl, h⟩
                · rcases oif h with ⟨h400, h⟩ | ⟨h400, h⟩
                  · refine Wc.r2 [{}, {}, { re := some (.bool false) }, {}, {}, {}, { re := some (.bool true) }] ⟨[tS 0 u2, tI 1 u0, tP 4 4, tV 6 (.int .u8 (bt u2 u0)), tP 7 7, tI 8 (wr.i64 (u0 + 1)), tB 109 true], [bC 4 GSign.z, bC 7 [aI 6, .str (u2.extract (u0 : Int).toNat ((wr.i64 (u0 + 1)) : Int).toNat), aI 0, aI u0, .bool false]], []⟩ (.cons (congrArg AV.bool h399) (.cons (congrArg AV.bool h400) .nil)) ?_
                    exact ⟨_, rfl, h⟩
                  · rcases oif h with ⟨h401, h⟩ | ⟨h401, h⟩
                    · refine Wc.r2 [{}, {}, { re := some (.bool false) }, {}, {}, {}, { re := some (.bool false) }, {}, {}, {}, { re := some (.bool true) }] ⟨[tS 0 u2, tI 1 u0, tP 4 4, tV 6 (.int .u8 (bt u2 u0)), tP 7 7, tI 8 (wr.i64 (u0 + 1)), tB 109 true], [bC 4 GSign.z, bC 7 [aI 6, .str (u2.extract (u0 : Int).toNat ((wr.i64 (u0 + 1)) : Int).toNat), aI 0, aI u0, .bool false]], []⟩ (.cons (congrArg AV.bool h399) (.cons (congrArg AV.bool h400) (.cons (congrArg AV.bool h401) .nil))) ?_
                      exact ⟨_, rfl, h⟩
                    · rcases oif h with ⟨h402, h⟩ | ⟨h402, h⟩
                      · refine Wc.r2 [{}, {}, { re := some (.bool false) }, {}, {}, {}, { re := some (.bool false) }, {}, {}, {}, { re := some (.bool false) }, {}, {}, {}, { re := some (.bool true) }] ⟨[tS 0 u2, tI 1 u0, tP 4 4, tV 6 (.int .u8 (bt u2 u0)), tP 7 7, tI 8 (wr.i64 (u0 + 1)), tB 109 true], [bC 4 GSign.z, bC 7 [aI 6, .str (u2.extract (u0 : Int).toNat ((wr.i64 (u0 + 1)) : Int).toNat), aI 0, aI u0, .bool false]], []⟩ (.cons (congrArg AV.bool h399) (.cons (congrArg AV.bool h400) (.cons (congrArg AV.bool h401) (.cons (congrArg AV.bool h402) .nil)))) ?_
                        exact ⟨_, rfl, h⟩
                      · rcases oif h with ⟨h403, h⟩ | ⟨h403, h⟩
                        · refine Wc.r2 [{}, {}, { re := some (.bool false) }, {}, {}, {}, { re := some (.bool false) }, {}, {}, {}, { re := some (.bool false) }, {}, {}, {}, { re := some (.bool false) }, {}, {}, {}, { re := some (.bool true) }] ⟨[tS 0 u2, tI 1 u0, tP 4 4, tV 6 (.int .u8 (bt u2 u0)), tP 7 7, tI 8 (wr.i64 (u0 + 1)), tB 109 true], [bC 4 GSign.z, bC 7 [aI 6, .str (u2.extract (u0 : Int).toNat ((wr.i64 (u0 + 1)) : Int).toNat), aI 0, aI u0, .bool false]], []⟩ (.cons (congrArg AV.bool h399) (.cons (congrArg AV.bool h400) (.cons (congrArg AV.bool h401) (.cons (congrArg AV.bool h402) (.cons (congrArg AV.bool h403) .nil))))) ?_
                          exact ⟨_, rfl, h⟩
                        · refine Wc.r2 [{}, {}, { re := some (.bool false) }, {}, {}, {}, { re := some (.bool false) }, {}, {}, {}, { re := some (.bool false) }, {}, {}, {}, { re := some (.bool false) }, {}, {}, {}, { re := some (.bool false) }] ⟨[tS 0 u2, tI 1 u0, tP 4 4, tV 6 (.int .u8 (bt u2 u0)), tP 7 7, tI 8 (wr.i64 (u0 + 1)), tB 109 ((bt u2 u0) == 124)], [bC 4 GSign.z, bC 7 [aI 6, .str (u2.extract (u0 : Int).toNat ((wr.i64 (u0 + 1)) : Int).toNat), aI 0, aI u0, .bool false]], []⟩ (.cons (congrArg AV.bool h399) (.cons (congrArg AV.bool h400) (.cons (congrArg AV.bool h401) (.cons (congrArg AV.bool h402) (.cons (congrArg AV.bool h403) .nil))))) ?_
                          exact ⟨_, rfl, h⟩
              · rintro st ⟨u8o, rfl, h⟩
                rcases oif h with ⟨h387, h⟩ | ⟨h387, h⟩
                · refine Wc.cT h387 ?_
                  refine Wc.r0 ⟨[tP 4 4, tP 7 7, tI 8 (wr.i64 (u0 + 1))], [bC 4 GSign.z, bC 7 [aI 4, .str (u2.extract (u0 : Int).toNat ((wr.i64 (u0 + 1)) : Int).toNat), aI 0, aI u0, .bool false]], []⟩ ?_
                  apply Wc.seq
                  refine Wc.r0 ⟨[tP 4 4, tI 5 (wr.i64 (u0 + 1))], [bC 4 [aI 4, .str (u2.extract (u0 : Int).toNat ((wr.i64 (u0 + 1)) : Int).toNat), aI 0, aI u0, .bool false]], []⟩ ?_
                  obtain rfl := oInj h; exact Wc.ret dn
                · refine Wc.cF h387 ?_
                  apply Wc.seq
                  obtain ⟨uby, h388, h⟩ := obind h
                  refine Wc.r2 [{}, {}, { r := some (.v (.bool uby) []) }] ⟨[tS 0 u2, tI 1 u0, tP 4 4, tV 6 (.int .u8 (bt u2 u0)), tP 7 7, tI 8 (wr.i64 (u0 + 1)), tB 133 uby], [bC 4 GSign.z, bC 7 [aI 6, .str (u2.extract (u0 : Int).toNat ((wr.i64 (u0 + 1)) : Int).toNat), aI 0, aI u0, .bool false]], []⟩ (.cons (cQ_l05End h388) .nil) ?_
                  rcases oif h with ⟨h389, h⟩ | ⟨h389, h⟩
                  · refine Wc.cT h389 ?_
                    refine Wc.r0 ⟨[tP 4 4, tP 7 7, tI 8 (wr.i64 (u0 + 1))], [bC 4 GSign.z, bC 7 [aI 5, .str (u2.extract (u0 : Int).toNat ((wr.i64 (u0 + 1)) : Int).toNat), aI 0, aI u0, .bool false]], []⟩ ?_
                    apply Wc.seq
                    refine Wc.r0 ⟨[tP 4 4, tI 5 (wr.i64 (u0 + 1))], [bC 4 [aI 5, .str (u2.extract (u0 : Int).toNat ((wr.i64 (u0 + 1)) : Int).toNat), aI 0, aI u0, .bool false]], []⟩ ?_
                    obtain rfl := oInj h; exact Wc.ret dn
                  · refine Wc.cF h389 ?_
                    apply Wc.seq
                    obtain ⟨ubz, h390, h⟩ := obind h
                    refine Wc.r2 [{}, { r := some (.v (.bool ubz) []) }] ⟨[tS 0 u2, tI 1 u0, tP 4 4, tP 7 7, tI 8 (wr.i64 (u0 + 1)), tB 138 ubz], [bC 4 GSign.z, bC 7 [aI 6, .str (u2.extract (u0 : Int).toNat ((wr.i64 (u0 + 1)) : Int).toNat), aI 0, aI u0, .bool false]], []⟩ (.cons (cQ_SymbolByte h390) .nil) ?_
                    rcases oif h with ⟨h391, h⟩ | ⟨h391, h⟩
                    · refine Wc.cT h391 ?_
                      apply Wc.seq
                      refine Wc.r0 ⟨[tS 0 u2, tI 1 u0, tP 4 4, tP 7 7, tI 8 (wr.i64 (u0 + 1)), tI 13 u0], [bC 4 GSign.z, bC 7 [aI 6, .str (u2.extract (u0 : Int).toNat ((wr.i64 (u0 + 1)) : Int).toNat), aI 0, aI u0, .bool false]], []⟩ ?_
                      obtain ⟨out5, h392, h⟩ := obind h
                      refine Wc.seqJ (fun st => ∃ (u0e : Int), out5 = .done u0e ∧ st = ⟨[tS 0 u2, tI 1 u0, tP 4 4, tP 7 7, tI 8 (wr.i64 (u0 + 1)), tI 13 u0e], [bC 4 GSign.z, bC 7 [aI 6, .str (u2.extract (u0 : Int).toNat ((wr.i64 (u0 + 1)) : Int).toNat), aI 0, aI u0, .bool false]], []⟩) ?_ ?_
                      · refine Wc.block ?_
                        refine Wc.loop (fun m st => ∃ (u0p : Int), st = ⟨[tS 0 u2, tI 1 u0, tP 4 4, tP 7 7, tI 8 (wr.i64 (u0 + 1)), tI 13 u0p], [bC 4 GSign.z, bC 7 [aI 6, .str (u2.extract (u0 : Int).toNat ((wr.i64 (u0 + 1)) : Int).toNat), aI 0, aI u0, .bool false]], []⟩ ∧ pQ_l05Sign_L5 k u2 m u0p = some out5) ?_ k ⟨_, rfl, h392⟩
                        rintro m st ⟨u0p, rfl, h392⟩
                        cases m with
                        | zero => exact (onone h392).elim
                        | succ m =>
                          apply Wc.seq
                          apply Wc.seq
                          rcases oif h392 with ⟨h393, h392⟩ | ⟨h393, h392⟩
                          · obtain ⟨h394, h392⟩ := oguard h392
                            obtain ⟨ubx, h395, h392⟩ := obind h392
                            refine Wc.r2 [{}, {}, {}, {}, { re := some (.bool true) }, {}, {}, {}, { r := some (.v (.bool ubx) []) }] ⟨[tS 0 u2, tI 1 u0, tP 4 4, tP 7 7, tI 8 (wr.i64 (u0 + 1)), tI 13 u0p, tB 151 ubx], [bC 4 GSign.z, bC 7 [aI 6, .str (u2.extract (u0 : Int).toNat ((wr.i64 (u0 + 1)) : Int).toNat), aI 0, aI u0, .bool false]], []⟩ (.cons (congrArg AV.bool h393) (.cons h394 (.cons (cQ_SymbolByte h395) .nil))) ?_
                            rcases oif h392 with ⟨h396, h392⟩ | ⟨h396, h392⟩
                            · refine Wc.cT h396 ?_
                              refine Wc.fx [] ⟨[tS 0 u2, tI 1 u0, tP 4 4, tP 7 7, tI 8 (wr.i64 (u0 + 1)), tI 13 u0p], [bC 4 GSign.z, bC 7 [aI 6, .str (u2.extract (u0 : Int).toNat ((wr.i64 (u0 + 1)) : Int).toNat), aI 0, aI u0, .bool false]], []⟩ ?_
                              refine Wc.skip ?_
                              refine Wc.block ?_
                              refine Wc.r0 ⟨[tS 0 u2, tI 1 u0, tP 4 4, tP 7 7, tI 8 (wr.i64 (u0 + 1)), tI 13 (wr.i64 (u0p + 1))], [bC 4 GSign.z, bC 7 [aI 6, .str (u2.extract (u0 : Int).toNat ((wr.i64 (u0 + 1)) : Int).toNat), aI 0, aI u0, .bool false]], []⟩ ?_
                              exact ⟨_, Nat.lt_succ_self _, _, rfl, h392⟩
                            · refine Wc.cF h396 ?_
                              refine Wc.fx [] ⟨[tS 0 u2, tI 1 u0, tP 4 4, tP 7 7, tI 8 (wr.i64 (u0 + 1)), tI 13 u0p], [bC 4 GSign.z, bC 7 [aI 6, .str (u2.extract (u0 : Int).toNat ((wr.i64 (u0 + 1)) : Int).toNat), aI 0, aI u0, .bool false]], []⟩ ?_
                              refine Wc.exit ?_
                              obtain rfl := oInj h392
                              exact ⟨_, rfl, rfl⟩
                          · refine Wc.r2 [{}, {}, {}, {}, { re := some (.bool false) }] ⟨[tS 0 u2, tI 1 u0, tP 4 4, tP 7 7, tI 8 (wr.i64 (u0 + 1)), tI 13 u0p, tB 151 false], [bC 4 GSign.z, bC 7 [aI 6, .str (u2.extract (u0 : Int).toNat ((wr.i64 (u0 + 1)) : Int).toNat), aI 0, aI u0, .bool false]], []⟩ (.cons (congrArg AV.bool h393) .nil) ?_
                            refine Wc.cF rfl ?_
                            refine Wc.fx [] ⟨[tS 0 u2, tI 1 u0, tP 4 4, tP 7 7, tI 8 (wr.i64 (u0 + 1)), tI 13 u0p], [bC 4 GSign.z, bC 7 [aI 6, .str (u2.extract (u0 : Int).toNat ((wr.i64 (u0 + 1)) : Int).toNat), aI 0, aI u0, .bool false]], []⟩ ?_
                            refine Wc.exit ?_
                            obtain rfl := oInj h392
                            exact ⟨_, rfl, rfl⟩
                      · rintro st ⟨u0e, rfl, rfl⟩
                        apply Wc.seq
                        refine Wc.r0 ⟨[tS 0 u2, tI 1 u0, tP 4 4, tP 7 7, tI 8 (wr.i64 (u0 + 1)), tI 13 u0e, tB 157 (decide ((wr.i64 (u0e - u0)) ≤ 20))], [bC 4 GSign.z, bC 7 [aI 6, .str (u2.extract (u0 : Int).toNat ((wr.i64 (u0 + 1)) : Int).toNat), aI 0, aI u0, .bool false]], []⟩ ?_
                        rcases oif h with ⟨h397, h⟩ | ⟨h397, h⟩
                        · refine Wc.cT h397 ?_
                          apply Wc.seq
                          refine Wc.r0 ⟨[tS 0 u2, tI 1 u0, tP 4 4, tP 7 7, tI 13 u0e], [bC 4 GSign.z, bC 7 [aI 1, .str (u2.extract (u0 : Int).toNat ((wr.i64 (u0 + 1)) : Int).toNat), aI 0, aI u0, .bool false]], []⟩ ?_
                          apply Wc.seq
                          obtain ⟨h398, h⟩ := oguard h
                          refine Wc.r2 [] ⟨[tP 4 4, tP 7 7, tI 13 u0e], [bC 4 GSign.z, bC 7 [aI 1, .str (u2.extract (u0 : Int).toNat (u0e : Int).toNat), aI 0, aI u0, .bool false]], []⟩ (.cons h398 .nil) ?_
                          refine Wc.r0 ⟨[tP 4 4, tP 7 7, tI 8 u0e], [bC 4 GSign.z, bC 7 [aI 1, .str (u2.extract (u0 : Int).toNat (u0e : Int).toNat), aI 0, aI u0, .bool false]], []⟩ ?_
                          apply Wc.seq
                          refine Wc.r0 ⟨[tP 4 4, tI 5 u0e], [bC 4 [aI 1, .str (u2.extract (u0 : Int).toNat (u0e : Int).toNat), aI 0, aI u0, .bool false]], []⟩ ?_
                          obtain rfl := oInj h; exact Wc.ret dn
                        · refine Wc.cF h397 ?_
                          refine Wc.fx [] ⟨[tP 4 4, tP 7 7, tI 8 (wr.i64 (u0 + 1))], [bC 4 GSign.z, bC 7 [aI 6, .str (u2.extract (u0 : Int).toNat ((wr.i64 (u0 + 1)) : Int).toNat), aI 0, aI u0, .bool false]], []⟩ ?_
                          refine Wc.skip ?_
                          apply Wc.seq
                          refine Wc.r0 ⟨[tP 4 4, tI 5 (wr.i64 (u0 + 1))], [bC 4 [aI 6, .str (u2.extract (u0 : Int).toNat ((wr.i64 (u0 + 1)) : Int).toNat), aI 0, aI u0, .bool false]], []⟩ ?_
                          obtain rfl := oInj h; exact Wc.ret dn
                    · refine Wc.cF h391 ?_
                      refine Wc.fx [] ⟨[tP 4 4, tP 7 7, tI 8 (wr.i64 (u0 + 1))], [bC 4 GSign.z, bC 7 [aI 6, .str (u2.extract (u0 : Int).toNat ((wr.i64 (u0 + 1)) : Int).toNat), aI 0, aI u0, .bool false]], []⟩ ?_
                      refine Wc.skip ?_
                      apply Wc.seq
                      refine Wc.r0 ⟨[tP 4 4, tI 5 (wr.i64 (u0 + 1))], [bC 4 [aI 6, .str (u2.extract (u0 : Int).toNat ((wr.i64 (u0 + 1)) : Int).toNat), aI 0, aI u0, .bool false]], []⟩ ?_
                      obtain rfl := oInj h; exact Wc.ret dn

def pQ_SignsOf_L2 (k : Nat) (uh : ByteArray) : Nat → Int → Option (Out ((List GSign) × Bool) Int)
  | 0, _ => none
  | m + 1, u0f =>
    if (decide (u0f < (uh.size : Int))) = true then
      if 0 ≤ u0f ∧ (u0f).toNat < uh.size then
        if ((bt uh u0f) != 10) = true then
          pQ_SignsOf_L2 k uh m (wr.i64 (u0f + 1))
        else
          some (.done u0f)
      else none
    else
      some (.done u0f)
def pQ_SignsOf_L1 (k : Nat) (uh : ByteArray) : Nat → (List GSign) → Int → Option (Out ((List GSign) × Bool) (List GSign))
  | 0, _, _ => none
  | m + 1, v1, zj =>
    if (decide (zj < (uh.size : Int))) = true then
      if 0 ≤ zj ∧ (zj).toNat < uh.size then
        (pQ_l05Blank k (bt uh zj)).bind fun uc4 =>
        if uc4 = true then
          pQ_SignsOf_L1 k uh m v1 (wr.i64 (zj + 1))
        else
          if 0 ≤ zj ∧ (zj).toNat < uh.size then
            if ((bt uh zj) == 37) = true then
              (pQ_SignsOf_L2 k uh k zj).bind fun out2 => match out2 with
              | .ret r => some (.ret r)
              | .done u8r =>
                pQ_SignsOf_L1 k uh m v1 u8r
            else
              (pQ_l05Sign k uh zj).bind fun u6 =>
              if (decide (u6.2 < (uh.size : Int))) = true then
                if 0 ≤ u6.2 ∧ (u6.2).toNat < uh.size then
                  if v1.length + [GSign.mk u6.1.gKind u6.1.gText u6.1.gNum u6.1.gAt ((bt uh u6.2) == 40)].length ≤ 1073741824 then
                    pQ_SignsOf_L1 k uh m (v1 ++ [GSign.mk u6.1.gKind u6.1.gText u6.1.gNum u6.1.gAt ((bt uh u6.2) == 40)]) u6.2
                  else none
                else none
              else
                if v1.length + [GSign.mk u6.1.gKind u6.1.gText u6.1.gNum u6.1.gAt false].length ≤ 1073741824 then
                  pQ_SignsOf_L1 k uh m (v1 ++ [GSign.mk u6.1.gKind u6.1.gText u6.1.gNum u6.1.gAt false]) u6.2
                else none
          else none
      else none
    else
      some (.done v1)
def pQ_SignsOf (k : Nat) (uh : ByteArray) : Option ((List GSign) × Bool) :=
  if (decide ((uh.size : Int) > 3000)) = true then
    some ([], false)
  else
    (pQ_SignsOf_L1 k uh k [] 0).bind fun out1 => match out1 with
    | .ret r => some r
    | .done u6g =>
      some (u6g, true)
set_option maxHeartbeats 4000000 in
theorem cQ_SignsOf {k : Nat} {uh : ByteArray} {r : (List GSign) × Bool} (h : pQ_SignsOf k uh = some r) : FnO Tryz.prog 44 [.v (.str uh) []] (.v (.tup [.sl (List.map GSign.c r.1), .bool r.2]) [(0, .app 86)]) [] := by
  refine FnO.o2 Tryz.func44 (rfl : Tryz.f44.body = some _) ?_
  intro w0 X0 Fin pv0 pb gt
  unfold pQ_SignsOf at h
  apply Wc.seq
  refine Wc.r0 ⟨[tS 0 uh], [], []⟩ ?_
  apply Wc.seq
  refine Wc.r2 [{ c := some (List.map GSign.c []) }, { tk := [8] }] ⟨[tS 0 uh, (4, (.v (.sl (List.map GSign.c [])), [(0, .app 86)]))], [], []⟩ (.cons (cl_nil GSign.c) .nil) ?_
  apply Wc.seq
  apply Wc.seq
  refine Wc.r0 ⟨[tS 0 uh, (4, (.v (.sl (List.map GSign.c [])), [(0, .app 86)])), tB 11 (decide ((uh.size : Int) > 3000))], [], []⟩ ?_
  rcases oif h with ⟨h425, h⟩ | ⟨h425, h⟩
  · refine Wc.cT h425 ?_
    apply Wc.seq
    refine Wc.r1 [{ tk := [4] }, { tk := [12] }] ⟨[(2, (.v (.sl (List.map GSign.c [])), [(0, .app 86)])), tB 3 false], [], []⟩ ?_
    obtain rfl := oInj h; exact Wc.ret dn
  · refine Wc.cF h425 ?_
    refine Wc.fx [] ⟨[tS 0 uh, (4, (.v (.sl (List.map GSign.c [])), [(0, .app 86)]))], [], []⟩ ?_
    refine Wc.skip ?_
    apply Wc.seq
    refine Wc.r0 ⟨[tS 0 uh, (4, (.v (.sl (List.map GSign.c [])), [(0, .app 86)])), tI 5 0], [], []⟩ ?_
    obtain ⟨out1, h426, h⟩ := obind h
    refine Wc.seqJ (fun st => ∃ (u6g : List GSign), out1 = .done u6g ∧ st = ⟨[(4, (.v (.sl (List.map GSign.c u6g)), [(0, .app 86)]))], [], []⟩) ?_ ?_
    · refine Wc.block ?_
      refine Wc.loop (fun m st => ∃ (v1 : List GSign) (zj : Int), st = ⟨[tS 0 uh, (4, (.v (.sl (List.map GSign.c v1)), [(0, .app 86)])), tI 5 zj], [], []⟩ ∧ pQ_SignsOf_L1 k uh m v1 zj = some out1) ?_ k ⟨_, _, rfl, h426⟩
      rintro m st ⟨v1, zj, rfl, h426⟩
      cases m with
      | zero => exact (onone h426).elim
      | succ m =>
        apply Wc.seq
        apply Wc.seq
        refine Wc.r0 ⟨[tS 0 uh, (4, (.v (.sl (List.map GSign.c v1)), [(0, .app 86)])), tI 5 zj, tB 16 (decide (zj < (uh.size : Int)))], [], []⟩ ?_
        rcases oif h426 with ⟨h427, h426⟩ | ⟨h427, h426⟩
        · refine Wc.cT h427 ?_
          refine Wc.fx [] ⟨[tS 0 uh, (4, (.v (.sl (List.map GSign.c v1)), [(0, .app 86)])), tI 5 zj], [], []⟩ ?_
          refine Wc.skip ?_
          refine Wc.block ?_
          apply Wc.seq
          apply Wc.seq
          obtain ⟨h428, h426⟩ := oguard h426
          obtain ⟨uc4, h429, h426⟩ := obind h426
          refine Wc.r2 [{}, {}, {}, { r := some (.v (.bool uc4) []) }] ⟨[tS 0 uh, (4, (.v (.sl (List.map GSign.c v1)), [(0, .app 86)])), tI 5 zj, tB 20 uc4], [], []⟩ (.cons h428 (.cons (cQ_l05Blank h429) .nil)) ?_
          rcases oif h426 with ⟨h430, h426⟩ | ⟨h430, h426⟩
          · refine Wc.cT h430 ?_
            apply Wc.seq
            refine Wc.r0 ⟨[tS 0 uh, (4, (.v (.sl (List.map GSign.c v1)), [(0, .app 86)])), tI 5 (wr.i64 (zj + 1))], [], []⟩ ?_
            refine Wc.exit ?_
            exact ⟨_, Nat.lt_succ_self _, _, _, rfl, h426⟩
          · refine Wc.cF h430 ?_
            refine Wc.fx [] ⟨[tS 0 uh, (4, (.v (.sl (List.map GSign.c v1)), [(0, .app 86)])), tI 5 zj], [], []⟩ ?_
            refine Wc.skip ?_
            apply Wc.seq
            apply Wc.seq
            obtain ⟨h431, h426⟩ := oguard h426
            refine Wc.r2 [] ⟨[tS 0 uh, (4, (.v (.sl (List.map GSign.c v1)), [(0, .app 86)])), tI 5 zj, tB 26 ((bt uh zj) == 37)], [], []⟩ (.cons h431 .nil) ?_
            rcases oif h426 with ⟨h432, h426⟩ | ⟨h432, h426⟩
            · refine Wc.cT h432 ?_
              obtain ⟨out2, h433, h426⟩ := obind h426
              refine Wc.seqJ (fun st => ∃ (u8r : Int), out2 = .done u8r ∧ st = ⟨[tS 0 uh, (4, (.v (.sl (List.map GSign.c v1)), [(0, .app 86)])), tI 5 u8r], [], []⟩) ?_ ?_
              · refine Wc.block ?_
                refine Wc.fx [] ⟨[tS 0 uh, (4, (.v (.sl (List.map GSign.c v1)), [(0, .app 86)])), tI 5 zj], [], []⟩ ?_
                refine Wc.loop (fun m st => ∃ (u0f : Int), st = ⟨[tS 0 uh, (4, (.v (.sl (List.map GSign.c v1)), [(0, .app 86)])), tI 5 u0f], [], []⟩ ∧ pQ_SignsOf_L2 k uh m u0f = some out2) ?_ k ⟨_, rfl, h433⟩
                rintro m st ⟨u0f, rfl, h433⟩
                cases m with
                | zero => exact (onone h433).elim
                | succ m =>
                  apply Wc.seq
                  apply Wc.seq
                  rcases oif h433 with ⟨h434, h433⟩ | ⟨h434, h433⟩
                  · obtain ⟨h435, h433⟩ := oguard h433
                    refine Wc.r2 [{}, {}, {}, {}, { re := some (.bool true) }] ⟨[tS 0 uh, (4, (.v (.sl (List.map GSign.c v1)), [(0, .app 86)])), tI 5 u0f, tB 36 ((bt uh u0f) != 10)], [], []⟩ (.cons (congrArg AV.bool h434) (.cons h435 .nil)) ?_
                    rcases oif h433 with ⟨h436, h433⟩ | ⟨h436, h433⟩
                    · refine Wc.cT h436 ?_
                      refine Wc.fx [] ⟨[tS 0 uh, (4, (.v (.sl (List.map GSign.c v1)), [(0, .app 86)])), tI 5 u0f], [], []⟩ ?_
                      refine Wc.skip ?_
                      refine Wc.block ?_
                      refine Wc.r0 ⟨[tS 0 uh, (4, (.v (.sl (List.map GSign.c v1)), [(0, .app 86)])), tI 5 (wr.i64 (u0f + 1))], [], []⟩ ?_
                      exact ⟨_, Nat.lt_succ_self _, _, rfl, h433⟩
                    · refine Wc.cF h436 ?_
                      refine Wc.fx [] ⟨[tS 0 uh, (4, (.v (.sl (List.map GSign.c v1)), [(0, .app 86)])), tI 5 u0f], [], []⟩ ?_
                      refine Wc.exit ?_
                      obtain rfl := oInj h433
                      exact ⟨_, rfl, rfl⟩
                  · refine Wc.r2 [{}, {}, {}, {}, { re := some (.bool false) }] ⟨[tS 0 uh, (4, (.v (.sl (List.map GSign.c v1)), [(0, .app 86)])), tI 5 u0f, tB 36 false], [], []⟩ (.cons (congrArg AV.bool h434) .nil) ?_
                    refine Wc.cF rfl ?_
                    refine Wc.fx [] ⟨[tS 0 uh, (4, (.v (.sl (List.map GSign.c v1)), [(0, .app 86)])), tI 5 u0f], [], []⟩ ?_
                    refine Wc.exit ?_
                    obtain rfl := oInj h433
                    exact ⟨_, rfl, rfl⟩
              · rintro st ⟨u8r, rfl, rfl⟩
                refine Wc.exit ?_
                exact ⟨_, Nat.lt_succ_self _, _, _, rfl, h426⟩
            · refine Wc.cF h432 ?_
              refine Wc.fx [] ⟨[tS 0 uh, (4, (.v (.sl (List.map GSign.c v1)), [(0, .app 86)])), tI 5 zj], [], []⟩ ?_
              refine Wc.skip ?_
              apply Wc.seq
              obtain ⟨u6, h437, h426⟩ := obind h426
              refine Wc.r2 [{}, {}, { r := some (.v (.tup [.agg (GSign.q u6.1), aI u6.2]) []) }] ⟨[tS 0 uh, (4, (.v (.sl (List.map GSign.c v1)), [(0, .app 86)])), tP 6 6, tI 7 u6.2], [bC 6 (GSign.q u6.1)], []⟩ (.cons (cQ_l05Sign h437) .nil) ?_
              apply Wc.seq
              rcases oif h426 with ⟨h438, h426⟩ | ⟨h438, h426⟩
              · obtain ⟨h439, h426⟩ := oguard h426
                refine Wc.r2 [{}, {}, {}, {}, { re := some (.bool true) }] ⟨[tS 0 uh, (4, (.v (.sl (List.map GSign.c v1)), [(0, .app 86)])), tP 6 6, tI 7 u6.2], [bC 6 [aI u6.1.gKind, .str u6.1.gText, aI u6.1.gNum, aI u6.1.gAt, .bool ((bt uh u6.2) == 40)]], []⟩ (.cons (congrArg AV.bool h438) (.cons h439 .nil)) ?_
                apply Wc.seq
                obtain ⟨h440, h426⟩ := oguard h426
                refine Wc.r2 [{ tk := [4] }, {}, { c := some (List.map GSign.c [GSign.mk u6.1.gKind u6.1.gText u6.1.gNum u6.1.gAt ((bt uh u6.2) == 40)]) }, { c := some (List.map GSign.c (v1 ++ [GSign.mk u6.1.gKind u6.1.gText u6.1.gNum u6.1.gAt ((bt uh u6.2) == 40)])), tk := [56] }, { tk := [59] }] ⟨[tS 0 uh, (4, (.v (.sl (List.map GSign.c (v1 ++ [GSign.mk u6.1.gKind u6.1.gText u6.1.gNum u6.1.gAt ((bt uh u6.2) == 40)]))), [(0, .app 86)])), tI 7 u6.2], [], []⟩ (.cons (cl_cons (c := GSign.c) (x := GSign.mk u6.1.gKind u6.1.gText u6.1.gNum u6.1.gAt ((bt uh u6.2) == 40)) (GSign.c_eq (GSign.mk u6.1.gKind u6.1.gText u6.1.gNum u6.1.gAt ((bt uh u6.2) == 40))) (cl_nil GSign.c)) (.cons (app_re2 GSign.c v1 [GSign.mk u6.1.gKind u6.1.gText u6.1.gNum u6.1.gAt ((bt uh u6.2) == 40)]) (.cons (app_leaf (c := GSign.c) (ys := [GSign.mk u6.1.gKind u6.1.gText u6.1.gNum u6.1.gAt ((bt uh u6.2) == 40)]) GSign.c_leaf) (.cons (app_obl2 (c := GSign.c) (xs := v1) (ys := [GSign.mk u6.1.gKind u6.1.gText u6.1.gNum u6.1.gAt ((bt uh u6.2) == 40)]) GSign.c_len h440) .nil)))) ?_
                refine Wc.r0 ⟨[tS 0 uh, (4, (.v (.sl (List.map GSign.c (v1 ++ [GSign.mk u6.1.gKind u6.1.gText u6.1.gNum u6.1.gAt ((bt uh u6.2) == 40)]))), [(0, .app 86)])), tI 5 u6.2], [], []⟩ ?_
                exact ⟨_, Nat.lt_succ_self _, _, _, rfl, h426⟩
              · refine Wc.r2 [{}, {}, {}, {}, { re := some (.bool false) }] ⟨[tS 0 uh, (4, (.v (.sl (List.map GSign.c v1)), [(0, .app 86)])), tP 6 6, tI 7 u6.2], [bC 6 [aI u6.1.gKind, .str u6.1.gText, aI u6.1.gNum, aI u6.1.gAt, .bool false]], []⟩ (.cons (congrArg AV.bool h438) .nil) ?_
                apply Wc.seq
                obtain ⟨h441, h426⟩ := oguard h426
                refine Wc.r2 [{ tk := [4] }, {}, { c := some (List.map GSign.c [GSign.mk u6.1.gKind u6.1.gText u6.1.gNum u6.1.gAt false]) }, { c := some (List.map GSign.c (v1 ++ [GSign.mk u6.1.gKind u6.1.gText u6.1.gNum u6.1.gAt false])), tk := [56] }, { tk := [59] }] ⟨[tS 0 uh, (4, (.v (.sl (List.map GSign.c (v1 ++ [GSign.mk u6.1.gKind u6.1.gText u6.1.gNum u6.1.gAt false]))), [(0, .app 86)])), tI 7 u6.2], [], []⟩ (.cons (cl_cons (c := GSign.c) (x := GSign.mk u6.1.gKind u6.1.gText u6.1.gNum u6.1.gAt false) (GSign.c_eq (GSign.mk u6.1.gKind u6.1.gText u6.1.gNum u6.1.gAt false)) (cl_nil GSign.c)) (.cons (app_re2 GSign.c v1 [GSign.mk u6.1.gKind u6.1.gText u6.1.gNum u6.1.gAt false]) (.cons (app_leaf (c := GSign.c) (ys := [GSign.mk u6.1.gKind u6.1.gText u6.1.gNum u6.1.gAt false]) GSign.c_leaf) (.cons (app_obl2 (c := GSign.c) (xs := v1) (ys := [GSign.mk u6.1.gKind u6.1.gText u6.1.gNum u6.1.gAt false]) GSign.c_len h441) .nil)))) ?_
                refine Wc.r0 ⟨[tS 0 uh, (4, (.v (.sl (List.map GSign.c (v1 ++ [GSign.mk u6.1.gKind u6.1.gText u6.1.gNum u6.1.gAt false]))), [(0, .app 86)])), tI 5 u6.2], [], []⟩ ?_
                exact ⟨_, Nat.lt_succ_self _, _, _, rfl, h426⟩
        · refine Wc.cF h427 ?_
          refine Wc.fx [] ⟨[(4, (.v (.sl (List.map GSign.c v1)), [(0, .app 86)]))], [], []⟩ ?_
          refine Wc.exit ?_
          obtain rfl := oInj h426
          exact ⟨_, rfl, rfl⟩
    · rintro st ⟨u6g, rfl, rfl⟩
      apply Wc.seq
      refine Wc.r1 [{ tk := [4] }, { tk := [61] }] ⟨[(2, (.v (.sl (List.map GSign.c u6g)), [(0, .app 86)])), tB 3 true], [], []⟩ ?_
      obtain rfl := oInj h; exact Wc.ret dn

def pQ_l06Behind_L2 (k : Nat) (vc : List GSign) : Nat → Int → Option (Out Int Unit)
  | 0, _ => none
  | m + 1, u1i =>
    if (decide (u1i < (vc.length : Int))) = true then
      (at' vc (wr.i64 ((wr.i64 (u1i + 1)) - 1))).bind fun u6h =>
      if (u6h.gKind == 5) = true then
        some (.ret (wr.i64 (u1i + 1)))
      else
        pQ_l06Behind_L2 k vc m (wr.i64 (u1i + 1))
    else
      some (.done ())
def pQ_l06Behind_J1 (k : Nat) (vc : List GSign) (u8s : Int) : Option Int :=
  (pQ_l06Behind_L2 k vc k u8s).bind fun out2 => match out2 with
  | .ret r => some r
  | .done () =>
    some (vc.length : Int)
def pQ_l06Behind (k : Nat) (vc : List GSign) (u3s : Int) : Option Int :=
  if (decide (u3s < 0)) = true then
    pQ_l06Behind_J1 k vc 0
  else
    pQ_l06Behind_J1 k vc u3s
theorem cQ_l06Behind {k : Nat} {vc : List GSign} {u3s : Int} {r : Int} (h : pQ_l06Behind k vc u3s = some r) : FnO Tryz.prog 97 [.v (.sl (List.map GSign.c vc)) [], .v (aI u3s) []] (.v (aI r) []) [] := by
  refine FnO.o2 Tryz.func97 (rfl : Tryz.f97.body = some _) ?_
  intro w0 X0 Fin pv0 pb gt
  unfold pQ_l06Behind at h
  apply Wc.seq
  refine Wc.r0 ⟨[tV 0 (.sl (List.map GSign.c vc)), tI 1 u3s], [], []⟩ ?_
  refine Wc.seqJ (fun st => ∃ (u8s : Int), st = ⟨[tV 0 (.sl (List.map GSign.c vc)), tI 1 u8s], [], []⟩ ∧ pQ_l06Behind_J1 k vc u8s = some r) ?_ ?_
  · apply Wc.seq
    refine Wc.r0 ⟨[tV 0 (.sl (List.map GSign.c vc)), tI 1 u3s, tB 6 (decide (u3s < 0))], [], []⟩ ?_
    rcases oif h with ⟨h446, h⟩ | ⟨h446, h⟩
    · refine Wc.cT h446 ?_
      refine Wc.r0 ⟨[tV 0 (.sl (List.map GSign.c vc)), tI 1 0], [], []⟩ ?_
      exact ⟨_, rfl, h⟩
    · refine Wc.cF h446 ?_
      refine Wc.fx [] ⟨[tV 0 (.sl (List.map GSign.c vc)), tI 1 u3s], [], []⟩ ?_
      refine Wc.skip ?_
      exact ⟨_, rfl, h⟩
  · rintro st ⟨u8s, rfl, h⟩
    obtain ⟨out2, h442, h⟩ := obind h
    refine Wc.seqJ (fun st => out2 = .done () ∧ st = ⟨[tV 0 (.sl (List.map GSign.c vc))], [], []⟩) ?_ ?_
    · refine Wc.block ?_
      refine Wc.loop (fun m st => ∃ (u1i : Int), st = ⟨[tV 0 (.sl (List.map GSign.c vc)), tI 1 u1i], [], []⟩ ∧ pQ_l06Behind_L2 k vc m u1i = some out2) ?_ k ⟨_, rfl, h442⟩
      rintro m st ⟨u1i, rfl, h442⟩
      cases m with
      | zero => exact (onone h442).elim
      | succ m =>
        apply Wc.seq
        apply Wc.seq
        refine Wc.r2 [{}, {}, { v := some (aI (vc.length : Int)) }] ⟨[tV 0 (.sl (List.map GSign.c vc)), tI 1 u1i, tB 10 (decide (u1i < (vc.length : Int)))], [], []⟩ (.cons (len_obl GSign.c vc) .nil) ?_
        rcases oif h442 with ⟨h443, h442⟩ | ⟨h443, h442⟩
        · refine Wc.cT h443 ?_
          refine Wc.fx [] ⟨[tV 0 (.sl (List.map GSign.c vc)), tI 1 u1i], [], []⟩ ?_
          refine Wc.skip ?_
          refine Wc.block ?_
          apply Wc.seq
          refine Wc.r0 ⟨[tV 0 (.sl (List.map GSign.c vc)), tI 1 (wr.i64 (u1i + 1))], [], []⟩ ?_
          apply Wc.seq
          obtain ⟨u6h, h444, h442⟩ := obind h442
          refine Wc.r2 [{}, {}, {}, { v := some (.vptr (GSign.q u6h)) }] ⟨[tV 0 (.sl (List.map GSign.c vc)), tI 1 (wr.i64 (u1i + 1)), tB 19 (u6h.gKind == 5)], [], []⟩ (.cons (at_obl (c := GSign.c) (GSign.c_eq u6h) GSign.c_len h444) (.cons (len_ok 1 (GSign.q u6h)) .nil)) ?_
          rcases oif h442 with ⟨h445, h442⟩ | ⟨h445, h442⟩
          · refine Wc.cT h445 ?_
            apply Wc.seq
            refine Wc.r0 ⟨[tI 4 (wr.i64 (u1i + 1))], [], []⟩ ?_
            refine Wc.ret ?_
            obtain rfl := oInj h442
            obtain rfl := oInj h
            exact ⟨.inl rfl, by kernel_rfl, by kernel_rfl⟩
          · refine Wc.cF h445 ?_
            refine Wc.fx [] ⟨[tV 0 (.sl (List.map GSign.c vc)), tI 1 (wr.i64 (u1i + 1))], [], []⟩ ?_
            refine Wc.skip ?_
            exact ⟨_, Nat.lt_succ_self _, _, rfl, h442⟩
        · refine Wc.cF h443 ?_
          refine Wc.fx [] ⟨[tV 0 (.sl (List.map GSign.c vc))], [], []⟩ ?_
          refine Wc.exit ?_
          obtain rfl := oInj h442
          exact ⟨rfl, rfl⟩
    · rintro st ⟨rfl, rfl⟩
      apply Wc.seq
      refine Wc.r2 [{}, { v := some (aI (vc.length : Int)) }] ⟨[tI 4 (vc.length : Int)], [], []⟩ (.cons (len_obl GSign.c vc) .nil) ?_
      obtain rfl := oInj h; exact Wc.ret dn

def pQ_l06Read_is (k : Nat) (ul : GXr) (u8t : Int) (u53 : ByteArray) : Option (GXr × Bool) :=
  if (!ul.gBad) = true then
    if (decide (ul.gAt < (ul.gList.length : Int))) = true then
      (at' ul.gList ul.gAt).bind fun u2v =>
      if (u2v.gKind == u8t) = true then
        if (sEq u53 (bs [])) = true then
          some (ul, true)
        else
          (at' ul.gList ul.gAt).bind fun u3t =>
          some (ul, sEq u3t.gText u53)
      else
        some (ul, false)
    else
      some (ul, false)
  else
    some (ul, false)
theorem cQ_l06Read_is {k : Nat} {ul : GXr} {u8t : Int} {u53 : ByteArray} {r : GXr × Bool} (h : pQ_l06Read_is k ul u8t u53 = some r) : FnO Tryz.prog 100 [.p (GXr.k2 ul) (GXr.h4_9f ul), .v (aI u8t) [], .v (.str u53) []] (.v (.bool r.2) []) [(0, .p (GXr.k2 r.1) (GXr.h4_9f r.1))] := by
  refine FnO.o2 Tryz.func100 (rfl : Tryz.f100.body = some _) ?_
  intro w0 X0 Fin pv0 pb gt
  unfold pQ_l06Read_is at h
  apply Wc.seq
  refine Wc.r0 ⟨[tP 0 1000000, tI 1 u8t, tS 2 u53], [(1000000, .cells (GXr.k2 ul) (GXr.h4_9f ul))], []⟩ ?_
  apply Wc.seq
  rcases oif h with ⟨h447, h⟩ | ⟨h447, h⟩
  · rcases oif h with ⟨h448, h⟩ | ⟨h448, h⟩
    · obtain ⟨u2v, h449, h⟩ := obind h
      rcases oif h with ⟨h450, h⟩ | ⟨h450, h⟩
      · rcases oif h with ⟨h451, h⟩ | ⟨h451, h⟩
        · refine Wc.draw hmix [{}, {}, {}, {}, {}, { re := some (.bool true) }, {}, {}, {}, {}, {}, {}, {}, {}, { v := some (aI (ul.gList.length : Int)) }, {}, {}, { re := some (.bool true) }, {}, {}, {}, {}, {}, {}, {}, {}, { v := some (.vptr (GSign.q u2v)) }, {}, {}, {}, {}, {}, { re := some (.bool true) }, {}, {}, { re := some (.bool true) }] [] [6] [1000000] [] ⟨[tB 6 true], [(1000000, .cells (GXr.k2 ul) (GXr.h4_9f ul))], []⟩ _ (by kernel_rfl) (fun X => by kernel_rfl) (.cons (congrArg AV.bool h447) (.cons (len_obl GSign.c ul.gList) (.cons (congrArg AV.bool h448) (.cons (at_obl (c := GSign.c) (GSign.c_eq u2v) GSign.c_len h449) (.cons (len_ok 1 (GSign.q u2v)) (.cons (congrArg AV.bool h450) (.cons (congrArg AV.bool h451) .nil))))))) ?_
          obtain rfl := oInj h; exact Wc.ret dn
        · obtain ⟨u3t, h452, h⟩ := obind h
          refine Wc.draw hmix [{}, {}, {}, {}, {}, { re := some (.bool true) }, {}, {}, {}, {}, {}, {}, {}, {}, { v := some (aI (ul.gList.length : Int)) }, {}, {}, { re := some (.bool true) }, {}, {}, {}, {}, {}, {}, {}, {}, { v := some (.vptr (GSign.q u2v)) }, {}, {}, {}, {}, {}, { re := some (.bool true) }, {}, {}, { re := some (.bool false) }, {}, {}, {}, {}, {}, {}, {}, {}, { v := some (.vptr (GSign.q u3t)) }] [] [6] [1000000] [] ⟨[tB 6 (sEq u3t.gText u53)], [(1000000, .cells (GXr.k2 ul) (GXr.h4_9f ul))], []⟩ _ (by kernel_rfl) (fun X => by kernel_rfl) (.cons (congrArg AV.bool h447) (.cons (len_obl GSign.c ul.gList) (.cons (congrArg AV.bool h448) (.cons (at_obl (c := GSign.c) (GSign.c_eq u2v) GSign.c_len h449) (.cons (len_ok 1 (GSign.q u2v)) (.cons (congrArg AV.bool h450) (.cons (congrArg AV.bool h451) (.cons (at_obl (c := GSign.c) (GSign.c_eq u3t) GSign.c_len h452) (.cons (len_ok 1 [.str u3t.gText, aI u3t.gNum, aI u3t.gAt, .bool u3t.gNear]) .nil))))))))) ?_
          obtain rfl := oInj h; exact Wc.ret dn
      · refine Wc.draw hmix [{}, {}, {}, {}, {}, { re := some (.bool true) }, {}, {}, {}, {}, {}, {}, {}, {}, { v := some (aI (ul.gList.length : Int)) }, {}, {}, { re := some (.bool true) }, {}, {}, {}, {}, {}, {}, {}, {}, { v := some (.vptr (GSign.q u2v)) }, {}, {}, {}, {}, {}, { re := some (.bool false) }] [] [6] [1000000] [] ⟨[tB 6 false], [(1000000, .cells (GXr.k2 ul) (GXr.h4_9f ul))], []⟩ _ (by kernel_rfl) (fun X => by kernel_rfl) (.cons (congrArg AV.bool h447) (.cons (len_obl GSign.c ul.gList) (.cons (congrArg AV.bool h448) (.cons (at_obl (c := GSign.c) (GSign.c_eq u2v) GSign.c_len h449) (.cons (len_ok 1 (GSign.q u2v)) (.cons (congrArg AV.bool h450) .nil)))))) ?_
        obtain rfl := oInj h; exact Wc.ret dn
    · refine Wc.draw hmix [{}, {}, {}, {}, {}, { re := some (.bool true) }, {}, {}, {}, {}, {}, {}, {}, {}, { v := some (aI (ul.gList.length : Int)) }, {}, {}, { re := some (.bool false) }] [] [6] [1000000] [] ⟨[tB 6 false], [(1000000, .cells (GXr.k2 ul) (GXr.h4_9f ul))], []⟩ _ (by kernel_rfl) (fun X => by kernel_rfl) (.cons (congrArg AV.bool h447) (.cons (len_obl GSign.c ul.gList) (.cons (congrArg AV.bool h448) .nil))) ?_
      obtain rfl := oInj h; exact Wc.ret dn
  · refine Wc.draw hmix [{}, {}, {}, {}, {}, { re := some (.bool false) }] [] [6] [1000000] [] ⟨[tB 6 false], [(1000000, .cells (GXr.k2 ul) (GXr.h4_9f ul))], []⟩ _ (by kernel_rfl) (fun X => by kernel_rfl) (.cons (congrArg AV.bool h447) .nil) ?_
    obtain rfl := oInj h; exact Wc.ret dn

def pQ_InfixOf_J3 (k : Nat) (u8 : ByteArray) (u8u : Bool) : Option (GOp × Bool) :=
  if u8u = true then
    some (GOp.mk u8 500 500 499, true)
  else
    if (sEq u8 (bs [42])) = true then
      if (sEq u8 (bs [42])) = true then
        some (GOp.mk u8 400 400 399, true)
      else
        some (GOp.mk (bs []) 0 0 0, false)
    else
      if (sEq u8 (bs [47, 47])) = true then
        some (GOp.mk u8 400 400 399, true)
      else
        some (GOp.mk (bs []) 0 0 0, false)
def pQ_InfixOf_J2 (k : Nat) (u8 : ByteArray) (u8v : Bool) : Option (GOp × Bool) :=
  if u8v = true then
    some (GOp.mk u8 700 699 699, true)
  else
    if (sEq u8 (bs [43])) = true then
      pQ_InfixOf_J3 k u8 (sEq u8 (bs [43]))
    else
      pQ_InfixOf_J3 k u8 (sEq u8 (bs [45]))
def pQ_InfixOf_J1 (k : Nat) (u8 : ByteArray) (u8w : Bool) : Option (GOp × Bool) :=
  if u8w = true then
    some (GOp.mk u8 1200 1199 1199, true)
  else
    if (sEq u8 (bs [59])) = true then
      some (GOp.mk u8 1100 1099 1100, true)
    else
      if (sEq u8 (bs [45, 62])) = true then
        some (GOp.mk u8 1050 1049 1050, true)
      else
        if (sEq u8 (bs [44])) = true then
          some (GOp.mk u8 1000 999 1000, true)
        else
          if (sEq u8 (bs [61])) = true then
            pQ_InfixOf_J2 k u8 (sEq u8 (bs [61]))
          else
            if (sEq u8 (bs [92, 61])) = true then
              pQ_InfixOf_J2 k u8 (sEq u8 (bs [92, 61]))
            else
              if (sEq u8 (bs [61, 61])) = true then
                pQ_InfixOf_J2 k u8 (sEq u8 (bs [61, 61]))
              else
                if (sEq u8 (bs [105, 115])) = true then
                  pQ_InfixOf_J2 k u8 (sEq u8 (bs [105, 115]))
                else
                  if (sEq u8 (bs [60])) = true then
                    pQ_InfixOf_J2 k u8 (sEq u8 (bs [60]))
                  else
                    pQ_InfixOf_J2 k u8 (sEq u8 (bs [61, 58, 61]))
def pQ_InfixOf (k : Nat) (u8 : ByteArray) : Option (GOp × Bool) :=
  if (sEq u8 (bs [58, 45])) = true then
    pQ_InfixOf_J1 k u8 (sEq u8 (bs [58, 45]))
  else
    pQ_InfixOf_J1 k u8 (sEq u8 (bs [45, 45, 62]))
set_option maxHeartbeats 4000000 in
theorem cQ_InfixOf {k : Nat} {u8 : ByteArray} {r : GOp × Bool} (h : pQ_InfixOf k u8 = some r) : FnO Tryz.prog 108 [.v (.str u8) []] (.v (.tup [.agg (GOp.q r.1), .bool r.2]) []) [] := by
  refine FnO.o2 Tryz.func108 (rfl : Tryz.f108.body = some _) ?_
  intro w0 X0 Fin pv0 pb gt
  unfold pQ_InfixOf at h
  apply Wc.seq
  refine Wc.r0 ⟨[tS 0 u8, tP 2 2], [bC 2 GOp.z], []⟩ ?_
  apply Wc.seq
  apply Wc.seq
  refine Wc.r0 ⟨[tS 0 u8, tP 2 2, tS 4 u8], [bC 2 GOp.z], []⟩ ?_
  refine Wc.block ?_
  refine Wc.seqJ (fun st => ∃ (u8w : Bool), st = ⟨[tS 0 u8, tP 2 2, tS 4 u8, tB 5 u8w], [bC 2 GOp.z], []⟩ ∧ pQ_InfixOf_J1 k u8 u8w = some r) ?_ ?_
  · apply Wc.seq
    refine Wc.r0 ⟨[tS 0 u8, tP 2 2, tS 4 u8, tB 5 (sEq u8 (bs [58, 45]))], [bC 2 GOp.z], []⟩ ?_
    rcases oif h with ⟨h468, h⟩ | ⟨h468, h⟩
    · refine Wc.cT h468 ?_
      refine Wc.skip ?_
      exact ⟨_, rfl, h⟩
    · refine Wc.cF h468 ?_
      refine Wc.r0 ⟨[tS 0 u8, tP 2 2, tS 4 u8, tB 5 (sEq u8 (bs [45, 45, 62]))], [bC 2 GOp.z], []⟩ ?_
      exact ⟨_, rfl, h⟩
  · rintro st ⟨u8w, rfl, h⟩
    rcases oif h with ⟨h453, h⟩ | ⟨h453, h⟩
    · refine Wc.cT h453 ?_
      apply Wc.seq
      refine Wc.r0 ⟨[tP 2 2, tB 3 true], [bC 2 [.str u8, aI 1200, aI 1199, aI 1199]], []⟩ ?_
      obtain rfl := oInj h; exact Wc.ret dn
    · refine Wc.cF h453 ?_
      apply Wc.seq
      refine Wc.r0 ⟨[tS 0 u8, tP 2 2, tS 4 u8, tB 10 (sEq u8 (bs [59]))], [bC 2 GOp.z], []⟩ ?_
      rcases oif h with ⟨h454, h⟩ | ⟨h454, h⟩
      · refine Wc.cT h454 ?_
        apply Wc.seq
        refine Wc.r0 ⟨[tP 2 2, tB 3 true], [bC 2 [.str u8, aI 1100, aI 1099, aI 1100]], []⟩ ?_
        obtain rfl := oInj h; exact Wc.ret dn
      · refine Wc.cF h454 ?_
        apply Wc.seq
        refine Wc.r0 ⟨[tS 0 u8, tP 2 2, tS 4 u8, tB 14 (sEq u8 (bs [45, 62]))], [bC 2 GOp.z], []⟩ ?_
        rcases oif h with ⟨h455, h⟩ | ⟨h455, h⟩
        · refine Wc.cT h455 ?_
          apply Wc.seq
          refine Wc.r0 ⟨[tP 2 2, tB 3 true], [bC 2 [.str u8, aI 1050, aI 1049, aI 1050]], []⟩ ?_
          obtain rfl := oInj h; exact Wc.ret dn
        · refine Wc.cF h455 ?_
          apply Wc.seq
          refine Wc.r0 ⟨[tS 0 u8, tP 2 2, tS 4 u8, tB 18 (sEq u8 (bs [44]))], [bC 2 GOp.z], []⟩ ?_
          rcases oif h with ⟨h456, h⟩ | ⟨h456, h⟩
          · refine Wc.cT h456 ?_
            apply Wc.seq
            refine Wc.r0 ⟨[tP 2 2, tB 3 true], [bC 2 [.str u8, aI 1000, aI 999, aI 1000]], []⟩ ?_
            obtain rfl := oInj h; exact Wc.ret dn
          · refine Wc.cF h456 ?_
            refine Wc.seqJ (fun st => ∃ (u8v : Bool), st = ⟨[tS 0 u8, tP 2 2, tS 4 u8, tB 22 u8v], [bC 2 GOp.z], []⟩ ∧ pQ_InfixOf_J2 k u8 u8v = some r) ?_ ?_
            · apply Wc.seq
              refine Wc.r0 ⟨[tS 0 u8, tP 2 2, tS 4 u8, tB 22 (sEq u8 (bs [61]))], [bC 2 GOp.z], []⟩ ?_
              rcases oif h with ⟨h463, h⟩ | ⟨h463, h⟩
              · refine Wc.cT h463 ?_
                refine Wc.skip ?_
                exact ⟨_, rfl, h⟩
              · refine Wc.cF h463 ?_
                apply Wc.seq
                refine Wc.r0 ⟨[tS 0 u8, tP 2 2, tS 4 u8, tB 22 (sEq u8 (bs [92, 61]))], [bC 2 GOp.z], []⟩ ?_
                rcases oif h with ⟨h464, h⟩ | ⟨h464, h⟩
                · refine Wc.cT h464 ?_
                  refine Wc.skip ?_
                  exact ⟨_, rfl, h⟩
                · refine Wc.cF h464 ?_
                  apply Wc.seq
                  refine Wc.r0 ⟨[tS 0 u8, tP 2 2, tS 4 u8, tB 22 (sEq u8 (bs [61, 61]))], [bC 2 GOp.z], []⟩ ?_
                  rcases oif h with ⟨h465, h⟩ | ⟨h465, h⟩
                  · refine Wc.cT h465 ?_
                    refine Wc.skip ?_
                    exact ⟨_, rfl, h⟩
                  · refine Wc.cF h465 ?_
                    apply Wc.seq
                    refine Wc.r0 ⟨[tS 0 u8, tP 2 2, tS 4 u8, tB 22 (sEq u8 (bs [105, 115]))], [bC 2 GOp.z], []⟩ ?_
                    rcases oif h with ⟨h466, h⟩ | ⟨h466, h⟩
                    · refine Wc.cT h466 ?_
                      refine Wc.skip ?_
                      exact ⟨_, rfl, h⟩
                    · refine Wc.cF h466 ?_
                      apply Wc.seq
                      refine Wc.r0 ⟨[tS 0 u8, tP 2 2, tS 4 u8, tB 22 (sEq u8 (bs [60]))], [bC 2 GOp.z], []⟩ ?_
                      rcases oif h with ⟨h467, h⟩ | ⟨h467, h⟩
                      · refine Wc.cT h467 ?_
                        refine Wc.skip ?_
                        exact ⟨_, rfl, h⟩
                      · refine Wc.cF h467 ?_
                        refine Wc.r0 ⟨[tS 0 u8, tP 2 2, tS 4 u8, tB 22 (sEq u8 (bs [61, 58, 61]))], [bC 2 GOp.z], []⟩ ?_
                        exact ⟨_, rfl, h⟩
            · rintro st ⟨u8v, rfl, h⟩
              rcases oif h with ⟨h457, h⟩ | ⟨h457, h⟩
              · refine Wc.cT h457 ?_
                apply Wc.seq
                refine Wc.r0 ⟨[tP 2 2, tB 3 true], [bC 2 [.str u8, aI 700, aI 699, aI 699]], []⟩ ?_
                obtain rfl := oInj h; exact Wc.ret dn
              · refine Wc.cF h457 ?_
                refine Wc.seqJ (fun st => ∃ (u8u : Bool), st = ⟨[tS 0 u8, tP 2 2, tS 4 u8, tB 31 u8u], [bC 2 GOp.z], []⟩ ∧ pQ_InfixOf_J3 k u8 u8u = some r) ?_ ?_
                · apply Wc.seq
                  refine Wc.r0 ⟨[tS 0 u8, tP 2 2, tS 4 u8, tB 31 (sEq u8 (bs [43]))], [bC 2 GOp.z], []⟩ ?_
                  rcases oif h with ⟨h462, h⟩ | ⟨h462, h⟩
                  · refine Wc.cT h462 ?_
                    refine Wc.skip ?_
                    exact ⟨_, rfl, h⟩
                  · refine Wc.cF h462 ?_
                    refine Wc.r0 ⟨[tS 0 u8, tP 2 2, tS 4 u8, tB 31 (sEq u8 (bs [45]))], [bC 2 GOp.z], []⟩ ?_
                    exact ⟨_, rfl, h⟩
                · rintro st ⟨u8u, rfl, h⟩
                  rcases oif h with ⟨h458, h⟩ | ⟨h458, h⟩
                  · refine Wc.cT h458 ?_
                    apply Wc.seq
                    refine Wc.r0 ⟨[tP 2 2, tB 3 true], [bC 2 [.str u8, aI 500, aI 500, aI 499]], []⟩ ?_
                    obtain rfl := oInj h; exact Wc.ret dn
                  · refine Wc.cF h458 ?_
                    apply Wc.seq
                    apply Wc.seq
                    refine Wc.r0 ⟨[tS 0 u8, tP 2 2, tS 4 u8, tB 36 (sEq u8 (bs [42]))], [bC 2 GOp.z], []⟩ ?_
                    rcases oif h with ⟨h459, h⟩ | ⟨h459, h⟩
                    · refine Wc.cT h459 ?_
                      refine Wc.fx [] ⟨[tS 0 u8, tP 2 2, tB 36 (sEq u8 (bs [42]))], [bC 2 GOp.z], []⟩ ?_
                      refine Wc.skip ?_
                      rcases oif h with ⟨h460, h⟩ | ⟨h460, h⟩
                      · refine Wc.cT h460 ?_
                        apply Wc.seq
                        refine Wc.r0 ⟨[tP 2 2, tB 3 true], [bC 2 [.str u8, aI 400, aI 400, aI 399]], []⟩ ?_
                        obtain rfl := oInj h; exact Wc.ret dn
                      · refine Wc.cF h460 ?_
                        refine Wc.fx [] ⟨[tP 2 2], [bC 2 GOp.z], []⟩ ?_
                        refine Wc.skip ?_
                        apply Wc.seq
                        refine Wc.r0 ⟨[tP 2 2, tB 3 false], [bC 2 GOp.z], []⟩ ?_
                        obtain rfl := oInj h; exact Wc.ret dn
                    · refine Wc.cF h459 ?_
                      refine Wc.r0 ⟨[tS 0 u8, tP 2 2, tB 36 (sEq u8 (bs [47, 47]))], [bC 2 GOp.z], []⟩ ?_
                      rcases oif h with ⟨h461, h⟩ | ⟨h461, h⟩
                      · refine Wc.cT h461 ?_
                        apply Wc.seq
                        refine Wc.r0 ⟨[tP 2 2, tB 3 true], [bC 2 [.str u8, aI 400, aI 400, aI 399]], []⟩ ?_
                        obtain rfl := oInj h; exact Wc.ret dn
                      · refine Wc.cF h461 ?_
                        refine Wc.fx [] ⟨[tP 2 2], [bC 2 GOp.z], []⟩ ?_
                        refine Wc.skip ?_
                        apply Wc.seq
                        refine Wc.r0 ⟨[tP 2 2, tB 3 false], [bC 2 GOp.z], []⟩ ?_
                        obtain rfl := oInj h; exact Wc.ret dn

def pQ_PrefixOf (k : Nat) (zm : ByteArray) : Option (GOp × Bool) :=
  if (sEq zm (bs [58, 45])) = true then
    some (GOp.mk zm 1200 0 1199, true)
  else
    if (sEq zm (bs [92, 43])) = true then
      some (GOp.mk zm 900 0 900, true)
    else
      if (sEq zm (bs [45])) = true then
        some (GOp.mk zm 200 0 200, true)
      else
        some (GOp.mk (bs []) 0 0 0, false)
theorem cQ_PrefixOf {k : Nat} {zm : ByteArray} {r : GOp × Bool} (h : pQ_PrefixOf k zm = some r) : FnO Tryz.prog 169 [.v (.str zm) []] (.v (.tup [.agg (GOp.q r.1), .bool r.2]) []) [] := by
  refine FnO.o2 Tryz.func169 (rfl : Tryz.f169.body = some _) ?_
  intro w0 X0 Fin pv0 pb gt
  unfold pQ_PrefixOf at h
  apply Wc.seq
  refine Wc.r0 ⟨[tS 0 zm, tP 2 2], [bC 2 GOp.z], []⟩ ?_
  apply Wc.seq
  apply Wc.seq
  refine Wc.r0 ⟨[tS 0 zm, tP 2 2, tS 4 zm], [bC 2 GOp.z], []⟩ ?_
  refine Wc.block ?_
  apply Wc.seq
  refine Wc.r0 ⟨[tS 0 zm, tP 2 2, tS 4 zm, tB 5 (sEq zm (bs [58, 45]))], [bC 2 GOp.z], []⟩ ?_
  rcases oif h with ⟨h469, h⟩ | ⟨h469, h⟩
  · refine Wc.cT h469 ?_
    apply Wc.seq
    refine Wc.r0 ⟨[tP 2 2, tB 3 true], [bC 2 [.str zm, aI 1200, aI 0, aI 1199]], []⟩ ?_
    obtain rfl := oInj h; exact Wc.ret dn
  · refine Wc.cF h469 ?_
    apply Wc.seq
    refine Wc.r0 ⟨[tS 0 zm, tP 2 2, tS 4 zm, tB 9 (sEq zm (bs [92, 43]))], [bC 2 GOp.z], []⟩ ?_
    rcases oif h with ⟨h470, h⟩ | ⟨h470, h⟩
    · refine Wc.cT h470 ?_
      apply Wc.seq
      refine Wc.r0 ⟨[tP 2 2, tB 3 true], [bC 2 [.str zm, aI 900, aI 0, aI 900]], []⟩ ?_
      obtain rfl := oInj h; exact Wc.ret dn
    · refine Wc.cF h470 ?_
      apply Wc.seq
      refine Wc.r0 ⟨[tS 0 zm, tP 2 2, tB 13 (sEq zm (bs [45]))], [bC 2 GOp.z], []⟩ ?_
      rcases oif h with ⟨h471, h⟩ | ⟨h471, h⟩
      · refine Wc.cT h471 ?_
        apply Wc.seq
        refine Wc.r0 ⟨[tP 2 2, tB 3 true], [bC 2 [.str zm, aI 200, aI 0, aI 200]], []⟩ ?_
        obtain rfl := oInj h; exact Wc.ret dn
      · refine Wc.cF h471 ?_
        refine Wc.fx [] ⟨[tP 2 2], [bC 2 GOp.z], []⟩ ?_
        refine Wc.skip ?_
        apply Wc.seq
        refine Wc.r0 ⟨[tP 2 2, tB 3 false], [bC 2 GOp.z], []⟩ ?_
        obtain rfl := oInj h; exact Wc.ret dn

def pQ_l06Read_mark (k : Nat) (u20 : GXr) (u8x : ByteArray) : Option (GXr × Bool) :=
  (pQ_l06Read_is k u20 4 u8x).bind fun v4 =>
  if v4.2 = true then
    some (GXr.mk v4.1.gList (wr.i64 (v4.1.gAt + 1)) v4.1.gBad v4.1.gDeep v4.1.gNames, true)
  else
    some (v4.1, false)
theorem cQ_l06Read_mark {k : Nat} {u20 : GXr} {u8x : ByteArray} {r : GXr × Bool} (h : pQ_l06Read_mark k u20 u8x = some r) : FnO Tryz.prog 213 [.p (GXr.k2 u20) (GXr.h4_9f u20), .v (.str u8x) []] (.v (.bool r.2) []) [(0, .p (GXr.k2 r.1) (GXr.h4_9f r.1))] := by
  refine FnO.o2 Tryz.func213 (rfl : Tryz.f213.body = some _) ?_
  intro w0 X0 Fin pv0 pb gt
  unfold pQ_l06Read_mark at h
  apply Wc.seq
  refine Wc.r0 ⟨[tP 0 1000000, tS 1 u8x], [(1000000, .cells (GXr.k2 u20) (GXr.h4_9f u20))], []⟩ ?_
  apply Wc.seq
  apply Wc.seq
  obtain ⟨v4, h472, h⟩ := obind h
  refine Wc.r2 [{}, {}, { r := some (.v (.bool v4.2) []), outs := [(0, .p (GXr.k2 v4.1) (GXr.h4_9f v4.1))] }] ⟨[tP 0 1000000, tB 7 v4.2], [(1000000, .cells (GXr.k2 v4.1) (GXr.h4_9f v4.1))], []⟩ (.cons (cQ_l06Read_is h472) .nil) ?_
  rcases oif h with ⟨h473, h⟩ | ⟨h473, h⟩
  · refine Wc.cT h473 ?_
    apply Wc.seq
    refine Wc.r0 ⟨[], [(1000000, .cells [.sl (List.map GSign.c v4.1.gList), aI (wr.i64 (v4.1.gAt + 1)), .bool v4.1.gBad, aI v4.1.gDeep, .slx] (GXr.h4_9f v4.1))], []⟩ ?_
    apply Wc.seq
    refine Wc.r0 ⟨[tB 4 true], [(1000000, .cells [.sl (List.map GSign.c v4.1.gList), aI (wr.i64 (v4.1.gAt + 1)), .bool v4.1.gBad, aI v4.1.gDeep, .slx] (GXr.h4_9f v4.1))], []⟩ ?_
    obtain rfl := oInj h; exact Wc.ret dn
  · refine Wc.cF h473 ?_
    refine Wc.fx [] ⟨[], [(1000000, .cells (GXr.k2 v4.1) (GXr.h4_9f v4.1))], []⟩ ?_
    refine Wc.skip ?_
    apply Wc.seq
    refine Wc.r0 ⟨[tB 4 false], [(1000000, .cells (GXr.k2 v4.1) (GXr.h4_9f v4.1))], []⟩ ?_
    obtain rfl := oInj h; exact Wc.ret dn

def pQ_l06Read_wants (k : Nat) (u4b : GXr) (uc5 : ByteArray) : Option GXr :=
  (pQ_l06Read_mark k u4b uc5).bind fun vs =>
  if (!vs.2) = true then
    some (GXr.mk vs.1.gList vs.1.gAt true vs.1.gDeep vs.1.gNames)
  else
    some vs.1
theorem cQ_l06Read_wants {k : Nat} {u4b : GXr} {uc5 : ByteArray} {r : GXr} (h : pQ_l06Read_wants k u4b uc5 = some r) : FnO Tryz.prog 247 [.p (GXr.k2 u4b) (GXr.h4_9f u4b), .v (.str uc5) []] (.v (.tup []) []) [(0, .p (GXr.k2 r) (GXr.h4_9f r))] := by
  refine FnO.o2 Tryz.func247 (rfl : Tryz.f247.body = some _) ?_
  intro w0 X0 Fin pv0 pb gt
  unfold pQ_l06Read_wants at h
  apply Wc.seq
  obtain ⟨vs, h474, h⟩ := obind h
  refine Wc.r2 [{}, {}, { r := some (.v (.bool vs.2) []), outs := [(0, .p (GXr.k2 vs.1) (GXr.h4_9f vs.1))] }] ⟨[tP 0 1000000, tB 7 (!vs.2)], [(1000000, .cells (GXr.k2 vs.1) (GXr.h4_9f vs.1))], []⟩ (.cons (cQ_l06Read_mark h474) .nil) ?_
  rcases oif h with ⟨h475, h⟩ | ⟨h475, h⟩
  · refine Wc.cT h475 ?_
    refine Wc.r0 ⟨[], [(1000000, .cells [.sl (List.map GSign.c vs.1.gList), aI vs.1.gAt, .bool true, aI vs.1.gDeep, .slx] (GXr.h4_9f vs.1))], []⟩ ?_
    obtain rfl := oInj h
    exact ⟨(by first | exact .inl rfl | exact .inr rfl), by kernel_rfl, by kernel_rfl⟩
  · refine Wc.cF h475 ?_
    refine Wc.fx [] ⟨[], [(1000000, .cells (GXr.k2 vs.1) (GXr.h4_9f vs.1))], []⟩ ?_
    refine Wc.skip ?_
    obtain rfl := oInj h
    exact ⟨(by first | exact .inl rfl | exact .inr rfl), by kernel_rfl, by kernel_rfl⟩

def pQ_l06Read_near (k : Nat) (ux : GXr) : Option (GXr × Bool) :=
  if (decide ((wr.i64 (ux.gAt + 1)) < (ux.gList.length : Int))) = true then
    (at' ux.gList (wr.i64 (ux.gAt + 1))).bind fun u4c =>
    if (u4c.gKind == 3) = true then
      (at' ux.gList (wr.i64 (ux.gAt + 1))).bind fun u54 =>
      (at' ux.gList ux.gAt).bind fun u55 =>
      some (ux, (u54.gAt == (wr.i64 (u55.gAt + 1))))
    else
      some (ux, false)
  else
    some (ux, false)
theorem cQ_l06Read_near {k : Nat} {ux : GXr} {r : GXr × Bool} (h : pQ_l06Read_near k ux = some r) : FnO Tryz.prog 246 [.p (GXr.k2 ux) (GXr.h4_9f ux)] (.v (.bool r.2) []) [(0, .p (GXr.k2 r.1) (GXr.h4_9f r.1))] := by
  refine FnO.o2 Tryz.func246 (rfl : Tryz.f246.body = some _) ?_
  intro w0 X0 Fin pv0 pb gt
  unfold pQ_l06Read_near at h
  apply Wc.seq
  refine Wc.r0 ⟨[tP 0 1000000], [(1000000, .cells (GXr.k2 ux) (GXr.h4_9f ux))], []⟩ ?_
  apply Wc.seq
  rcases oif h with ⟨h476, h⟩ | ⟨h476, h⟩
  · obtain ⟨u4c, h477, h⟩ := obind h
    rcases oif h with ⟨h478, h⟩ | ⟨h478, h⟩
    · obtain ⟨u54, h479, h⟩ := obind h
      obtain ⟨u55, h480, h⟩ := obind h
      refine Wc.draw hmix [{}, {}, {}, {}, {}, {}, {}, {}, {}, { v := some (aI (ux.gList.length : Int)) }, {}, { re := some (.bool true) }, {}, {}, {}, {}, {}, {}, {}, {}, {}, { v := some (.vptr (GSign.q u4c)) }, {}, {}, {}, {}, { re := some (.bool true) }, {}, {}, {}, {}, {}, {}, {}, {}, {}, { v := some (.vptr (GSign.q u54)) }, {}, {}, {}, {}, {}, {}, {}, {}, {}, {}, { v := some (.vptr (GSign.q u55)) }] [] [2] [1000000] [] ⟨[tB 2 (u54.gAt == (wr.i64 (u55.gAt + 1)))], [(1000000, .cells (GXr.k2 ux) (GXr.h4_9f ux))], []⟩ _ (by kernel_rfl) (fun X => by kernel_rfl) (.cons (len_obl GSign.c ux.gList) (.cons (congrArg AV.bool h476) (.cons (at_obl (c := GSign.c) (GSign.c_eq u4c) GSign.c_len h477) (.cons (len_ok 1 (GSign.q u4c)) (.cons (congrArg AV.bool h478) (.cons (at_obl (c := GSign.c) (GSign.c_eq u54) GSign.c_len h479) (.cons (len_ok 1 [aI u54.gAt, .bool u54.gNear]) (.cons (at_obl (c := GSign.c) (GSign.c_eq u55) GSign.c_len h480) (.cons (len_ok 1 [aI u55.gAt, .bool u55.gNear]) .nil))))))))) ?_
      obtain rfl := oInj h; exact Wc.ret dn
    · refine Wc.draw hmix [{}, {}, {}, {}, {}, {}, {}, {}, {}, { v := some (aI (ux.gList.length : Int)) }, {}, { re := some (.bool true) }, {}, {}, {}, {}, {}, {}, {}, {}, {}, { v := some (.vptr (GSign.q u4c)) }, {}, {}, {}, {}, { re := some (.bool false) }] [] [2] [1000000] [] ⟨[tB 2 false], [(1000000, .cells (GXr.k2 ux) (GXr.h4_9f ux))], []⟩ _ (by kernel_rfl) (fun X => by kernel_rfl) (.cons (len_obl GSign.c ux.gList) (.cons (congrArg AV.bool h476) (.cons (at_obl (c := GSign.c) (GSign.c_eq u4c) GSign.c_len h477) (.cons (len_ok 1 (GSign.q u4c)) (.cons (congrArg AV.bool h478) .nil))))) ?_
      obtain rfl := oInj h; exact Wc.ret dn
  · refine Wc.draw hmix [{}, {}, {}, {}, {}, {}, {}, {}, {}, { v := some (aI (ux.gList.length : Int)) }, {}, { re := some (.bool false) }] [] [2] [1000000] [] ⟨[tB 2 false], [(1000000, .cells (GXr.k2 ux) (GXr.h4_9f ux))], []⟩ _ (by kernel_rfl) (fun X => by kernel_rfl) (.cons (len_obl GSign.c ux.gList) (.cons (congrArg AV.bool h476) .nil)) ?_
    obtain rfl := oInj h; exact Wc.ret dn

def pQ_l06Read_variable_J1 (k : Nat) (u9 : GXr) (v2 : ByteArray) : Option (GXr × GTerm) :=
  if u9.gNames.length + [v2].length ≤ 1073741824 then
    (pQ_l03Var k (wr.i64 (((u9.gNames ++ [v2]).length : Int) - 1))).bind fun uc6 =>
    some (GXr.mk u9.gList u9.gAt u9.gBad u9.gDeep (u9.gNames ++ [v2]), uc6)
  else none
def pQ_l06Read_variable_L2 (k : Nat) (u9 : GXr) (v2 : ByteArray) : Nat → Int → Option (Out (GXr × GTerm) Unit)
  | 0, _ => none
  | m + 1, u1s =>
    if (decide (u1s < (u9.gNames.length : Int))) = true then
      (at' u9.gNames u1s).bind fun u8y =>
      if (sEq u8y v2) = true then
        (pQ_l03Var k u1s).bind fun uc7 =>
        some (.ret (u9, uc7))
      else
        pQ_l06Read_variable_L2 k u9 v2 m (wr.i64 (u1s + 1))
    else
      some (.done ())
def pQ_l06Read_variable (k : Nat) (u9 : GXr) (v2 : ByteArray) : Option (GXr × GTerm) :=
  if (!(sEq v2 (bs [95]))) = true then
    (pQ_l06Read_variable_L2 k u9 v2 k 0).bind fun out2 => match out2 with
    | .ret r => some r
    | .done () =>
      pQ_l06Read_variable_J1 k u9 v2
  else
    pQ_l06Read_variable_J1 k u9 v2
theorem cQ_l06Read_variable {k : Nat} {u9 : GXr} {v2 : ByteArray} {r : GXr × GTerm} (h : pQ_l06Read_variable k u9 v2 = some r) : FnO Tryz.prog 216 [.p (GXr.k2 u9) (GXr.h4_9f u9), .v (.str v2) []] (.v (.agg (GTerm.q r.2)) [(3, .app 26)]) [(0, .p (GXr.k2 r.1) (GXr.h4_9f r.1))] := by
  refine FnO.o2 Tryz.func216 (rfl : Tryz.f216.body = some _) ?_
  intro w0 X0 Fin pv0 pb gt
  unfold pQ_l06Read_variable at h
  apply Wc.seq
  refine Wc.r0 ⟨[tP 0 1000000, tS 1 v2, tP 4 4], [(4, .cells GTerm.z [(3, .app 26)]), (1000000, .cells (GXr.k2 u9) (GXr.h4_9f u9))], []⟩ ?_
  refine Wc.seqJ (fun st => st = ⟨[tP 0 1000000, tS 1 v2, tP 4 4], [(4, .cells GTerm.z [(3, .app 26)]), (1000000, .cells (GXr.k2 u9) (GXr.h4_9f u9))], []⟩ ∧ pQ_l06Read_variable_J1 k u9 v2 = some r) ?_ ?_
  · apply Wc.seq
    refine Wc.r0 ⟨[tP 0 1000000, tS 1 v2, tP 4 4, tB 7 (!(sEq v2 (bs [95])))], [(4, .cells GTerm.z [(3, .app 26)]), (1000000, .cells (GXr.k2 u9) (GXr.h4_9f u9))], []⟩ ?_
    rcases oif h with ⟨h491, h⟩ | ⟨h491, h⟩
    · refine Wc.cT h491 ?_
      apply Wc.seq
      refine Wc.r0 ⟨[tP 0 1000000, tS 1 v2, tP 4 4, tI 5 0], [(4, .cells GTerm.z [(3, .app 26)]), (1000000, .cells (GXr.k2 u9) (GXr.h4_9f u9))], []⟩ ?_
      obtain ⟨out2, h492, h⟩ := obind h
      refine Wc.lastJ (fun st => out2 = .done () ∧ st = ⟨[tP 0 1000000, tS 1 v2, tP 4 4], [(4, .cells GTerm.z [(3, .app 26)]), (1000000, .cells (GXr.k2 u9) (GXr.h4_9f u9))], []⟩) ?_ ?_
      · refine Wc.block ?_
        refine Wc.loop (fun m st => ∃ (u1s : Int), st = ⟨[tP 0 1000000, tS 1 v2, tP 4 4, tI 5 u1s], [(4, .cells GTerm.z [(3, .app 26)]), (1000000, .cells (GXr.k2 u9) (GXr.h4_9f u9))], []⟩ ∧ pQ_l06Read_variable_L2 k u9 v2 m u1s = some out2) ?_ k ⟨_, rfl, h492⟩
        rintro m st ⟨u1s, rfl, h492⟩
        cases m with
        | zero => exact (onone h492).elim
        | succ m =>
          apply Wc.seq
          apply Wc.seq
          refine Wc.r2 [{}, {}, {}, {}, {}, { v := some (aI (u9.gNames.length : Int)) }] ⟨[tP 0 1000000, tS 1 v2, tP 4 4, tI 5 u1s, tB 14 (decide (u1s < (u9.gNames.length : Int)))], [(4, .cells GTerm.z [(3, .app 26)]), (1000000, .cells (GXr.k2 u9) (GXr.h4_9f u9))], []⟩ (.cons (len_obl cS u9.gNames) .nil) ?_
          rcases oif h492 with ⟨h493, h492⟩ | ⟨h493, h492⟩
          · refine Wc.cT h493 ?_
            refine Wc.fx [] ⟨[tP 0 1000000, tS 1 v2, tP 4 4, tI 5 u1s], [(4, .cells GTerm.z [(3, .app 26)]), (1000000, .cells (GXr.k2 u9) (GXr.h4_9f u9))], []⟩ ?_
            refine Wc.skip ?_
            apply Wc.seq
            refine Wc.block ?_
            apply Wc.seq
            obtain ⟨u8y, h494, h492⟩ := obind h492
            refine Wc.r2 [{}, {}, {}, {}, {}, {}, { v := some (.str u8y) }] ⟨[tP 0 1000000, tS 1 v2, tP 4 4, tI 5 u1s, tB 25 (sEq u8y v2)], [(4, .cells GTerm.z [(3, .app 26)]), (1000000, .cells (GXr.k2 u9) (GXr.h4_9f u9))], []⟩ (.cons (ix_obl (c := cS) cS_len h494) (.cons (el_obl (sz := 1) (off := 0) (s := 1) (ag := false) (v := .str u8y) (c := cS) rfl (at'_spec h494).2 rfl (Nat.le_of_ble_eq_true rfl) rfl) .nil)) ?_
            rcases oif h492 with ⟨h495, h492⟩ | ⟨h495, h492⟩
            · refine Wc.cT h495 ?_
              apply Wc.seq
              obtain ⟨uc7, h496, h492⟩ := obind h492
              refine Wc.r2 [{}, { r := some (.v (.agg (GTerm.q uc7)) [(3, .app 26)]) }, { tk := [27] }] ⟨[tP 4 4], [(4, .cells (GTerm.q uc7) [(3, .app 26)]), (1000000, .cells (GXr.k2 u9) (GXr.h4_9f u9))], []⟩ (.cons (cQ_l03Var h496) .nil) ?_
              refine Wc.ret ?_
              obtain rfl := oInj h492
              obtain rfl := oInj h
              exact ⟨.inl rfl, by kernel_rfl, by kernel_rfl⟩
            · refine Wc.cF h495 ?_
              refine Wc.fx [] ⟨[tP 0 1000000, tS 1 v2, tP 4 4, tI 5 u1s], [(4, .cells GTerm.z [(3, .app 26)]), (1000000, .cells (GXr.k2 u9) (GXr.h4_9f u9))], []⟩ ?_
              refine Wc.skip ?_
              refine Wc.r0 ⟨[tP 0 1000000, tS 1 v2, tP 4 4, tI 5 (wr.i64 (u1s + 1))], [(4, .cells GTerm.z [(3, .app 26)]), (1000000, .cells (GXr.k2 u9) (GXr.h4_9f u9))], []⟩ ?_
              exact ⟨_, Nat.lt_succ_self _, _, rfl, h492⟩
          · refine Wc.cF h493 ?_
            refine Wc.fx [] ⟨[tP 0 1000000, tS 1 v2, tP 4 4], [(4, .cells GTerm.z [(3, .app 26)]), (1000000, .cells (GXr.k2 u9) (GXr.h4_9f u9))], []⟩ ?_
            refine Wc.exit ?_
            obtain rfl := oInj h492
            exact ⟨rfl, rfl⟩
      · rintro st ⟨rfl, rfl⟩
        exact ⟨rfl, h⟩
    · refine Wc.cF h491 ?_
      refine Wc.fx [] ⟨[tP 0 1000000, tS 1 v2, tP 4 4], [(4, .cells GTerm.z [(3, .app 26)]), (1000000, .cells (GXr.k2 u9) (GXr.h4_9f u9))], []⟩ ?_
      refine Wc.skip ?_
      exact ⟨rfl, h⟩
  · rintro st ⟨rfl, h⟩
    apply Wc.seq
    obtain ⟨h489, h⟩ := oguard h
    refine Wc.r2 [{}, {}, {}, {}, { md := 1 }, {}, { c := some (List.map cS [v2]) }, { c := some (List.map cS (u9.gNames ++ [v2])), tk := [32], md := 1 }, {}, {}, { tk := [35] }] ⟨[tP 0 1000000, tP 4 4], [(4, .cells GTerm.z [(3, .app 26)]), (1000000, .cells (GXr.k2 u9) [(4, .ex 9 false (List.map cS (u9.gNames ++ [v2])))])], []⟩ (.cons (cl_cons (c := cS) (x := v2) rfl (cl_nil cS)) (.cons (app_re2 cS u9.gNames [v2]) (.cons (app_leaf (c := cS) (ys := [v2]) cS_leaf) (.cons (app_obl2 (c := cS) (xs := u9.gNames) (ys := [v2]) cS_len h489) .nil)))) ?_
    apply Wc.seq
    obtain ⟨uc6, h490, h⟩ := obind h
    refine Wc.r2 [{}, {}, {}, {}, { v := some (aI ((u9.gNames ++ [v2]).length : Int)) }, {}, { r := some (.v (.agg (GTerm.q uc6)) [(3, .app 26)]) }, { tk := [44] }] ⟨[tP 4 4], [(4, .cells (GTerm.q uc6) [(3, .app 26)]), (1000000, .cells (GXr.k2 u9) [(4, .ex 9 false (List.map cS (u9.gNames ++ [v2])))])], []⟩ (.cons (len_obl cS (u9.gNames ++ [v2])) (.cons (cQ_l03Var h490) .nil)) ?_
    obtain rfl := oInj h; exact Wc.ret dn

def pQ_l06Read_infix_J1 (k : Nat) (u8z : Bool) (z0 : GXr) : Option (GXr × GOp × Bool) :=
  if u8z = true then
    (at' z0.gList z0.gAt).bind fun u4d =>
    (pQ_InfixOf k u4d.gText).bind fun u56 =>
    some (z0, u56.1, u56.2)
  else
    some (z0, GOp.mk (bs []) 0 0 0, false)
def pQ_l06Read_infix (k : Nat) (u21 : GXr) : Option (GXr × GOp × Bool) :=
  (pQ_l06Read_is k u21 4 (bs [44])).bind fun z8 =>
  if z8.2 = true then
    (pQ_InfixOf k (bs [44])).bind fun u57 =>
    some (z8.1, u57.1, u57.2)
  else
    (pQ_l06Read_is k z8.1 1 (bs [])).bind fun vt =>
    if vt.2 = true then
      (at' vt.1.gList vt.1.gAt).bind fun u6i =>
      pQ_l06Read_infix_J1 k (!u6i.gNear) vt.1
    else
      pQ_l06Read_infix_J1 k false vt.1
theorem cQ_l06Read_infix {k : Nat} {u21 : GXr} {r : GXr × GOp × Bool} (h : pQ_l06Read_infix k u21 = some r) : FnO Tryz.prog 166 [.p (GXr.k2 u21) (GXr.h4_9f u21)] (.v (.tup [.agg (GOp.q r.2.1), .bool r.2.2]) []) [(0, .p (GXr.k2 r.1) (GXr.h4_9f r.1))] := by
  refine FnO.o2 Tryz.func166 (rfl : Tryz.f166.body = some _) ?_
  intro w0 X0 Fin pv0 pb gt
  unfold pQ_l06Read_infix at h
  apply Wc.seq
  refine Wc.r0 ⟨[tP 0 1000000, tP 2 2], [bC 2 GOp.z, (1000000, .cells (GXr.k2 u21) (GXr.h4_9f u21))], []⟩ ?_
  apply Wc.seq
  apply Wc.seq
  obtain ⟨z8, h497, h⟩ := obind h
  refine Wc.r2 [{}, { r := some (.v (.bool z8.2) []), outs := [(0, .p (GXr.k2 z8.1) (GXr.h4_9f z8.1))] }] ⟨[tP 0 1000000, tP 2 2, tB 5 z8.2], [bC 2 GOp.z, (1000000, .cells (GXr.k2 z8.1) (GXr.h4_9f z8.1))], []⟩ (.cons (cQ_l06Read_is h497) .nil) ?_
  rcases oif h with ⟨h498, h⟩ | ⟨h498, h⟩
  · refine Wc.cT h498 ?_
    apply Wc.seq
    obtain ⟨u57, h499, h⟩ := obind h
    refine Wc.r2 [{ r := some (.v (.tup [.agg (GOp.q u57.1), .bool u57.2]) []) }] ⟨[tP 2 2, tB 3 u57.2], [bC 2 (GOp.q u57.1), (1000000, .cells (GXr.k2 z8.1) (GXr.h4_9f z8.1))], []⟩ (.cons (cQ_InfixOf h499) .nil) ?_
    obtain rfl := oInj h; exact Wc.ret dn
  · refine Wc.cF h498 ?_
    refine Wc.fx [] ⟨[tP 0 1000000, tP 2 2], [bC 2 GOp.z, (1000000, .cells (GXr.k2 z8.1) (GXr.h4_9f z8.1))], []⟩ ?_
    refine Wc.skip ?_
    apply Wc.seq
    refine Wc.seqJ (fun st => ∃ (u8z : Bool) (z0 : GXr), st = ⟨[tP 0 1000000, tP 2 2, tB 24 u8z], [bC 2 GOp.z, (1000000, .cells (GXr.k2 z0) (GXr.h4_9f z0))], []⟩ ∧ pQ_l06Read_infix_J1 k u8z z0 = some r) ?_ ?_
    · obtain ⟨vt, h503, h⟩ := obind h
      rcases oif h with ⟨h504, h⟩ | ⟨h504, h⟩
      · obtain ⟨u6i, h505, h⟩ := obind h
        refine Wc.draw hmix [{}, { r := some (.v (.bool vt.2) []), outs := [(0, .p (GXr.k2 vt.1) (GXr.h4_9f vt.1))] }, { re := some (.bool true) }, {}, {}, {}, {}, {}, {}, {}, {}, { v := some (.vptr (GSign.q u6i)) }] [] [0, 2, 24] [2, 1000000] [] ⟨[tP 0 1000000, tP 2 2, tB 24 (!u6i.gNear)], [bC 2 GOp.z, (1000000, .cells (GXr.k2 vt.1) (GXr.h4_9f vt.1))], []⟩ _ (by kernel_rfl) (fun X => by kernel_rfl) (.cons (cQ_l06Read_is h503) (.cons (congrArg AV.bool h504) (.cons (at_obl (c := GSign.c) (GSign.c_eq u6i) GSign.c_len h505) (.cons (len_ok 1 [.bool u6i.gNear]) .nil)))) ?_
        exact ⟨_, _, rfl, h⟩
      · refine Wc.draw hmix [{}, { r := some (.v (.bool vt.2) []), outs := [(0, .p (GXr.k2 vt.1) (GXr.h4_9f vt.1))] }, { re := some (.bool false) }] [] [0, 2, 24] [2, 1000000] [] ⟨[tP 0 1000000, tP 2 2, tB 24 false], [bC 2 GOp.z, (1000000, .cells (GXr.k2 vt.1) (GXr.h4_9f vt.1))], []⟩ _ (by kernel_rfl) (fun X => by kernel_rfl) (.cons (cQ_l06Read_is h503) (.cons (congrArg AV.bool h504) .nil)) ?_
        exact ⟨_, _, rfl, h⟩
    · rintro st ⟨u8z, z0, rfl, h⟩
      rcases oif h with ⟨h500, h⟩ | ⟨h500, h⟩
      · refine Wc.cT h500 ?_
        apply Wc.seq
        obtain ⟨u4d, h501, h⟩ := obind h
        obtain ⟨u56, h502, h⟩ := obind h
        refine Wc.draw hmix [{}, {}, {}, {}, {}, {}, {}, {}, { v := some (.vptr (GSign.q u4d)) }, {}, {}, { r := some (.v (.tup [.agg (GOp.q u56.1), .bool u56.2]) []) }] [] [2, 3] [2, 1000000] [] ⟨[tP 2 2, tB 3 u56.2], [bC 2 (GOp.q u56.1), (1000000, .cells (GXr.k2 z0) (GXr.h4_9f z0))], []⟩ _ (by kernel_rfl) (fun X => by kernel_rfl) (.cons (at_obl (c := GSign.c) (GSign.c_eq u4d) GSign.c_len h501) (.cons (len_ok 1 [.str u4d.gText, aI u4d.gNum, aI u4d.gAt, .bool u4d.gNear]) (.cons (cQ_InfixOf h502) .nil))) ?_
        obtain rfl := oInj h; exact Wc.ret dn
      · refine Wc.cF h500 ?_
        refine Wc.fx [] ⟨[tP 2 2], [bC 2 GOp.z, (1000000, .cells (GXr.k2 z0) (GXr.h4_9f z0))], []⟩ ?_
        refine Wc.skip ?_
        apply Wc.seq
        refine Wc.r0 ⟨[tP 2 2, tB 3 false], [bC 2 GOp.z, (1000000, .cells (GXr.k2 z0) (GXr.h4_9f z0))], []⟩ ?_
        obtain rfl := oInj h; exact Wc.ret dn

def pQ_l06Read_atom_J3 (k : Nat) (rspec_l06Read_atom : GXr → Int → Option (GXr × GTerm × Int)) (rspec_l06Read_primary : GXr → Int → Option (GXr × GTerm × Int)) (rspec_l06Read_round : GXr → Option (GXr × GTerm)) (rspec_l06Read_row : GXr → Option (GXr × GTerm)) (rspec_l06Read_some : GXr → ByteArray → Option (GXr × GTerm)) (rspec_l06Read_term : GXr → Int → Option (GXr × GTerm)) (u4 : GXr) (ut : GSign) (u90 : Bool) : Option (GXr × GTerm × Int) :=
  if u90 = true then
    some (GXr.mk u4.gList u4.gAt true u4.gDeep u4.gNames, GTerm.mk 0 (bs []) 0 [], 0)
  else
    (pQ_l03Atom k ut.gText).bind fun u91 =>
    some (GXr.mk u4.gList (wr.i64 (u4.gAt + 1)) u4.gBad u4.gDeep u4.gNames, u91, 0)
def pQ_l06Read_atom_J2 (k : Nat) (rspec_l06Read_atom : GXr → Int → Option (GXr × GTerm × Int)) (rspec_l06Read_primary : GXr → Int → Option (GXr × GTerm × Int)) (rspec_l06Read_round : GXr → Option (GXr × GTerm)) (rspec_l06Read_row : GXr → Option (GXr × GTerm)) (rspec_l06Read_some : GXr → ByteArray → Option (GXr × GTerm)) (rspec_l06Read_term : GXr → Int → Option (GXr × GTerm)) (u4 : GXr) (z1 : GOp × Bool) (ut : GSign) (u92 : Bool) : Option (GXr × GTerm × Int) :=
  if u92 = true then
    (rspec_l06Read_term (GXr.mk u4.gList (wr.i64 (u4.gAt + 1)) u4.gBad u4.gDeep u4.gNames) z1.1.gRight).bind fun vk =>
    some (vk.1, GTerm.mk 4 ut.gText 0 [vk.2], z1.1.gPrio)
  else
    (pQ_InfixOf k ut.gText).bind fun u6j =>
    if z1.2 = true then
      pQ_l06Read_atom_J3 k rspec_l06Read_atom rspec_l06Read_primary rspec_l06Read_round rspec_l06Read_row rspec_l06Read_some rspec_l06Read_term u4 ut true
    else
      pQ_l06Read_atom_J3 k rspec_l06Read_atom rspec_l06Read_primary rspec_l06Read_round rspec_l06Read_row rspec_l06Read_some rspec_l06Read_term u4 ut u6j.2
def pQ_l06Read_atom_J1 (k : Nat) (rspec_l06Read_atom : GXr → Int → Option (GXr × GTerm × Int)) (rspec_l06Read_primary : GXr → Int → Option (GXr × GTerm × Int)) (rspec_l06Read_round : GXr → Option (GXr × GTerm)) (rspec_l06Read_row : GXr → Option (GXr × GTerm)) (rspec_l06Read_some : GXr → ByteArray → Option (GXr × GTerm)) (rspec_l06Read_term : GXr → Int → Option (GXr × GTerm)) (ut : GSign) (zn : Int) (u93 : Bool) (u4 : GXr) : Option (GXr × GTerm × Int) :=
  if u93 = true then
    (at' u4.gList (wr.i64 ((wr.i64 (u4.gAt + 2)) - 1))).bind fun u58 =>
    (pQ_l03Num k (wr.i64 (0 - u58.gNum))).bind fun u94 =>
    some (GXr.mk u4.gList (wr.i64 (u4.gAt + 2)) u4.gBad u4.gDeep u4.gNames, u94, 0)
  else
    (pQ_PrefixOf k ut.gText).bind fun z1 =>
    if z1.2 = true then
      pQ_l06Read_atom_J2 k rspec_l06Read_atom rspec_l06Read_primary rspec_l06Read_round rspec_l06Read_row rspec_l06Read_some rspec_l06Read_term u4 z1 ut (decide (z1.1.gPrio ≤ zn))
    else
      pQ_l06Read_atom_J2 k rspec_l06Read_atom rspec_l06Read_primary rspec_l06Read_round rspec_l06Read_row rspec_l06Read_some rspec_l06Read_term u4 z1 ut false
def pQ_l06Read_round_J1 (k : Nat) (rspec_l06Read_atom : GXr → Int → Option (GXr × GTerm × Int)) (rspec_l06Read_primary : GXr → Int → Option (GXr × GTerm × Int)) (rspec_l06Read_round : GXr → Option (GXr × GTerm)) (rspec_l06Read_row : GXr → Option (GXr × GTerm)) (rspec_l06Read_some : GXr → ByteArray → Option (GXr × GTerm)) (rspec_l06Read_term : GXr → Int → Option (GXr × GTerm)) (u95 : Bool) (v9 : GXr) : Option (GXr × GTerm) :=
  if u95 = true then
    (at' v9.gList (wr.i64 ((wr.i64 (v9.gAt + 2)) - 2))).bind fun u4e =>
    (pQ_l03Atom k u4e.gText).bind fun u96 =>
    some (GXr.mk v9.gList (wr.i64 (v9.gAt + 2)) v9.gBad v9.gDeep v9.gNames, u96)
  else
    (rspec_l06Read_term v9 1200).bind fun u0q =>
    (pQ_l06Read_wants k u0q.1 (bs [41])).bind fun u0r =>
    some (u0r, u0q.2)
def pQ_l06Read_row_L1 (k : Nat) (rspec_l06Read_atom : GXr → Int → Option (GXr × GTerm × Int)) (rspec_l06Read_primary : GXr → Int → Option (GXr × GTerm × Int)) (rspec_l06Read_round : GXr → Option (GXr × GTerm)) (rspec_l06Read_row : GXr → Option (GXr × GTerm)) (rspec_l06Read_some : GXr → ByteArray → Option (GXr × GTerm)) (rspec_l06Read_term : GXr → Int → Option (GXr × GTerm)) (u04 : GTerm) : Nat → (List GTerm) → GXr → Option (Out (GXr × GTerm) ((List GTerm) × GTerm × GXr))
  | 0, _, _ => none
  | m + 1, zk, z2 =>
    if (!z2.gBad) = true then
      (rspec_l06Read_term z2 999).bind fun vd =>
      if zk.length + [vd.2].length ≤ 1073741824 then
        (pQ_l06Read_mark k vd.1 (bs [93])).bind fun z9 =>
        if z9.2 = true then
          some (.done (zk ++ [vd.2], u04, z9.1))
        else
          (pQ_l06Read_mark k z9.1 (bs [124])).bind fun zz =>
          if zz.2 = true then
            (rspec_l06Read_term zz.1 999).bind fun u1a =>
            (pQ_l06Read_wants k u1a.1 (bs [93])).bind fun u2i =>
            some (.done (zk ++ [vd.2], u1a.2, u2i))
          else
            (pQ_l06Read_wants k zz.1 (bs [44])).bind fun u2j =>
            pQ_l06Read_row_L1 k rspec_l06Read_atom rspec_l06Read_primary rspec_l06Read_round rspec_l06Read_row rspec_l06Read_some rspec_l06Read_term u04 m (zk ++ [vd.2]) u2j
      else none
    else
      some (.done (zk, u04, z2))
def pQ_l06Read_row_L2 (k : Nat) (rspec_l06Read_atom : GXr → Int → Option (GXr × GTerm × Int)) (rspec_l06Read_primary : GXr → Int → Option (GXr × GTerm × Int)) (rspec_l06Read_round : GXr → Option (GXr × GTerm)) (rspec_l06Read_row : GXr → Option (GXr × GTerm)) (rspec_l06Read_some : GXr → ByteArray → Option (GXr × GTerm)) (rspec_l06Read_term : GXr → Int → Option (GXr × GTerm)) (u0a : List GTerm) : Nat → Int → GTerm → Option (Out (GXr × GTerm) GTerm)
  | 0, _, _ => none
  | m + 1, u2k, u3u =>
    if (decide (u2k ≥ 0)) = true then
      (at' u0a u2k).bind fun u97 =>
      (pQ_l03Two k (bs [46]) u97 u3u).bind fun u98 =>
      pQ_l06Read_row_L2 k rspec_l06Read_atom rspec_l06Read_primary rspec_l06Read_round rspec_l06Read_row rspec_l06Read_some rspec_l06Read_term u0a m (wr.i64 (u2k - 1)) u98
    else
      some (.done u3u)
def pQ_l06Read_some_L1 (k : Nat) (rspec_l06Read_atom : GXr → Int → Option (GXr × GTerm × Int)) (rspec_l06Read_primary : GXr → Int → Option (GXr × GTerm × Int)) (rspec_l06Read_round : GXr → Option (GXr × GTerm)) (rspec_l06Read_row : GXr → Option (GXr × GTerm)) (rspec_l06Read_some : GXr → ByteArray → Option (GXr × GTerm)) (rspec_l06Read_term : GXr → Int → Option (GXr × GTerm)) : Nat → GTerm → GXr → Option (Out (GXr × GTerm) (GTerm × GXr))
  | 0, _, _ => none
  | m + 1, ur, z3 =>
    if (!z3.gBad) = true then
      (rspec_l06Read_term z3 999).bind fun up =>
      if (decide ((ur.gKids.length : Int) ≥ 5)) = true then
        some (.done (ur, GXr.mk up.1.gList up.1.gAt true up.1.gDeep up.1.gNames))
      else
        if ur.gKids.length + [up.2].length ≤ 1073741824 then
          (pQ_l06Read_mark k up.1 (bs [41])).bind fun za =>
          if za.2 = true then
            some (.done (GTerm.mk ur.gKind ur.gName ur.gNum (ur.gKids ++ [up.2]), za.1))
          else
            (pQ_l06Read_wants k za.1 (bs [44])).bind fun u2l =>
            pQ_l06Read_some_L1 k rspec_l06Read_atom rspec_l06Read_primary rspec_l06Read_round rspec_l06Read_row rspec_l06Read_some rspec_l06Read_term m (GTerm.mk ur.gKind ur.gName ur.gNum (ur.gKids ++ [up.2])) u2l
        else none
    else
      some (.done (ur, z3))
def pQ_l06Read_term_L2 (k : Nat) (rspec_l06Read_atom : GXr → Int → Option (GXr × GTerm × Int)) (rspec_l06Read_primary : GXr → Int → Option (GXr × GTerm × Int)) (rspec_l06Read_round : GXr → Option (GXr × GTerm)) (rspec_l06Read_row : GXr → Option (GXr × GTerm)) (rspec_l06Read_some : GXr → ByteArray → Option (GXr × GTerm)) (rspec_l06Read_term : GXr → Int → Option (GXr × GTerm)) (v7 : Int) : Nat → Int → GTerm → GXr → Option (Out (GXr × GTerm) (GTerm × GXr))
  | 0, _, _, _ => none
  | m + 1, u3v, zr, z4 =>
    if (!z4.gBad) = true then
      (pQ_l06Read_infix k z4).bind fun ud =>
      if (!ud.2.2) = true then
        some (.done (zr, ud.1))
      else
        if (decide (ud.2.1.gPrio > v7)) = true then
          some (.done (zr, ud.1))
        else
          if (decide (ud.2.1.gLeft < u3v)) = true then
            some (.done (zr, ud.1))
          else
            (rspec_l06Read_term (GXr.mk ud.1.gList (wr.i64 (ud.1.gAt + 1)) ud.1.gBad ud.1.gDeep ud.1.gNames) ud.2.1.gRight).bind fun zf =>
            (pQ_l03Two k ud.2.1.gName zr zf.2).bind fun u99 =>
            pQ_l06Read_term_L2 k rspec_l06Read_atom rspec_l06Read_primary rspec_l06Read_round rspec_l06Read_row rspec_l06Read_some rspec_l06Read_term v7 m ud.2.1.gPrio u99 zf.1
    else
      some (.done (zr, z4))
def pQ_l06Read_term_J1 (k : Nat) (rspec_l06Read_atom : GXr → Int → Option (GXr × GTerm × Int)) (rspec_l06Read_primary : GXr → Int → Option (GXr × GTerm × Int)) (rspec_l06Read_round : GXr → Option (GXr × GTerm)) (rspec_l06Read_row : GXr → Option (GXr × GTerm)) (rspec_l06Read_some : GXr → ByteArray → Option (GXr × GTerm)) (rspec_l06Read_term : GXr → Int → Option (GXr × GTerm)) (uf : GXr) (v7 : Int) (u9a : Bool) : Option (GXr × GTerm) :=
  if u9a = true then
    some (GXr.mk uf.gList uf.gAt true (wr.i64 (uf.gDeep + 1)) uf.gNames, GTerm.mk 0 (bs []) 0 [])
  else
    (rspec_l06Read_primary (GXr.mk uf.gList uf.gAt uf.gBad (wr.i64 (uf.gDeep + 1)) uf.gNames) v7).bind fun u0g =>
    (pQ_l06Read_term_L2 k rspec_l06Read_atom rspec_l06Read_primary rspec_l06Read_round rspec_l06Read_row rspec_l06Read_some rspec_l06Read_term v7 k u0g.2.2 u0g.2.1 u0g.1).bind fun out2 => match out2 with
    | .ret r => some r
    | .done (u59, zo) =>
      some (GXr.mk zo.gList zo.gAt zo.gBad (wr.i64 (zo.gDeep - 1)) zo.gNames, u59)
mutual
def pQ_l06Read_atom : Nat → GXr → Int → Option (GXr × GTerm × Int)
  | 0, _, _ => none
  | k + 1, uo, zn =>
    (at' uo.gList uo.gAt).bind fun ut =>
    if ut.gNear = true then
      (pQ_l06Read_some k (GXr.mk uo.gList (wr.i64 (uo.gAt + 2)) uo.gBad uo.gDeep uo.gNames) ut.gText).bind fun u00 =>
      some (u00.1, u00.2, 0)
    else
      if (sEq ut.gText (bs [45])) = true then
        (pQ_l06Read_near k uo).bind fun u1j =>
        pQ_l06Read_atom_J1 k (pQ_l06Read_atom k) (pQ_l06Read_primary k) (pQ_l06Read_round k) (pQ_l06Read_row k) (pQ_l06Read_some k) (pQ_l06Read_term k) ut zn u1j.2 u1j.1
      else
        pQ_l06Read_atom_J1 k (pQ_l06Read_atom k) (pQ_l06Read_primary k) (pQ_l06Read_round k) (pQ_l06Read_row k) (pQ_l06Read_some k) (pQ_l06Read_term k) ut zn false uo
def pQ_l06Read_primary : Nat → GXr → Int → Option (GXr × GTerm × Int)
  | 0, _, _ => none
  | k + 1, zs, u2w =>
    (pQ_l06Read_is k zs 1 (bs [])).bind fun u1b =>
    if u1b.2 = true then
      (pQ_l06Read_atom k u1b.1 u2w).bind fun u0h =>
      some (u0h.1, u0h.2.1, u0h.2.2)
    else
      (pQ_l06Read_mark k u1b.1 (bs [40])).bind fun u1c =>
      if u1c.2 = true then
        (pQ_l06Read_round k u1c.1).bind fun u1k =>
        some (u1k.1, u1k.2, 0)
      else
        (pQ_l06Read_mark k u1c.1 (bs [91])).bind fun u1d =>
        if u1d.2 = true then
          (pQ_l06Read_row k u1d.1).bind fun u1l =>
          some (u1l.1, u1l.2, 0)
        else
          (pQ_l06Read_is k u1d.1 3 (bs [])).bind fun v8 =>
          if v8.2 = true then
            (at' v8.1.gList (wr.i64 ((wr.i64 (v8.1.gAt + 1)) - 1))).bind fun u5a =>
            (pQ_l03Num k u5a.gNum).bind fun u9b =>
            some (GXr.mk v8.1.gList (wr.i64 (v8.1.gAt + 1)) v8.1.gBad v8.1.gDeep v8.1.gNames, u9b, 0)
          else
            (pQ_l06Read_is k v8.1 2 (bs [])).bind fun uu =>
            if uu.2 = true then
              (at' uu.1.gList (wr.i64 ((wr.i64 (uu.1.gAt + 1)) - 1))).bind fun u4f =>
              (pQ_l06Read_variable k (GXr.mk uu.1.gList (wr.i64 (uu.1.gAt + 1)) uu.1.gBad uu.1.gDeep uu.1.gNames) u4f.gText).bind fun u01 =>
              some (u01.1, u01.2, 0)
            else
              some (GXr.mk uu.1.gList uu.1.gAt true uu.1.gDeep uu.1.gNames, GTerm.mk 0 (bs []) 0 [], 0)
def pQ_l06Read_round : Nat → GXr → Option (GXr × GTerm)
  | 0, _ => none
  | k + 1, zt =>
    (pQ_l06Read_is k zt 1 (bs [])).bind fun uj =>
    if uj.2 = true then
      if (decide ((wr.i64 (uj.1.gAt + 1)) < (uj.1.gList.length : Int))) = true then
        (at' uj.1.gList (wr.i64 (uj.1.gAt + 1))).bind fun u4g =>
        if (u4g.gKind == 4) = true then
          (at' uj.1.gList (wr.i64 (uj.1.gAt + 1))).bind fun u3w =>
          pQ_l06Read_round_J1 k (pQ_l06Read_atom k) (pQ_l06Read_primary k) (pQ_l06Read_round k) (pQ_l06Read_row k) (pQ_l06Read_some k) (pQ_l06Read_term k) (sEq u3w.gText (bs [41])) uj.1
        else
          pQ_l06Read_round_J1 k (pQ_l06Read_atom k) (pQ_l06Read_primary k) (pQ_l06Read_round k) (pQ_l06Read_row k) (pQ_l06Read_some k) (pQ_l06Read_term k) false uj.1
      else
        pQ_l06Read_round_J1 k (pQ_l06Read_atom k) (pQ_l06Read_primary k) (pQ_l06Read_round k) (pQ_l06Read_row k) (pQ_l06Read_some k) (pQ_l06Read_term k) false uj.1
    else
      pQ_l06Read_round_J1 k (pQ_l06Read_atom k) (pQ_l06Read_primary k) (pQ_l06Read_round k) (pQ_l06Read_row k) (pQ_l06Read_some k) (pQ_l06Read_term k) false uj.1
def pQ_l06Read_row : Nat → GXr → Option (GXr × GTerm)
  | 0, _ => none
  | k + 1, zu =>
    (pQ_l06Read_mark k zu (bs [93])).bind fun v3 =>
    if v3.2 = true then
      (pQ_l03Atom k (bs [91, 93])).bind fun u9c =>
      some (v3.1, u9c)
    else
      (pQ_l03Atom k (bs [91, 93])).bind fun u04 =>
      (pQ_l06Read_row_L1 k (pQ_l06Read_atom k) (pQ_l06Read_primary k) (pQ_l06Read_round k) (pQ_l06Read_row k) (pQ_l06Read_some k) (pQ_l06Read_term k) u04 k [] v3.1).bind fun out1 => match out1 with
      | .ret r => some r
      | .done (u0a, u6k, uq) =>
        (pQ_l06Read_row_L2 k (pQ_l06Read_atom k) (pQ_l06Read_primary k) (pQ_l06Read_round k) (pQ_l06Read_row k) (pQ_l06Read_some k) (pQ_l06Read_term k) u0a k (wr.i64 ((u0a.length : Int) - 1)) u6k).bind fun out2 => match out2 with
        | .ret r => some r
        | .done u6l =>
          some (uq, u6l)
def pQ_l06Read_some : Nat → GXr → ByteArray → Option (GXr × GTerm)
  | 0, _, _ => none
  | k + 1, z5, u2x =>
    (pQ_l06Read_some_L1 k (pQ_l06Read_atom k) (pQ_l06Read_primary k) (pQ_l06Read_round k) (pQ_l06Read_row k) (pQ_l06Read_some k) (pQ_l06Read_term k) k (GTerm.mk 4 u2x 0 []) z5).bind fun out1 => match out1 with
    | .ret r => some r
    | .done (u6m, u1t) =>
      some (u1t, u6m)
def pQ_l06Read_term : Nat → GXr → Int → Option (GXr × GTerm)
  | 0, _, _ => none
  | k + 1, uf, v7 =>
    if uf.gBad = true then
      pQ_l06Read_term_J1 k (pQ_l06Read_atom k) (pQ_l06Read_primary k) (pQ_l06Read_round k) (pQ_l06Read_row k) (pQ_l06Read_some k) (pQ_l06Read_term k) uf v7 true
    else
      pQ_l06Read_term_J1 k (pQ_l06Read_atom k) (pQ_l06Read_primary k) (pQ_l06Read_round k) (pQ_l06Read_row k) (pQ_l06Read_some k) (pQ_l06Read_term k) uf v7 (decide ((wr.i64 (uf.gDeep + 1)) > 130))
end
set_option maxHeartbeats 4000000 in
theorem all_pQ_l06Read_atom : ∀ k : Nat, (∀ {uo : GXr} {zn : Int} {r : GXr × GTerm × Int}, pQ_l06Read_atom k uo zn = some r → FnO Tryz.prog 212 [.p (GXr.k2 uo) (GXr.h4_9f uo), .v (aI zn) []] (.v (.tup [.agg (GTerm.q r.2.1), aI r.2.2]) []) [(0, .p (GXr.k2 r.1) (GXr.h4_9f r.1))]) ∧
    (∀ {zs : GXr} {u2w : Int} {r : GXr × GTerm × Int}, pQ_l06Read_primary k zs u2w = some r → FnO Tryz.prog 165 [.p (GXr.k2 zs) (GXr.h4_9f zs), .v (aI u2w) []] (.v (.tup [.agg (GTerm.q r.2.1), aI r.2.2]) []) [(0, .p (GXr.k2 r.1) (GXr.h4_9f r.1))]) ∧
    (∀ {zt : GXr} {r : GXr × GTerm}, pQ_l06Read_round k zt = some r → FnO Tryz.prog 214 [.p (GXr.k2 zt) (GXr.h4_9f zt)] (.v (.agg (GTerm.q r.2)) []) [(0, .p (GXr.k2 r.1) (GXr.h4_9f r.1))]) ∧
    (∀ {zu : GXr} {r : GXr × GTerm}, pQ_l06Read_row k zu = some r → FnO Tryz.prog 215 [.p (GXr.k2 zu) (GXr.h4_9f zu)] (.v (.agg (GTerm.q r.2)) []) [(0, .p (GXr.k2 r.1) (GXr.h4_9f r.1))]) ∧
    (∀ {z5 : GXr} {u2x : ByteArray} {r : GXr × GTerm}, pQ_l06Read_some k z5 u2x = some r → FnO Tryz.prog 245 [.p (GXr.k2 z5) (GXr.h4_9f z5), .v (.str u2x) []] (.v (.agg (GTerm.q r.2)) [(3, .app 26)]) [(0, .p (GXr.k2 r.1) (GXr.h4_9f r.1))]) ∧
    (∀ {uf : GXr} {v7 : Int} {r : GXr × GTerm}, pQ_l06Read_term k uf v7 = some r → FnO Tryz.prog 99 [.p (GXr.k2 uf) (GXr.h4_9f uf), .v (aI v7) []] (.v (.agg (GTerm.q r.2)) []) [(0, .p (GXr.k2 r.1) (GXr.h4_9f r.1))]) := by
  intro k
  induction k with
  | zero =>
    refine ⟨?_, ?_, ?_, ?_, ?_, ?_⟩
    · intro uo zn r h
      exact (onone (by rw [pQ_l06Read_atom] at h; exact h)).elim
    · intro zs u2w r h
      exact (onone (by rw [pQ_l06Read_primary] at h; exact h)).elim
    · intro zt r h
      exact (onone (by rw [pQ_l06Read_round] at h; exact h)).elim
    · intro zu r h
      exact (onone (by rw [pQ_l06Read_row] at h; exact h)).elim
    · intro z5 u2x r h
      exact (onone (by rw [pQ_l06Read_some] at h; exact h)).elim
    · intro uf v7 r h
      exact (onone (by rw [pQ_l06Read_term] at h; exact h)).elim
  | succ k ih =>
    obtain ⟨ih_pQ_l06Read_atom, ih_pQ_l06Read_primary, ih_pQ_l06Read_round, ih_pQ_l06Read_row, ih_pQ_l06Read_some, ih_pQ_l06Read_term⟩ := ih
    refine ⟨?_, ?_, ?_, ?_, ?_, ?_⟩
    · intro uo zn r h
      rw [pQ_l06Read_atom] at h
      refine FnO.o2 Tryz.func212 (rfl : Tryz.f212.body = some _) ?_
      intro w0 X0 Fin pv0 pb gt
      apply Wc.seq
      refine Wc.r0 ⟨[tP 0 1000000, tI 1 zn, tP 4 4], [(4, .cells GTerm.z [(3, .app 26)]), (1000000, .cells (GXr.k2 uo) (GXr.h4_9f uo))], []⟩ ?_
      apply Wc.seq
      obtain ⟨ut, h588, h⟩ := obind h
      refine Wc.draw hmix [{}, {}, {}, {}, {}, {}, {}, {}, { v := some (.vptr (GSign.q ut)) }] [] [0, 1, 4, 6] [4, 6, 1000000] [] ⟨[tP 0 1000000, tI 1 zn, tP 4 4, tP 6 6], [(4, .cells GTerm.z [(3, .app 26)]), bC 6 (GSign.q ut), (1000000, .cells (GXr.k2 uo) (GXr.h4_9f uo))], []⟩ _ (by kernel_rfl) (fun X => by kernel_rfl) (.cons (at_obl (c := GSign.c) (GSign.c_eq ut) GSign.c_len h588) (.cons (len_ok 5 (GSign.q ut)) .nil)) ?_
      apply Wc.seq
      apply Wc.seq
      refine Wc.r0 ⟨[tP 0 1000000, tI 1 zn, tP 4 4, tP 6 6, tB 23 ut.gNear], [(4, .cells GTerm.z [(3, .app 26)]), bC 6 (GSign.q ut), (1000000, .cells (GXr.k2 uo) (GXr.h4_9f uo))], []⟩ ?_
      rcases oif h with ⟨h589, h⟩ | ⟨h589, h⟩
      · refine Wc.cT h589 ?_
        apply Wc.seq
        refine Wc.r0 ⟨[tP 0 1000000, tP 4 4, tP 6 6], [(4, .cells GTerm.z [(3, .app 26)]), bC 6 (GSign.q ut), (1000000, .cells [.sl (List.map GSign.c uo.gList), aI (wr.i64 (uo.gAt + 2)), .bool uo.gBad, aI uo.gDeep, .slx] (GXr.h4_9f uo))], []⟩ ?_
        apply Wc.seq
        obtain ⟨u00, h590, h⟩ := obind h
        refine Wc.r2 [{}, {}, {}, { r := some (.v (.agg (GTerm.q u00.2)) [(3, .app 26)]), outs := [(0, .p (GXr.k2 u00.1) (GXr.h4_9f u00.1))] }, { tk := [35] }] ⟨[tP 4 4, tI 5 0], [(4, .cells (GTerm.q u00.2) [(3, .app 26)]), (1000000, .cells (GXr.k2 u00.1) (GXr.h4_9f u00.1))], []⟩ (.cons (ih_pQ_l06Read_some h590) .nil) ?_
        refine Wc.fx [.un (.b 4 3)] ⟨[tP 4 4, tI 5 0], [bC 4 (GTerm.q u00.2), (1000000, .cells (GXr.k2 u00.1) (GXr.h4_9f u00.1))], []⟩ ?_
        obtain rfl := oInj h; exact Wc.ret dn
      · refine Wc.cF h589 ?_
        refine Wc.fx [] ⟨[tP 0 1000000, tI 1 zn, tP 4 4, tP 6 6], [(4, .cells GTerm.z [(3, .app 26)]), bC 6 (GSign.q ut), (1000000, .cells (GXr.k2 uo) (GXr.h4_9f uo))], []⟩ ?_
        refine Wc.skip ?_
        apply Wc.seq
        refine Wc.seqJ (fun st => ∃ (u93 : Bool) (u4 : GXr), st = ⟨[tP 0 1000000, tI 1 zn, tP 4 4, tP 6 6, tB 42 u93], [(4, .cells GTerm.z [(3, .app 26)]), bC 6 (GSign.q ut), (1000000, .cells (GXr.k2 u4) (GXr.h4_9f u4))], []⟩ ∧ pQ_l06Read_atom_J1 k (pQ_l06Read_atom k) (pQ_l06Read_primary k) (pQ_l06Read_round k) (pQ_l06Read_row k) (pQ_l06Read_some k) (pQ_l06Read_term k) ut zn u93 u4 = some r) ?_ ?_
        · rcases oif h with ⟨h602, h⟩ | ⟨h602, h⟩
          · obtain ⟨u1j, h603, h⟩ := obind h
            refine Wc.r2 [{}, {}, {}, { re := some (.bool true) }, {}, { r := some (.v (.bool u1j.2) []), outs := [(0, .p (GXr.k2 u1j.1) (GXr.h4_9f u1j.1))] }] ⟨[tP 0 1000000, tI 1 zn, tP 4 4, tP 6 6, tB 42 u1j.2], [(4, .cells GTerm.z [(3, .app 26)]), bC 6 (GSign.q ut), (1000000, .cells (GXr.k2 u1j.1) (GXr.h4_9f u1j.1))], []⟩ (.cons (congrArg AV.bool h602) (.cons (cQ_l06Read_near h603) .nil)) ?_
            exact ⟨_, _, rfl, h⟩
          · refine Wc.r2 [{}, {}, {}, { re := some (.bool false) }] ⟨[tP 0 1000000, tI 1 zn, tP 4 4, tP 6 6, tB 42 false], [(4, .cells GTerm.z [(3, .app 26)]), bC 6 (GSign.q ut), (1000000, .cells (GXr.k2 uo) (GXr.h4_9f uo))], []⟩ (.cons (congrArg AV.bool h602) .nil) ?_
            exact ⟨_, _, rfl, h⟩
        · rintro st ⟨u93, u4, rfl, h⟩
          rcases oif h with ⟨h591, h⟩ | ⟨h591, h⟩
          · refine Wc.cT h591 ?_
            apply Wc.seq
            refine Wc.r0 ⟨[tP 0 1000000, tP 4 4], [(4, .cells GTerm.z [(3, .app 26)]), (1000000, .cells [.sl (List.map GSign.c u4.gList), aI (wr.i64 (u4.gAt + 2)), .bool u4.gBad, aI u4.gDeep, .slx] (GXr.h4_9f u4))], []⟩ ?_
            apply Wc.seq
            obtain ⟨u58, h592, h⟩ := obind h
            obtain ⟨u94, h593, h⟩ := obind h
            refine Wc.draw hmix [{}, {}, {}, {}, {}, {}, {}, {}, {}, { v := some (.vptr (GSign.q u58)) }, {}, {}, {}, { r := some (.v (.agg (GTerm.q u94)) [(3, .app 26)]) }, { tk := [64] }] [] [4, 5] [4, 1000000] [] ⟨[tP 4 4, tI 5 0], [(4, .cells (GTerm.q u94) [(3, .app 26)]), (1000000, .cells [.sl (List.map GSign.c u4.gList), aI (wr.i64 (u4.gAt + 2)), .bool u4.gBad, aI u4.gDeep, .slx] (GXr.h4_9f u4))], []⟩ _ (by kernel_rfl) (fun X => by kernel_rfl) (.cons (at_obl (c := GSign.c) (GSign.c_eq u58) GSign.c_len h592) (.cons (len_ok 1 [aI u58.gNum, aI u58.gAt, .bool u58.gNear]) (.cons (cQ_l03Num h593) .nil))) ?_
            refine Wc.fx [.un (.b 4 3)] ⟨[tP 4 4, tI 5 0], [bC 4 (GTerm.q u94), (1000000, .cells [.sl (List.map GSign.c u4.gList), aI (wr.i64 (u4.gAt + 2)), .bool u4.gBad, aI u4.gDeep, .slx] (GXr.h4_9f u4))], []⟩ ?_
            obtain rfl := oInj h; exact Wc.ret dn
          · refine Wc.cF h591 ?_
            refine Wc.fx [] ⟨[tP 0 1000000, tI 1 zn, tP 4 4, tP 6 6], [(4, .cells GTerm.z [(3, .app 26)]), bC 6 (GSign.q ut), (1000000, .cells (GXr.k2 u4) (GXr.h4_9f u4))], []⟩ ?_
            refine Wc.skip ?_
            apply Wc.seq
            obtain ⟨z1, h594, h⟩ := obind h
            refine Wc.r2 [{}, {}, { r := some (.v (.tup [.agg (GOp.q z1.1), .bool z1.2]) []) }] ⟨[tP 0 1000000, tI 1 zn, tP 4 4, tP 6 6, tP 7 7, tB 8 z1.2], [(4, .cells GTerm.z [(3, .app 26)]), bC 6 (GSign.q ut), bC 7 (GOp.q z1.1), (1000000, .cells (GXr.k2 u4) (GXr.h4_9f u4))], []⟩ (.cons (cQ_PrefixOf h594) .nil) ?_
            apply Wc.seq
            refine Wc.seqJ (fun st => ∃ (u92 : Bool), st = ⟨[tP 0 1000000, tP 4 4, tP 6 6, tP 7 7, tB 8 z1.2, tB 77 u92], [(4, .cells GTerm.z [(3, .app 26)]), bC 6 (GSign.q ut), bC 7 (GOp.q z1.1), (1000000, .cells (GXr.k2 u4) (GXr.h4_9f u4))], []⟩ ∧ pQ_l06Read_atom_J2 k (pQ_l06Read_atom k) (pQ_l06Read_primary k) (pQ_l06Read_round k) (pQ_l06Read_row k) (pQ_l06Read_some k) (pQ_l06Read_term k) u4 z1 ut u92 = some r) ?_ ?_
            · rcases oif h with ⟨h601, h⟩ | ⟨h601, h⟩
              · refine Wc.r2 [{}, { re := some (.bool true) }] ⟨[tP 0 1000000, tP 4 4, tP 6 6, tP 7 7, tB 8 z1.2, tB 77 (decide (z1.1.gPrio ≤ zn))], [(4, .cells GTerm.z [(3, .app 26)]), bC 6 (GSign.q ut), bC 7 (GOp.q z1.1), (1000000, .cells (GXr.k2 u4) (GXr.h4_9f u4))], []⟩ (.cons (congrArg AV.bool h601) .nil) ?_
                exact ⟨_, rfl, h⟩
              · refine Wc.r2 [{}, { re := some (.bool false) }] ⟨[tP 0 1000000, tP 4 4, tP 6 6, tP 7 7, tB 8 z1.2, tB 77 false], [(4, .cells GTerm.z [(3, .app 26)]), bC 6 (GSign.q ut), bC 7 (GOp.q z1.1), (1000000, .cells (GXr.k2 u4) (GXr.h4_9f u4))], []⟩ (.cons (congrArg AV.bool h601) .nil) ?_
                exact ⟨_, rfl, h⟩
            · rintro st ⟨u92, rfl, h⟩
              rcases oif h with ⟨h595, h⟩ | ⟨h595, h⟩
              · refine Wc.cT h595 ?_
                apply Wc.seq
                refine Wc.r0 ⟨[tP 0 1000000, tP 4 4, tP 6 6, tP 7 7], [(4, .cells GTerm.z [(3, .app 26)]), bC 6 (GSign.q ut), bC 7 (GOp.q z1.1), (1000000, .cells [.sl (List.map GSign.c u4.gList), aI (wr.i64 (u4.gAt + 1)), .bool u4.gBad, aI u4.gDeep, .slx] (GXr.h4_9f u4))], []⟩ ?_
                apply Wc.seq
                obtain ⟨vk, h596, h⟩ := obind h
                refine Wc.r2 [{}, {}, {}, { r := some (.v (.agg (GTerm.q vk.2)) []), outs := [(0, .p (GXr.k2 vk.1) (GXr.h4_9f vk.1))] }] ⟨[tP 4 4, tP 6 6, tP 7 7, tP 9 9], [(4, .cells GTerm.z [(3, .app 26)]), bC 6 (GSign.q ut), bC 7 (GOp.q z1.1), bC 9 (GTerm.q vk.2), (1000000, .cells (GXr.k2 vk.1) (GXr.h4_9f vk.1))], []⟩ (.cons (ih_pQ_l06Read_term h596) .nil) ?_
                apply Wc.seq
                refine Wc.draw hmix [{}, {}, {}, { c := some (List.map GTerm.c [vk.2]) }, { tk := [93] }, {}, {}, { tk := [94] }] [] [4, 5] [4, 1000000] [] ⟨[tP 4 4, tI 5 z1.1.gPrio], [(4, .cells [aI 4, .str ut.gText, aI 0, .sl (List.map GTerm.c [vk.2])] [(3, .app 26)]), (1000000, .cells (GXr.k2 vk.1) (GXr.h4_9f vk.1))], []⟩ _ (by kernel_rfl) (fun X => by kernel_rfl) (.cons (cl_cons (c := GTerm.c) (x := vk.2) (GTerm.c_eq vk.2) (cl_nil GTerm.c)) .nil) ?_
                refine Wc.fx [.un (.b 4 3)] ⟨[tP 4 4, tI 5 z1.1.gPrio], [bC 4 [aI 4, .str ut.gText, aI 0, .sl (List.map GTerm.c [vk.2])], (1000000, .cells (GXr.k2 vk.1) (GXr.h4_9f vk.1))], []⟩ ?_
                obtain rfl := oInj h; exact Wc.ret dn
              · refine Wc.cF h595 ?_
                refine Wc.fx [] ⟨[tP 0 1000000, tP 4 4, tP 6 6, tB 8 z1.2], [(4, .cells GTerm.z [(3, .app 26)]), bC 6 (GSign.q ut), (1000000, .cells (GXr.k2 u4) (GXr.h4_9f u4))], []⟩ ?_
                refine Wc.skip ?_
                apply Wc.seq
                obtain ⟨u6j, h597, h⟩ := obind h
                refine Wc.r2 [{}, {}, { r := some (.v (.tup [.agg (GOp.q u6j.1), .bool u6j.2]) []) }] ⟨[tP 0 1000000, tP 4 4, tP 6 6, tB 8 z1.2, tB 11 u6j.2], [(4, .cells GTerm.z [(3, .app 26)]), bC 6 (GSign.q ut), (1000000, .cells (GXr.k2 u4) (GXr.h4_9f u4))], []⟩ (.cons (cQ_InfixOf h597) .nil) ?_
                apply Wc.seq
                refine Wc.seqJ (fun st => ∃ (u90 : Bool), st = ⟨[tP 0 1000000, tP 4 4, tP 6 6, tB 106 u90], [(4, .cells GTerm.z [(3, .app 26)]), bC 6 (GSign.q ut), (1000000, .cells (GXr.k2 u4) (GXr.h4_9f u4))], []⟩ ∧ pQ_l06Read_atom_J3 k (pQ_l06Read_atom k) (pQ_l06Read_primary k) (pQ_l06Read_round k) (pQ_l06Read_row k) (pQ_l06Read_some k) (pQ_l06Read_term k) u4 ut u90 = some r) ?_ ?_
                · rcases oif h with ⟨h600, h⟩ | ⟨h600, h⟩
                  · refine Wc.r2 [{}, { re := some (.bool true) }] ⟨[tP 0 1000000, tP 4 4, tP 6 6, tB 106 true], [(4, .cells GTerm.z [(3, .app 26)]), bC 6 (GSign.q ut), (1000000, .cells (GXr.k2 u4) (GXr.h4_9f u4))], []⟩ (.cons (congrArg AV.bool h600) .nil) ?_
                    exact ⟨_, rfl, h⟩
                  · refine Wc.r2 [{}, { re := some (.bool false) }] ⟨[tP 0 1000000, tP 4 4, tP 6 6, tB 106 u6j.2], [(4, .cells GTerm.z [(3, .app 26)]), bC 6 (GSign.q ut), (1000000, .cells (GXr.k2 u4) (GXr.h4_9f u4))], []⟩ (.cons (congrArg AV.bool h600) .nil) ?_
                    exact ⟨_, rfl, h⟩
                · rintro st ⟨u90, rfl, h⟩
                  rcases oif h with ⟨h598, h⟩ | ⟨h598, h⟩
                  · refine Wc.cT h598 ?_
                    apply Wc.seq
                    refine Wc.r0 ⟨[tP 4 4], [(4, .cells GTerm.z [(3, .app 26)]), (1000000, .cells [.sl (List.map GSign.c u4.gList), aI u4.gAt, .bool true, aI u4.gDeep, .slx] (GXr.h4_9f u4))], []⟩ ?_
                    apply Wc.seq
                    refine Wc.r1 [{}, { tk := [110] }] ⟨[tP 4 4, tI 5 0], [(4, .cells GTerm.z [(3, .app 26)]), (1000000, .cells [.sl (List.map GSign.c u4.gList), aI u4.gAt, .bool true, aI u4.gDeep, .slx] (GXr.h4_9f u4))], []⟩ ?_
                    refine Wc.fx [.un (.b 4 3)] ⟨[tP 4 4, tI 5 0], [bC 4 GTerm.z, (1000000, .cells [.sl (List.map GSign.c u4.gList), aI u4.gAt, .bool true, aI u4.gDeep, .slx] (GXr.h4_9f u4))], []⟩ ?_
                    obtain rfl := oInj h; exact Wc.ret dn
                  · refine Wc.cF h598 ?_
                    refine Wc.fx [] ⟨[tP 0 1000000, tP 4 4, tP 6 6], [(4, .cells GTerm.z [(3, .app 26)]), bC 6 (GSign.q ut), (1000000, .cells (GXr.k2 u4) (GXr.h4_9f u4))], []⟩ ?_
                    refine Wc.skip ?_
                    apply Wc.seq
                    refine Wc.r0 ⟨[tP 4 4, tP 6 6], [(4, .cells GTerm.z [(3, .app 26)]), bC 6 (GSign.q ut), (1000000, .cells [.sl (List.map GSign.c u4.gList), aI (wr.i64 (u4.gAt + 1)), .bool u4.gBad, aI u4.gDeep, .slx] (GXr.h4_9f u4))], []⟩ ?_
                    apply Wc.seq
                    obtain ⟨u91, h599, h⟩ := obind h
                    refine Wc.r2 [{}, {}, { r := some (.v (.agg (GTerm.q u91)) [(3, .app 26)]) }, { tk := [121] }] ⟨[tP 4 4, tI 5 0], [(4, .cells (GTerm.q u91) [(3, .app 26)]), (1000000, .cells [.sl (List.map GSign.c u4.gList), aI (wr.i64 (u4.gAt + 1)), .bool u4.gBad, aI u4.gDeep, .slx] (GXr.h4_9f u4))], []⟩ (.cons (cQ_l03Atom h599) .nil) ?_
                    refine Wc.fx [.un (.b 4 3)] ⟨[tP 4 4, tI 5 0], [bC 4 (GTerm.q u91), (1000000, .cells [.sl (List.map GSign.c u4.gList), aI (wr.i64 (u4.gAt + 1)), .bool u4.gBad, aI u4.gDeep, .slx] (GXr.h4_9f u4))], []⟩ ?_
                    obtain rfl := oInj h; exact Wc.ret dn
    · intro zs u2w r h
      rw [pQ_l06Read_primary] at h
      refine FnO.o2 Tryz.func165 (rfl : Tryz.f165.body = some _) ?_
      intro w0 X0 Fin pv0 pb gt
      apply Wc.seq
      refine Wc.r0 ⟨[tP 0 1000000, tI 1 u2w, tP 4 4], [(4, .cells GTerm.z [(3, .app 26)]), (1000000, .cells (GXr.k2 zs) (GXr.h4_9f zs))], []⟩ ?_
      apply Wc.seq
      refine Wc.block ?_
      apply Wc.seq
      obtain ⟨u1b, h604, h⟩ := obind h
      refine Wc.r2 [{}, { r := some (.v (.bool u1b.2) []), outs := [(0, .p (GXr.k2 u1b.1) (GXr.h4_9f u1b.1))] }] ⟨[tP 0 1000000, tI 1 u2w, tP 4 4, tB 6 u1b.2], [(4, .cells GTerm.z [(3, .app 26)]), (1000000, .cells (GXr.k2 u1b.1) (GXr.h4_9f u1b.1))], []⟩ (.cons (cQ_l06Read_is h604) .nil) ?_
      rcases oif h with ⟨h605, h⟩ | ⟨h605, h⟩
      · refine Wc.cT h605 ?_
        apply Wc.seq
        obtain ⟨u0h, h606, h⟩ := obind h
        refine Wc.r2 [{}, {}, { r := some (.v (.tup [.agg (GTerm.q u0h.2.1), aI u0h.2.2]) []), outs := [(0, .p (GXr.k2 u0h.1) (GXr.h4_9f u0h.1))] }] ⟨[tP 4 4, tI 5 u0h.2.2], [bC 4 (GTerm.q u0h.2.1), (1000000, .cells (GXr.k2 u0h.1) (GXr.h4_9f u0h.1))], []⟩ (.cons (ih_pQ_l06Read_atom h606) .nil) ?_
        obtain rfl := oInj h; exact Wc.ret dn
      · refine Wc.cF h605 ?_
        apply Wc.seq
        obtain ⟨u1c, h607, h⟩ := obind h
        refine Wc.r2 [{}, { r := some (.v (.bool u1c.2) []), outs := [(0, .p (GXr.k2 u1c.1) (GXr.h4_9f u1c.1))] }] ⟨[tP 0 1000000, tP 4 4, tB 14 u1c.2], [(4, .cells GTerm.z [(3, .app 26)]), (1000000, .cells (GXr.k2 u1c.1) (GXr.h4_9f u1c.1))], []⟩ (.cons (cQ_l06Read_mark h607) .nil) ?_
        rcases oif h with ⟨h608, h⟩ | ⟨h608, h⟩
        · refine Wc.cT h608 ?_
          apply Wc.seq
          obtain ⟨u1k, h609, h⟩ := obind h
          refine Wc.r2 [{}, { r := some (.v (.agg (GTerm.q u1k.2)) []), outs := [(0, .p (GXr.k2 u1k.1) (GXr.h4_9f u1k.1))] }] ⟨[tP 4 4, tI 5 0], [bC 4 (GTerm.q u1k.2), (1000000, .cells (GXr.k2 u1k.1) (GXr.h4_9f u1k.1))], []⟩ (.cons (ih_pQ_l06Read_round h609) .nil) ?_
          obtain rfl := oInj h; exact Wc.ret dn
        · refine Wc.cF h608 ?_
          apply Wc.seq
          obtain ⟨u1d, h610, h⟩ := obind h
          refine Wc.r2 [{}, { r := some (.v (.bool u1d.2) []), outs := [(0, .p (GXr.k2 u1d.1) (GXr.h4_9f u1d.1))] }] ⟨[tP 0 1000000, tP 4 4, tB 19 u1d.2], [(4, .cells GTerm.z [(3, .app 26)]), (1000000, .cells (GXr.k2 u1d.1) (GXr.h4_9f u1d.1))], []⟩ (.cons (cQ_l06Read_mark h610) .nil) ?_
          rcases oif h with ⟨h611, h⟩ | ⟨h611, h⟩
          · refine Wc.cT h611 ?_
            apply Wc.seq
            obtain ⟨u1l, h612, h⟩ := obind h
            refine Wc.r2 [{}, { r := some (.v (.agg (GTerm.q u1l.2)) []), outs := [(0, .p (GXr.k2 u1l.1) (GXr.h4_9f u1l.1))] }] ⟨[tP 4 4, tI 5 0], [bC 4 (GTerm.q u1l.2), (1000000, .cells (GXr.k2 u1l.1) (GXr.h4_9f u1l.1))], []⟩ (.cons (ih_pQ_l06Read_row h612) .nil) ?_
            obtain rfl := oInj h; exact Wc.ret dn
          · refine Wc.cF h611 ?_
            apply Wc.seq
            obtain ⟨v8, h613, h⟩ := obind h
            refine Wc.r2 [{}, { r := some (.v (.bool v8.2) []), outs := [(0, .p (GXr.k2 v8.1) (GXr.h4_9f v8.1))] }] ⟨[tP 0 1000000, tP 4 4, tB 24 v8.2], [(4, .cells GTerm.z [(3, .app 26)]), (1000000, .cells (GXr.k2 v8.1) (GXr.h4_9f v8.1))], []⟩ (.cons (cQ_l06Read_is h613) .nil) ?_
            rcases oif h with ⟨h614, h⟩ | ⟨h614, h⟩
            · refine Wc.cT h614 ?_
              apply Wc.seq
              refine Wc.r0 ⟨[tP 0 1000000, tP 4 4], [(4, .cells GTerm.z [(3, .app 26)]), (1000000, .cells [.sl (List.map GSign.c v8.1.gList), aI (wr.i64 (v8.1.gAt + 1)), .bool v8.1.gBad, aI v8.1.gDeep, .slx] (GXr.h4_9f v8.1))], []⟩ ?_
              apply Wc.seq
              obtain ⟨u5a, h615, h⟩ := obind h
              obtain ⟨u9b, h616, h⟩ := obind h
              refine Wc.draw hmix [{}, {}, {}, {}, {}, {}, {}, {}, {}, { v := some (.vptr (GSign.q u5a)) }, {}, {}, { r := some (.v (.agg (GTerm.q u9b)) [(3, .app 26)]) }, { tk := [47] }] [] [4, 5] [4, 1000000] [] ⟨[tP 4 4, tI 5 0], [(4, .cells (GTerm.q u9b) [(3, .app 26)]), (1000000, .cells [.sl (List.map GSign.c v8.1.gList), aI (wr.i64 (v8.1.gAt + 1)), .bool v8.1.gBad, aI v8.1.gDeep, .slx] (GXr.h4_9f v8.1))], []⟩ _ (by kernel_rfl) (fun X => by kernel_rfl) (.cons (at_obl (c := GSign.c) (GSign.c_eq u5a) GSign.c_len h615) (.cons (len_ok 1 [aI u5a.gNum, aI u5a.gAt, .bool u5a.gNear]) (.cons (cQ_l03Num h616) .nil))) ?_
              refine Wc.fx [.un (.b 4 3)] ⟨[tP 4 4, tI 5 0], [bC 4 (GTerm.q u9b), (1000000, .cells [.sl (List.map GSign.c v8.1.gList), aI (wr.i64 (v8.1.gAt + 1)), .bool v8.1.gBad, aI v8.1.gDeep, .slx] (GXr.h4_9f v8.1))], []⟩ ?_
              obtain rfl := oInj h; exact Wc.ret dn
            · refine Wc.cF h614 ?_
              apply Wc.seq
              obtain ⟨uu, h617, h⟩ := obind h
              refine Wc.r2 [{}, { r := some (.v (.bool uu.2) []), outs := [(0, .p (GXr.k2 uu.1) (GXr.h4_9f uu.1))] }] ⟨[tP 0 1000000, tP 4 4, tB 48 uu.2], [(4, .cells GTerm.z [(3, .app 26)]), (1000000, .cells (GXr.k2 uu.1) (GXr.h4_9f uu.1))], []⟩ (.cons (cQ_l06Read_is h617) .nil) ?_
              rcases oif h with ⟨h618, h⟩ | ⟨h618, h⟩
              · refine Wc.cT h618 ?_
                apply Wc.seq
                refine Wc.r0 ⟨[tP 0 1000000, tP 4 4], [(4, .cells GTerm.z [(3, .app 26)]), (1000000, .cells [.sl (List.map GSign.c uu.1.gList), aI (wr.i64 (uu.1.gAt + 1)), .bool uu.1.gBad, aI uu.1.gDeep, .slx] (GXr.h4_9f uu.1))], []⟩ ?_
                apply Wc.seq
                obtain ⟨u4f, h619, h⟩ := obind h
                obtain ⟨u01, h620, h⟩ := obind h
                refine Wc.draw hmix [{}, {}, {}, {}, {}, {}, {}, {}, {}, {}, { v := some (.vptr (GSign.q u4f)) }, {}, {}, { r := some (.v (.agg (GTerm.q u01.2)) [(3, .app 26)]), outs := [(0, .p (GXr.k2 u01.1) (GXr.h4_9f u01.1))] }, { tk := [72] }] [] [4, 5] [4, 1000000] [] ⟨[tP 4 4, tI 5 0], [(4, .cells (GTerm.q u01.2) [(3, .app 26)]), (1000000, .cells (GXr.k2 u01.1) (GXr.h4_9f u01.1))], []⟩ _ (by kernel_rfl) (fun X => by kernel_rfl) (.cons (at_obl (c := GSign.c) (GSign.c_eq u4f) GSign.c_len h619) (.cons (len_ok 1 [.str u4f.gText, aI u4f.gNum, aI u4f.gAt, .bool u4f.gNear]) (.cons (cQ_l06Read_variable h620) .nil))) ?_
                refine Wc.fx [.un (.b 4 3)] ⟨[tP 4 4, tI 5 0], [bC 4 (GTerm.q u01.2), (1000000, .cells (GXr.k2 u01.1) (GXr.h4_9f u01.1))], []⟩ ?_
                obtain rfl := oInj h; exact Wc.ret dn
              · refine Wc.cF h618 ?_
                refine Wc.fx [] ⟨[tP 0 1000000, tP 4 4], [(4, .cells GTerm.z [(3, .app 26)]), (1000000, .cells (GXr.k2 uu.1) (GXr.h4_9f uu.1))], []⟩ ?_
                refine Wc.skip ?_
                apply Wc.seq
                refine Wc.r0 ⟨[tP 4 4], [(4, .cells GTerm.z [(3, .app 26)]), (1000000, .cells [.sl (List.map GSign.c uu.1.gList), aI uu.1.gAt, .bool true, aI uu.1.gDeep, .slx] (GXr.h4_9f uu.1))], []⟩ ?_
                apply Wc.seq
                refine Wc.r1 [{}, { tk := [76] }] ⟨[tP 4 4, tI 5 0], [(4, .cells GTerm.z [(3, .app 26)]), (1000000, .cells [.sl (List.map GSign.c uu.1.gList), aI uu.1.gAt, .bool true, aI uu.1.gDeep, .slx] (GXr.h4_9f uu.1))], []⟩ ?_
                refine Wc.fx [.un (.b 4 3)] ⟨[tP 4 4, tI 5 0], [bC 4 GTerm.z, (1000000, .cells [.sl (List.map GSign.c uu.1.gList), aI uu.1.gAt, .bool true, aI uu.1.gDeep, .slx] (GXr.h4_9f uu.1))], []⟩ ?_
                obtain rfl := oInj h; exact Wc.ret dn
    · intro zt r h
      rw [pQ_l06Read_round] at h
      refine FnO.o2 Tryz.func214 (rfl : Tryz.f214.body = some _) ?_
      intro w0 X0 Fin pv0 pb gt
      apply Wc.seq
      refine Wc.r0 ⟨[tP 0 1000000, tP 2 2], [(2, .cells GTerm.z [(3, .app 26)]), (1000000, .cells (GXr.k2 zt) (GXr.h4_9f zt))], []⟩ ?_
      apply Wc.seq
      refine Wc.seqJ (fun st => ∃ (u95 : Bool) (v9 : GXr), st = ⟨[tP 0 1000000, tP 2 2, tB 48 u95], [(2, .cells GTerm.z [(3, .app 26)]), (1000000, .cells (GXr.k2 v9) (GXr.h4_9f v9))], []⟩ ∧ pQ_l06Read_round_J1 k (pQ_l06Read_atom k) (pQ_l06Read_primary k) (pQ_l06Read_round k) (pQ_l06Read_row k) (pQ_l06Read_some k) (pQ_l06Read_term k) u95 v9 = some r) ?_ ?_
      · obtain ⟨uj, h626, h⟩ := obind h
        rcases oif h with ⟨h627, h⟩ | ⟨h627, h⟩
        · rcases oif h with ⟨h628, h⟩ | ⟨h628, h⟩
          · obtain ⟨u4g, h629, h⟩ := obind h
            rcases oif h with ⟨h630, h⟩ | ⟨h630, h⟩
            · obtain ⟨u3w, h631, h⟩ := obind h
              refine Wc.draw hmix [{}, { r := some (.v (.bool uj.2) []), outs := [(0, .p (GXr.k2 uj.1) (GXr.h4_9f uj.1))] }, { re := some (.bool true) }, {}, {}, {}, {}, {}, {}, {}, {}, {}, { v := some (aI (uj.1.gList.length : Int)) }, {}, {}, { re := some (.bool true) }, {}, {}, {}, {}, {}, {}, {}, {}, {}, { v := some (.vptr (GSign.q u4g)) }, {}, {}, {}, {}, { re := some (.bool true) }, {}, {}, {}, {}, {}, {}, {}, {}, {}, { v := some (.vptr (GSign.q u3w)) }] [] [0, 2, 48] [2, 1000000] [] ⟨[tP 0 1000000, tP 2 2, tB 48 (sEq u3w.gText (bs [41]))], [(2, .cells GTerm.z [(3, .app 26)]), (1000000, .cells (GXr.k2 uj.1) (GXr.h4_9f uj.1))], []⟩ _ (by kernel_rfl) (fun X => by kernel_rfl) (.cons (cQ_l06Read_is h626) (.cons (congrArg AV.bool h627) (.cons (len_obl GSign.c uj.1.gList) (.cons (congrArg AV.bool h628) (.cons (at_obl (c := GSign.c) (GSign.c_eq u4g) GSign.c_len h629) (.cons (len_ok 1 (GSign.q u4g)) (.cons (congrArg AV.bool h630) (.cons (at_obl (c := GSign.c) (GSign.c_eq u3w) GSign.c_len h631) (.cons (len_ok 1 [.str u3w.gText, aI u3w.gNum, aI u3w.gAt, .bool u3w.gNear]) .nil))))))))) ?_
              exact ⟨_, _, rfl, h⟩
            · refine Wc.draw hmix [{}, { r := some (.v (.bool uj.2) []), outs := [(0, .p (GXr.k2 uj.1) (GXr.h4_9f uj.1))] }, { re := some (.bool true) }, {}, {}, {}, {}, {}, {}, {}, {}, {}, { v := some (aI (uj.1.gList.length : Int)) }, {}, {}, { re := some (.bool true) }, {}, {}, {}, {}, {}, {}, {}, {}, {}, { v := some (.vptr (GSign.q u4g)) }, {}, {}, {}, {}, { re := some (.bool false) }] [] [0, 2, 48] [2, 1000000] [] ⟨[tP 0 1000000, tP 2 2, tB 48 false], [(2, .cells GTerm.z [(3, .app 26)]), (1000000, .cells (GXr.k2 uj.1) (GXr.h4_9f uj.1))], []⟩ _ (by kernel_rfl) (fun X => by kernel_rfl) (.cons (cQ_l06Read_is h626) (.cons (congrArg AV.bool h627) (.cons (len_obl GSign.c uj.1.gList) (.cons (congrArg AV.bool h628) (.cons (at_obl (c := GSign.c) (GSign.c_eq u4g) GSign.c_len h629) (.cons (len_ok 1 (GSign.q u4g)) (.cons (congrArg AV.bool h630) .nil))))))) ?_
              exact ⟨_, _, rfl, h⟩
          · refine Wc.draw hmix [{}, { r := some (.v (.bool uj.2) []), outs := [(0, .p (GXr.k2 uj.1) (GXr.h4_9f uj.1))] }, { re := some (.bool true) }, {}, {}, {}, {}, {}, {}, {}, {}, {}, { v := some (aI (uj.1.gList.length : Int)) }, {}, {}, { re := some (.bool false) }] [] [0, 2, 48] [2, 1000000] [] ⟨[tP 0 1000000, tP 2 2, tB 48 false], [(2, .cells GTerm.z [(3, .app 26)]), (1000000, .cells (GXr.k2 uj.1) (GXr.h4_9f uj.1))], []⟩ _ (by kernel_rfl) (fun X => by kernel_rfl) (.cons (cQ_l06Read_is h626) (.cons (congrArg AV.bool h627) (.cons (len_obl GSign.c uj.1.gList) (.cons (congrArg AV.bool h628) .nil)))) ?_
            exact ⟨_, _, rfl, h⟩
        · refine Wc.draw hmix [{}, { r := some (.v (.bool uj.2) []), outs := [(0, .p (GXr.k2 uj.1) (GXr.h4_9f uj.1))] }, { re := some (.bool false) }] [] [0, 2, 48] [2, 1000000] [] ⟨[tP 0 1000000, tP 2 2, tB 48 false], [(2, .cells GTerm.z [(3, .app 26)]), (1000000, .cells (GXr.k2 uj.1) (GXr.h4_9f uj.1))], []⟩ _ (by kernel_rfl) (fun X => by kernel_rfl) (.cons (cQ_l06Read_is h626) (.cons (congrArg AV.bool h627) .nil)) ?_
          exact ⟨_, _, rfl, h⟩
      · rintro st ⟨u95, v9, rfl, h⟩
        rcases oif h with ⟨h621, h⟩ | ⟨h621, h⟩
        · refine Wc.cT h621 ?_
          apply Wc.seq
          refine Wc.r0 ⟨[tP 0 1000000, tP 2 2], [(2, .cells GTerm.z [(3, .app 26)]), (1000000, .cells [.sl (List.map GSign.c v9.gList), aI (wr.i64 (v9.gAt + 2)), .bool v9.gBad, aI v9.gDeep, .slx] (GXr.h4_9f v9))], []⟩ ?_
          apply Wc.seq
          obtain ⟨u4e, h622, h⟩ := obind h
          obtain ⟨u96, h623, h⟩ := obind h
          refine Wc.draw hmix [{}, {}, {}, {}, {}, {}, {}, {}, {}, { v := some (.vptr (GSign.q u4e)) }, {}, {}, { r := some (.v (.agg (GTerm.q u96)) [(3, .app 26)]) }, { tk := [69] }] [] [2] [2, 1000000] [] ⟨[tP 2 2], [(2, .cells (GTerm.q u96) [(3, .app 26)]), (1000000, .cells [.sl (List.map GSign.c v9.gList), aI (wr.i64 (v9.gAt + 2)), .bool v9.gBad, aI v9.gDeep, .slx] (GXr.h4_9f v9))], []⟩ _ (by kernel_rfl) (fun X => by kernel_rfl) (.cons (at_obl (c := GSign.c) (GSign.c_eq u4e) GSign.c_len h622) (.cons (len_ok 1 [.str u4e.gText, aI u4e.gNum, aI u4e.gAt, .bool u4e.gNear]) (.cons (cQ_l03Atom h623) .nil))) ?_
          refine Wc.fx [.un (.b 2 3)] ⟨[tP 2 2], [bC 2 (GTerm.q u96), (1000000, .cells [.sl (List.map GSign.c v9.gList), aI (wr.i64 (v9.gAt + 2)), .bool v9.gBad, aI v9.gDeep, .slx] (GXr.h4_9f v9))], []⟩ ?_
          obtain rfl := oInj h; exact Wc.ret dn
        · refine Wc.cF h621 ?_
          refine Wc.fx [] ⟨[tP 0 1000000, tP 2 2], [(2, .cells GTerm.z [(3, .app 26)]), (1000000, .cells (GXr.k2 v9) (GXr.h4_9f v9))], []⟩ ?_
          refine Wc.skip ?_
          apply Wc.seq
          obtain ⟨u0q, h624, h⟩ := obind h
          refine Wc.r2 [{}, { r := some (.v (.agg (GTerm.q u0q.2)) []), outs := [(0, .p (GXr.k2 u0q.1) (GXr.h4_9f u0q.1))] }] ⟨[tP 0 1000000, tP 2 2, tP 3 3], [(2, .cells GTerm.z [(3, .app 26)]), bC 3 (GTerm.q u0q.2), (1000000, .cells (GXr.k2 u0q.1) (GXr.h4_9f u0q.1))], []⟩ (.cons (ih_pQ_l06Read_term h624) .nil) ?_
          apply Wc.seq
          obtain ⟨u0r, h625, h⟩ := obind h
          refine Wc.r2 [{}, { r := some (.v (.tup []) []), outs := [(0, .p (GXr.k2 u0r) (GXr.h4_9f u0r))] }] ⟨[tP 2 2, tP 3 3], [(2, .cells GTerm.z [(3, .app 26)]), bC 3 (GTerm.q u0q.2), (1000000, .cells (GXr.k2 u0r) (GXr.h4_9f u0r))], []⟩ (.cons (cQ_l06Read_wants h625) .nil) ?_
          apply Wc.seq
          refine Wc.r0 ⟨[tP 2 2], [bC 2 (GTerm.q u0q.2), (1000000, .cells (GXr.k2 u0r) (GXr.h4_9f u0r))], []⟩ ?_
          obtain rfl := oInj h; exact Wc.ret dn
    · intro zu r h
      rw [pQ_l06Read_row] at h
      refine FnO.o2 Tryz.func215 (rfl : Tryz.f215.body = some _) ?_
      intro w0 X0 Fin pv0 pb gt
      apply Wc.seq
      refine Wc.r0 ⟨[tP 0 1000000, tP 2 2], [(2, .cells GTerm.z [(3, .app 26)]), (1000000, .cells (GXr.k2 zu) (GXr.h4_9f zu))], []⟩ ?_
      apply Wc.seq
      apply Wc.seq
      obtain ⟨v3, h632, h⟩ := obind h
      refine Wc.r2 [{}, { r := some (.v (.bool v3.2) []), outs := [(0, .p (GXr.k2 v3.1) (GXr.h4_9f v3.1))] }] ⟨[tP 0 1000000, tP 2 2, tB 7 v3.2], [(2, .cells GTerm.z [(3, .app 26)]), (1000000, .cells (GXr.k2 v3.1) (GXr.h4_9f v3.1))], []⟩ (.cons (cQ_l06Read_mark h632) .nil) ?_
      rcases oif h with ⟨h633, h⟩ | ⟨h633, h⟩
      · refine Wc.cT h633 ?_
        apply Wc.seq
        obtain ⟨u9c, h634, h⟩ := obind h
        refine Wc.r2 [{ r := some (.v (.agg (GTerm.q u9c)) [(3, .app 26)]) }, { tk := [8] }] ⟨[tP 2 2], [(2, .cells (GTerm.q u9c) [(3, .app 26)]), (1000000, .cells (GXr.k2 v3.1) (GXr.h4_9f v3.1))], []⟩ (.cons (cQ_l03Atom h634) .nil) ?_
        refine Wc.fx [.un (.b 2 3)] ⟨[tP 2 2], [bC 2 (GTerm.q u9c), (1000000, .cells (GXr.k2 v3.1) (GXr.h4_9f v3.1))], []⟩ ?_
        obtain rfl := oInj h; exact Wc.ret dn
      · refine Wc.cF h633 ?_
        refine Wc.fx [] ⟨[tP 0 1000000, tP 2 2], [(2, .cells GTerm.z [(3, .app 26)]), (1000000, .cells (GXr.k2 v3.1) (GXr.h4_9f v3.1))], []⟩ ?_
        refine Wc.skip ?_
        apply Wc.seq
        refine Wc.r2 [{ c := some (List.map GTerm.c []) }, { tk := [9] }] ⟨[tP 0 1000000, tP 2 2, (3, (.v (.sl (List.map GTerm.c [])), [(0, .app 26)]))], [(2, .cells GTerm.z [(3, .app 26)]), (1000000, .cells (GXr.k2 v3.1) (GXr.h4_9f v3.1))], []⟩ (.cons (cl_nil GTerm.c) .nil) ?_
        apply Wc.seq
        obtain ⟨u04, h635, h⟩ := obind h
        refine Wc.r2 [{ r := some (.v (.agg (GTerm.q u04)) [(3, .app 26)]) }, {}, { tk := [10] }] ⟨[tP 0 1000000, tP 2 2, (3, (.v (.sl (List.map GTerm.c [])), [(0, .app 26)])), tP 4 4], [(2, .cells GTerm.z [(3, .app 26)]), (4, .cells (GTerm.q u04) [(3, .app 26)]), (1000000, .cells (GXr.k2 v3.1) (GXr.h4_9f v3.1))], []⟩ (.cons (cQ_l03Atom h635) .nil) ?_
        obtain ⟨out1, h636, h⟩ := obind h
        refine Wc.seqJ (fun st => ∃ (u0a : List GTerm) (u6k : GTerm) (uq : GXr), out1 = .done (u0a, u6k, uq) ∧ st = ⟨[tP 2 2, (3, (.v (.sl (List.map GTerm.c u0a)), [(0, .app 26)])), tP 4 4], [(2, .cells GTerm.z [(3, .app 26)]), bC 4 (GTerm.q u6k), (1000000, .cells (GXr.k2 uq) (GXr.h4_9f uq))], []⟩) ?_ ?_
        · refine Wc.block ?_
          refine Wc.loop (fun m st => ∃ (zk : List GTerm) (z2 : GXr), st = ⟨[tP 0 1000000, tP 2 2, (3, (.v (.sl (List.map GTerm.c zk)), [(0, .app 26)])), tP 4 4], [(2, .cells GTerm.z [(3, .app 26)]), (4, .cells (GTerm.q u04) [(3, .app 26)]), (1000000, .cells (GXr.k2 z2) (GXr.h4_9f z2))], []⟩ ∧ pQ_l06Read_row_L1 k (pQ_l06Read_atom k) (pQ_l06Read_primary k) (pQ_l06Read_round k) (pQ_l06Read_row k) (pQ_l06Read_some k) (pQ_l06Read_term k) u04 m zk z2 = some out1) ?_ k ⟨_, _, rfl, h636⟩
          rintro m st ⟨zk, z2, rfl, h636⟩
          cases m with
          | zero => exact (onone h636).elim
          | succ m =>
            apply Wc.seq
            apply Wc.seq
            refine Wc.r0 ⟨[tP 0 1000000, tP 2 2, (3, (.v (.sl (List.map GTerm.c zk)), [(0, .app 26)])), tP 4 4, tB 15 (!z2.gBad)], [(2, .cells GTerm.z [(3, .app 26)]), (4, .cells (GTerm.q u04) [(3, .app 26)]), (1000000, .cells (GXr.k2 z2) (GXr.h4_9f z2))], []⟩ ?_
            rcases oif h636 with ⟨h637, h636⟩ | ⟨h637, h636⟩
            · refine Wc.cT h637 ?_
              refine Wc.fx [] ⟨[tP 0 1000000, tP 2 2, (3, (.v (.sl (List.map GTerm.c zk)), [(0, .app 26)])), tP 4 4], [(2, .cells GTerm.z [(3, .app 26)]), (4, .cells (GTerm.q u04) [(3, .app 26)]), (1000000, .cells (GXr.k2 z2) (GXr.h4_9f z2))], []⟩ ?_
              refine Wc.skip ?_
              refine Wc.block ?_
              apply Wc.seq
              obtain ⟨vd, h638, h636⟩ := obind h636
              obtain ⟨h639, h636⟩ := oguard h636
              refine Wc.r2 [{ tk := [3] }, {}, { r := some (.v (.agg (GTerm.q vd.2)) []), outs := [(0, .p (GXr.k2 vd.1) (GXr.h4_9f vd.1))] }, { c := some (List.map GTerm.c [vd.2]) }, { c := some (List.map GTerm.c (zk ++ [vd.2])), tk := [16] }, { tk := [20] }] ⟨[tP 0 1000000, tP 2 2, (3, (.v (.sl (List.map GTerm.c (zk ++ [vd.2]))), [(0, .app 26)])), tP 4 4], [(2, .cells GTerm.z [(3, .app 26)]), (4, .cells (GTerm.q u04) [(3, .app 26)]), (1000000, .cells (GXr.k2 vd.1) (GXr.h4_9f vd.1))], []⟩ (.cons (ih_pQ_l06Read_term h638) (.cons (cl_cons (c := GTerm.c) (x := vd.2) (GTerm.c_eq vd.2) (cl_nil GTerm.c)) (.cons (app_re2 GTerm.c zk [vd.2]) (.cons (app_leaf (c := GTerm.c) (ys := [vd.2]) GTerm.c_leaf) (.cons (app_obl2 (c := GTerm.c) (xs := zk) (ys := [vd.2]) GTerm.c_len h639) .nil))))) ?_
              apply Wc.seq
              apply Wc.seq
              obtain ⟨z9, h640, h636⟩ := obind h636
              refine Wc.r2 [{}, { r := some (.v (.bool z9.2) []), outs := [(0, .p (GXr.k2 z9.1) (GXr.h4_9f z9.1))] }] ⟨[tP 0 1000000, tP 2 2, (3, (.v (.sl (List.map GTerm.c (zk ++ [vd.2]))), [(0, .app 26)])), tP 4 4, tB 22 z9.2], [(2, .cells GTerm.z [(3, .app 26)]), (4, .cells (GTerm.q u04) [(3, .app 26)]), (1000000, .cells (GXr.k2 z9.1) (GXr.h4_9f z9.1))], []⟩ (.cons (cQ_l06Read_mark h640) .nil) ?_
              rcases oif h636 with ⟨h641, h636⟩ | ⟨h641, h636⟩
              · refine Wc.cT h641 ?_
                refine Wc.fx [.un (.b 4 3)] ⟨[tP 2 2, (3, (.v (.sl (List.map GTerm.c (zk ++ [vd.2]))), [(0, .app 26)])), tP 4 4], [(2, .cells GTerm.z [(3, .app 26)]), bC 4 (GTerm.q u04), (1000000, .cells (GXr.k2 z9.1) (GXr.h4_9f z9.1))], []⟩ ?_
                refine Wc.exit ?_
                obtain rfl := oInj h636
                exact ⟨_, _, _, rfl, rfl⟩
              · refine Wc.cF h641 ?_
                refine Wc.fx [] ⟨[tP 0 1000000, tP 2 2, (3, (.v (.sl (List.map GTerm.c (zk ++ [vd.2]))), [(0, .app 26)])), tP 4 4], [(2, .cells GTerm.z [(3, .app 26)]), (4, .cells (GTerm.q u04) [(3, .app 26)]), (1000000, .cells (GXr.k2 z9.1) (GXr.h4_9f z9.1))], []⟩ ?_
                refine Wc.skip ?_
                apply Wc.seq
                apply Wc.seq
                obtain ⟨zz, h642, h636⟩ := obind h636
                refine Wc.r2 [{}, { r := some (.v (.bool zz.2) []), outs := [(0, .p (GXr.k2 zz.1) (GXr.h4_9f zz.1))] }] ⟨[tP 0 1000000, tP 2 2, (3, (.v (.sl (List.map GTerm.c (zk ++ [vd.2]))), [(0, .app 26)])), tP 4 4, tB 24 zz.2], [(2, .cells GTerm.z [(3, .app 26)]), (4, .cells (GTerm.q u04) [(3, .app 26)]), (1000000, .cells (GXr.k2 zz.1) (GXr.h4_9f zz.1))], []⟩ (.cons (cQ_l06Read_mark h642) .nil) ?_
                rcases oif h636 with ⟨h643, h636⟩ | ⟨h643, h636⟩
                · refine Wc.cT h643 ?_
                  apply Wc.seq
                  obtain ⟨u1a, h644, h636⟩ := obind h636
                  refine Wc.r2 [{}, { r := some (.v (.agg (GTerm.q u1a.2)) []), outs := [(0, .p (GXr.k2 u1a.1) (GXr.h4_9f u1a.1))] }] ⟨[tP 0 1000000, tP 2 2, (3, (.v (.sl (List.map GTerm.c (zk ++ [vd.2]))), [(0, .app 26)])), tP 4 4], [(2, .cells GTerm.z [(3, .app 26)]), bC 4 (GTerm.q u1a.2), (1000000, .cells (GXr.k2 u1a.1) (GXr.h4_9f u1a.1))], []⟩ (.cons (ih_pQ_l06Read_term h644) .nil) ?_
                  apply Wc.seq
                  obtain ⟨u2i, h645, h636⟩ := obind h636
                  refine Wc.r2 [{}, { r := some (.v (.tup []) []), outs := [(0, .p (GXr.k2 u2i) (GXr.h4_9f u2i))] }] ⟨[tP 2 2, (3, (.v (.sl (List.map GTerm.c (zk ++ [vd.2]))), [(0, .app 26)])), tP 4 4], [(2, .cells GTerm.z [(3, .app 26)]), bC 4 (GTerm.q u1a.2), (1000000, .cells (GXr.k2 u2i) (GXr.h4_9f u2i))], []⟩ (.cons (cQ_l06Read_wants h645) .nil) ?_
                  refine Wc.exit ?_
                  obtain rfl := oInj h636
                  exact ⟨_, _, _, rfl, rfl⟩
                · refine Wc.cF h643 ?_
                  refine Wc.fx [] ⟨[tP 0 1000000, tP 2 2, (3, (.v (.sl (List.map GTerm.c (zk ++ [vd.2]))), [(0, .app 26)])), tP 4 4], [(2, .cells GTerm.z [(3, .app 26)]), (4, .cells (GTerm.q u04) [(3, .app 26)]), (1000000, .cells (GXr.k2 zz.1) (GXr.h4_9f zz.1))], []⟩ ?_
                  refine Wc.skip ?_
                  obtain ⟨u2j, h646, h636⟩ := obind h636
                  refine Wc.r2 [{}, { r := some (.v (.tup []) []), outs := [(0, .p (GXr.k2 u2j) (GXr.h4_9f u2j))] }] ⟨[tP 0 1000000, tP 2 2, (3, (.v (.sl (List.map GTerm.c (zk ++ [vd.2]))), [(0, .app 26)])), tP 4 4], [(2, .cells GTerm.z [(3, .app 26)]), (4, .cells (GTerm.q u04) [(3, .app 26)]), (1000000, .cells (GXr.k2 u2j) (GXr.h4_9f u2j))], []⟩ (.cons (cQ_l06Read_wants h646) .nil) ?_
                  exact ⟨_, Nat.lt_succ_self _, _, _, rfl, h636⟩
            · refine Wc.cF h637 ?_
              refine Wc.fx [.un (.b 4 3)] ⟨[tP 2 2, (3, (.v (.sl (List.map GTerm.c zk)), [(0, .app 26)])), tP 4 4], [(2, .cells GTerm.z [(3, .app 26)]), bC 4 (GTerm.q u04), (1000000, .cells (GXr.k2 z2) (GXr.h4_9f z2))], []⟩ ?_
              refine Wc.exit ?_
              obtain rfl := oInj h636
              exact ⟨_, _, _, rfl, rfl⟩
        · rintro st ⟨u0a, u6k, uq, rfl, rfl⟩
          apply Wc.seq
          apply Wc.seq
          refine Wc.r2 [{}, { v := some (aI (u0a.length : Int)) }] ⟨[tP 2 2, (3, (.v (.sl (List.map GTerm.c u0a)), [(0, .app 26)])), tP 4 4, tI 5 (wr.i64 ((u0a.length : Int) - 1))], [(2, .cells GTerm.z [(3, .app 26)]), bC 4 (GTerm.q u6k), (1000000, .cells (GXr.k2 uq) (GXr.h4_9f uq))], []⟩ (.cons (len_obl GTerm.c u0a) .nil) ?_
          obtain ⟨out2, h647, h⟩ := obind h
          refine Wc.lastJ (fun st => ∃ (u6l : GTerm), out2 = .done u6l ∧ st = ⟨[tP 2 2, tP 4 4], [(2, .cells GTerm.z [(3, .app 26)]), bC 4 (GTerm.q u6l), (1000000, .cells (GXr.k2 uq) (GXr.h4_9f uq))], []⟩) ?_ ?_
          · refine Wc.block ?_
            refine Wc.loop (fun m st => ∃ (u2k : Int) (u3u : GTerm), st = ⟨[tP 2 2, (3, (.v (.sl (List.map GTerm.c u0a)), [(0, .app 26)])), tP 4 4, tI 5 u2k], [(2, .cells GTerm.z [(3, .app 26)]), bC 4 (GTerm.q u3u), (1000000, .cells (GXr.k2 uq) (GXr.h4_9f uq))], []⟩ ∧ pQ_l06Read_row_L2 k (pQ_l06Read_atom k) (pQ_l06Read_primary k) (pQ_l06Read_round k) (pQ_l06Read_row k) (pQ_l06Read_some k) (pQ_l06Read_term k) u0a m u2k u3u = some out2) ?_ k ⟨_, _, rfl, h647⟩
            rintro m st ⟨u2k, u3u, rfl, h647⟩
            cases m with
            | zero => exact (onone h647).elim
            | succ m =>
              apply Wc.seq
              apply Wc.seq
              refine Wc.r0 ⟨[tP 2 2, (3, (.v (.sl (List.map GTerm.c u0a)), [(0, .app 26)])), tP 4 4, tI 5 u2k, tB 35 (decide (u2k ≥ 0))], [(2, .cells GTerm.z [(3, .app 26)]), bC 4 (GTerm.q u3u), (1000000, .cells (GXr.k2 uq) (GXr.h4_9f uq))], []⟩ ?_
              rcases oif h647 with ⟨h648, h647⟩ | ⟨h648, h647⟩
              · refine Wc.cT h648 ?_
                refine Wc.fx [] ⟨[tP 2 2, (3, (.v (.sl (List.map GTerm.c u0a)), [(0, .app 26)])), tP 4 4, tI 5 u2k], [(2, .cells GTerm.z [(3, .app 26)]), bC 4 (GTerm.q u3u), (1000000, .cells (GXr.k2 uq) (GXr.h4_9f uq))], []⟩ ?_
                refine Wc.skip ?_
                apply Wc.seq
                refine Wc.block ?_
                obtain ⟨u97, h649, h647⟩ := obind h647
                obtain ⟨u98, h650, h647⟩ := obind h647
                refine Wc.draw hmix [{}, {}, { v := some (.vptr (GTerm.q u97)) }, {}, {}, { r := some (.v (.agg (GTerm.q u98)) [(3, .app 26)]) }, { tk := [43] }] [] [2, 3, 4, 5] [2, 4, 1000000] [] ⟨[tP 2 2, (3, (.v (.sl (List.map GTerm.c u0a)), [(0, .app 26)])), tP 4 4, tI 5 u2k], [(2, .cells GTerm.z [(3, .app 26)]), (4, .cells (GTerm.q u98) [(3, .app 26)]), (1000000, .cells (GXr.k2 uq) (GXr.h4_9f uq))], []⟩ _ (by kernel_rfl) (fun X => by kernel_rfl) (.cons (at_obl (c := GTerm.c) (GTerm.c_eq u97) GTerm.c_len h649) (.cons (len_ok 4 (GTerm.q u97)) (.cons (cQ_l03Two h650) .nil))) ?_
                refine Wc.r3 [] [.un (.b 4 3)] ⟨[tP 2 2, (3, (.v (.sl (List.map GTerm.c u0a)), [(0, .app 26)])), tP 4 4, tI 5 (wr.i64 (u2k - 1))], [(2, .cells GTerm.z [(3, .app 26)]), bC 4 (GTerm.q u98), (1000000, .cells (GXr.k2 uq) (GXr.h4_9f uq))], []⟩ .nil ?_
                exact ⟨_, Nat.lt_succ_self _, _, _, rfl, h647⟩
              · refine Wc.cF h648 ?_
                refine Wc.fx [] ⟨[tP 2 2, tP 4 4], [(2, .cells GTerm.z [(3, .app 26)]), bC 4 (GTerm.q u3u), (1000000, .cells (GXr.k2 uq) (GXr.h4_9f uq))], []⟩ ?_
                refine Wc.exit ?_
                obtain rfl := oInj h647
                exact ⟨_, rfl, rfl⟩
          · rintro st ⟨u6l, rfl, rfl⟩
            apply Wc.seq
            refine Wc.r0 ⟨[tP 2 2], [bC 2 (GTerm.q u6l), (1000000, .cells (GXr.k2 uq) (GXr.h4_9f uq))], []⟩ ?_
            obtain rfl := oInj h; exact Wc.ret dn
    · intro z5 u2x r h
      rw [pQ_l06Read_some] at h
      refine FnO.o2 Tryz.func245 (rfl : Tryz.f245.body = some _) ?_
      intro w0 X0 Fin pv0 pb gt
      apply Wc.seq
      refine Wc.r0 ⟨[tP 0 1000000, tS 1 u2x, tP 4 4], [(4, .cells GTerm.z [(3, .app 26)]), (1000000, .cells (GXr.k2 z5) (GXr.h4_9f z5))], []⟩ ?_
      apply Wc.seq
      refine Wc.r1 [{}, {}, {}, { tk := [8] }] ⟨[tP 0 1000000, tP 4 4, tP 5 5], [(4, .cells GTerm.z [(3, .app 26)]), (5, .cells [aI 4, .str u2x, aI 0, .sl (List.map GTerm.c [])] [(3, .app 26)]), (1000000, .cells (GXr.k2 z5) (GXr.h4_9f z5))], []⟩ ?_
      obtain ⟨out1, h651, h⟩ := obind h
      refine Wc.seqJ (fun st => ∃ (u6m : GTerm) (u1t : GXr), out1 = .done (u6m, u1t) ∧ st = ⟨[tP 4 4, tP 5 5], [(4, .cells GTerm.z [(3, .app 26)]), (5, .cells (GTerm.q u6m) [(3, .app 26)]), (1000000, .cells (GXr.k2 u1t) (GXr.h4_9f u1t))], []⟩) ?_ ?_
      · refine Wc.block ?_
        refine Wc.loop (fun m st => ∃ (ur : GTerm) (z3 : GXr), st = ⟨[tP 0 1000000, tP 4 4, tP 5 5], [(4, .cells GTerm.z [(3, .app 26)]), (5, .cells (GTerm.q ur) [(3, .app 26)]), (1000000, .cells (GXr.k2 z3) (GXr.h4_9f z3))], []⟩ ∧ pQ_l06Read_some_L1 k (pQ_l06Read_atom k) (pQ_l06Read_primary k) (pQ_l06Read_round k) (pQ_l06Read_row k) (pQ_l06Read_some k) (pQ_l06Read_term k) m ur z3 = some out1) ?_ k ⟨_, _, rfl, h651⟩
        rintro m st ⟨ur, z3, rfl, h651⟩
        cases m with
        | zero => exact (onone h651).elim
        | succ m =>
          apply Wc.seq
          apply Wc.seq
          refine Wc.r0 ⟨[tP 0 1000000, tP 4 4, tP 5 5, tB 13 (!z3.gBad)], [(4, .cells GTerm.z [(3, .app 26)]), (5, .cells (GTerm.q ur) [(3, .app 26)]), (1000000, .cells (GXr.k2 z3) (GXr.h4_9f z3))], []⟩ ?_
          rcases oif h651 with ⟨h652, h651⟩ | ⟨h652, h651⟩
          · refine Wc.cT h652 ?_
            refine Wc.fx [] ⟨[tP 0 1000000, tP 4 4, tP 5 5], [(4, .cells GTerm.z [(3, .app 26)]), (5, .cells (GTerm.q ur) [(3, .app 26)]), (1000000, .cells (GXr.k2 z3) (GXr.h4_9f z3))], []⟩ ?_
            refine Wc.skip ?_
            refine Wc.block ?_
            apply Wc.seq
            obtain ⟨up, h653, h651⟩ := obind h651
            refine Wc.r2 [{}, { r := some (.v (.agg (GTerm.q up.2)) []), outs := [(0, .p (GXr.k2 up.1) (GXr.h4_9f up.1))] }] ⟨[tP 0 1000000, tP 4 4, tP 5 5, tP 6 6], [(4, .cells GTerm.z [(3, .app 26)]), (5, .cells (GTerm.q ur) [(3, .app 26)]), bC 6 (GTerm.q up.2), (1000000, .cells (GXr.k2 up.1) (GXr.h4_9f up.1))], []⟩ (.cons (ih_pQ_l06Read_term h653) .nil) ?_
            apply Wc.seq
            apply Wc.seq
            refine Wc.r2 [{}, {}, { v := some (aI (ur.gKids.length : Int)) }] ⟨[tP 0 1000000, tP 4 4, tP 5 5, tP 6 6, tB 19 (decide ((ur.gKids.length : Int) ≥ 5))], [(4, .cells GTerm.z [(3, .app 26)]), (5, .cells (GTerm.q ur) [(3, .app 26)]), bC 6 (GTerm.q up.2), (1000000, .cells (GXr.k2 up.1) (GXr.h4_9f up.1))], []⟩ (.cons (len_obl GTerm.c ur.gKids) .nil) ?_
            rcases oif h651 with ⟨h654, h651⟩ | ⟨h654, h651⟩
            · refine Wc.cT h654 ?_
              apply Wc.seq
              refine Wc.r0 ⟨[tP 4 4, tP 5 5], [(4, .cells GTerm.z [(3, .app 26)]), (5, .cells (GTerm.q ur) [(3, .app 26)]), (1000000, .cells [.sl (List.map GSign.c up.1.gList), aI up.1.gAt, .bool true, aI up.1.gDeep, .slx] (GXr.h4_9f up.1))], []⟩ ?_
              refine Wc.exit ?_
              obtain rfl := oInj h651
              exact ⟨_, _, rfl, rfl⟩
            · refine Wc.cF h654 ?_
              refine Wc.fx [] ⟨[tP 0 1000000, tP 4 4, tP 5 5, tP 6 6], [(4, .cells GTerm.z [(3, .app 26)]), (5, .cells (GTerm.q ur) [(3, .app 26)]), bC 6 (GTerm.q up.2), (1000000, .cells (GXr.k2 up.1) (GXr.h4_9f up.1))], []⟩ ?_
              refine Wc.skip ?_
              apply Wc.seq
              obtain ⟨h655, h651⟩ := oguard h651
              refine Wc.r2 [{}, { md := 1 }, {}, { c := some (List.map GTerm.c [up.2]) }, { c := some (List.map GTerm.c (ur.gKids ++ [up.2])), tk := [24] }, {}, { tk := [27] }] ⟨[tP 0 1000000, tP 4 4, tP 5 5], [(4, .cells GTerm.z [(3, .app 26)]), (5, .cells [aI ur.gKind, .str ur.gName, aI ur.gNum, .sl (List.map GTerm.c (ur.gKids ++ [up.2]))] [(3, .app 26)]), (1000000, .cells (GXr.k2 up.1) (GXr.h4_9f up.1))], []⟩ (.cons (cl_cons (c := GTerm.c) (x := up.2) (GTerm.c_eq up.2) (cl_nil GTerm.c)) (.cons (app_re2 GTerm.c ur.gKids [up.2]) (.cons (app_leaf (c := GTerm.c) (ys := [up.2]) GTerm.c_leaf) (.cons (app_obl2 (c := GTerm.c) (xs := ur.gKids) (ys := [up.2]) GTerm.c_len h655) .nil)))) ?_
              apply Wc.seq
              apply Wc.seq
              obtain ⟨za, h656, h651⟩ := obind h651
              refine Wc.r2 [{}, { r := some (.v (.bool za.2) []), outs := [(0, .p (GXr.k2 za.1) (GXr.h4_9f za.1))] }] ⟨[tP 0 1000000, tP 4 4, tP 5 5, tB 30 za.2], [(4, .cells GTerm.z [(3, .app 26)]), (5, .cells [aI ur.gKind, .str ur.gName, aI ur.gNum, .sl (List.map GTerm.c (ur.gKids ++ [up.2]))] [(3, .app 26)]), (1000000, .cells (GXr.k2 za.1) (GXr.h4_9f za.1))], []⟩ (.cons (cQ_l06Read_mark h656) .nil) ?_
              rcases oif h651 with ⟨h657, h651⟩ | ⟨h657, h651⟩
              · refine Wc.cT h657 ?_
                refine Wc.fx [] ⟨[tP 4 4, tP 5 5], [(4, .cells GTerm.z [(3, .app 26)]), (5, .cells [aI ur.gKind, .str ur.gName, aI ur.gNum, .sl (List.map GTerm.c (ur.gKids ++ [up.2]))] [(3, .app 26)]), (1000000, .cells (GXr.k2 za.1) (GXr.h4_9f za.1))], []⟩ ?_
                refine Wc.exit ?_
                obtain rfl := oInj h651
                exact ⟨_, _, rfl, rfl⟩
              · refine Wc.cF h657 ?_
                refine Wc.fx [] ⟨[tP 0 1000000, tP 4 4, tP 5 5], [(4, .cells GTerm.z [(3, .app 26)]), (5, .cells [aI ur.gKind, .str ur.gName, aI ur.gNum, .sl (List.map GTerm.c (ur.gKids ++ [up.2]))] [(3, .app 26)]), (1000000, .cells (GXr.k2 za.1) (GXr.h4_9f za.1))], []⟩ ?_
                refine Wc.skip ?_
                obtain ⟨u2l, h658, h651⟩ := obind h651
                refine Wc.r2 [{}, { r := some (.v (.tup []) []), outs := [(0, .p (GXr.k2 u2l) (GXr.h4_9f u2l))] }] ⟨[tP 0 1000000, tP 4 4, tP 5 5], [(4, .cells GTerm.z [(3, .app 26)]), (5, .cells [aI ur.gKind, .str ur.gName, aI ur.gNum, .sl (List.map GTerm.c (ur.gKids ++ [up.2]))] [(3, .app 26)]), (1000000, .cells (GXr.k2 u2l) (GXr.h4_9f u2l))], []⟩ (.cons (cQ_l06Read_wants h658) .nil) ?_
                exact ⟨_, Nat.lt_succ_self _, _, _, rfl, h651⟩
          · refine Wc.cF h652 ?_
            refine Wc.fx [] ⟨[tP 4 4, tP 5 5], [(4, .cells GTerm.z [(3, .app 26)]), (5, .cells (GTerm.q ur) [(3, .app 26)]), (1000000, .cells (GXr.k2 z3) (GXr.h4_9f z3))], []⟩ ?_
            refine Wc.exit ?_
            obtain rfl := oInj h651
            exact ⟨_, _, rfl, rfl⟩
      · rintro st ⟨u6m, u1t, rfl, rfl⟩
        apply Wc.seq
        refine Wc.r1 [{ md := 1 }, { tk := [33] }] ⟨[tP 4 4], [(4, .cells (GTerm.q u6m) [(3, .app 26)]), (1000000, .cells (GXr.k2 u1t) (GXr.h4_9f u1t))], []⟩ ?_
        obtain rfl := oInj h; exact Wc.ret dn
    · intro uf v7 r h
      rw [pQ_l06Read_term] at h
      refine FnO.o2 Tryz.func99 (rfl : Tryz.f99.body = some _) ?_
      intro w0 X0 Fin pv0 pb gt
      apply Wc.seq
      refine Wc.r0 ⟨[tP 0 1000000, tI 1 v7, tP 4 4], [(4, .cells GTerm.z [(3, .app 26)]), (1000000, .cells (GXr.k2 uf) (GXr.h4_9f uf))], []⟩ ?_
      apply Wc.seq
      refine Wc.r0 ⟨[tP 0 1000000, tI 1 v7, tP 4 4], [(4, .cells GTerm.z [(3, .app 26)]), (1000000, .cells [.sl (List.map GSign.c uf.gList), aI uf.gAt, .bool uf.gBad, aI (wr.i64 (uf.gDeep + 1)), .slx] (GXr.h4_9f uf))], []⟩ ?_
      apply Wc.seq
      refine Wc.seqJ (fun st => ∃ (u9a : Bool), st = ⟨[tP 0 1000000, tI 1 v7, tP 4 4, tB 28 u9a], [(4, .cells GTerm.z [(3, .app 26)]), (1000000, .cells [.sl (List.map GSign.c uf.gList), aI uf.gAt, .bool uf.gBad, aI (wr.i64 (uf.gDeep + 1)), .slx] (GXr.h4_9f uf))], []⟩ ∧ pQ_l06Read_term_J1 k (pQ_l06Read_atom k) (pQ_l06Read_primary k) (pQ_l06Read_round k) (pQ_l06Read_row k) (pQ_l06Read_some k) (pQ_l06Read_term k) uf v7 u9a = some r) ?_ ?_
      · rcases oif h with ⟨h669, h⟩ | ⟨h669, h⟩
        · refine Wc.r2 [{}, {}, {}, {}, { re := some (.bool true) }] ⟨[tP 0 1000000, tI 1 v7, tP 4 4, tB 28 true], [(4, .cells GTerm.z [(3, .app 26)]), (1000000, .cells [.sl (List.map GSign.c uf.gList), aI uf.gAt, .bool uf.gBad, aI (wr.i64 (uf.gDeep + 1)), .slx] (GXr.h4_9f uf))], []⟩ (.cons (congrArg AV.bool h669) .nil) ?_
          exact ⟨_, rfl, h⟩
        · refine Wc.r2 [{}, {}, {}, {}, { re := some (.bool false) }] ⟨[tP 0 1000000, tI 1 v7, tP 4 4, tB 28 (decide ((wr.i64 (uf.gDeep + 1)) > 130))], [(4, .cells GTerm.z [(3, .app 26)]), (1000000, .cells [.sl (List.map GSign.c uf.gList), aI uf.gAt, .bool uf.gBad, aI (wr.i64 (uf.gDeep + 1)), .slx] (GXr.h4_9f uf))], []⟩ (.cons (congrArg AV.bool h669) .nil) ?_
          exact ⟨_, rfl, h⟩
      · rintro st ⟨u9a, rfl, h⟩
        rcases oif h with ⟨h659, h⟩ | ⟨h659, h⟩
        · refine Wc.cT h659 ?_
          apply Wc.seq
          refine Wc.r0 ⟨[tP 4 4], [(4, .cells GTerm.z [(3, .app 26)]), (1000000, .cells [.sl (List.map GSign.c uf.gList), aI uf.gAt, .bool true, aI (wr.i64 (uf.gDeep + 1)), .slx] (GXr.h4_9f uf))], []⟩ ?_
          apply Wc.seq
          refine Wc.r1 [{}, { tk := [32] }] ⟨[tP 4 4], [(4, .cells GTerm.z [(3, .app 26)]), (1000000, .cells [.sl (List.map GSign.c uf.gList), aI uf.gAt, .bool true, aI (wr.i64 (uf.gDeep + 1)), .slx] (GXr.h4_9f uf))], []⟩ ?_
          refine Wc.fx [.un (.b 4 3)] ⟨[tP 4 4], [bC 4 GTerm.z, (1000000, .cells [.sl (List.map GSign.c uf.gList), aI uf.gAt, .bool true, aI (wr.i64 (uf.gDeep + 1)), .slx] (GXr.h4_9f uf))], []⟩ ?_
          obtain rfl := oInj h; exact Wc.ret dn
        · refine Wc.cF h659 ?_
          refine Wc.fx [] ⟨[tP 0 1000000, tI 1 v7, tP 4 4], [(4, .cells GTerm.z [(3, .app 26)]), (1000000, .cells [.sl (List.map GSign.c uf.gList), aI uf.gAt, .bool uf.gBad, aI (wr.i64 (uf.gDeep + 1)), .slx] (GXr.h4_9f uf))], []⟩ ?_
          refine Wc.skip ?_
          apply Wc.seq
          obtain ⟨u0g, h660, h⟩ := obind h
          refine Wc.r2 [{}, {}, { r := some (.v (.tup [.agg (GTerm.q u0g.2.1), aI u0g.2.2]) []), outs := [(0, .p (GXr.k2 u0g.1) (GXr.h4_9f u0g.1))] }] ⟨[tP 0 1000000, tI 1 v7, tP 4 4, tP 5 5, tI 6 u0g.2.2], [(4, .cells GTerm.z [(3, .app 26)]), bC 5 (GTerm.q u0g.2.1), (1000000, .cells (GXr.k2 u0g.1) (GXr.h4_9f u0g.1))], []⟩ (.cons (ih_pQ_l06Read_primary h660) .nil) ?_
          obtain ⟨out2, h661, h⟩ := obind h
          refine Wc.seqJ (fun st => ∃ (u59 : GTerm) (zo : GXr), out2 = .done (u59, zo) ∧ st = ⟨[tP 0 1000000, tP 4 4, tP 5 5], [(4, .cells GTerm.z [(3, .app 26)]), bC 5 (GTerm.q u59), (1000000, .cells (GXr.k2 zo) (GXr.h4_9f zo))], []⟩) ?_ ?_
          · refine Wc.block ?_
            refine Wc.loop (fun m st => ∃ (u3v : Int) (zr : GTerm) (z4 : GXr), st = ⟨[tP 0 1000000, tI 1 v7, tP 4 4, tP 5 5, tI 6 u3v], [(4, .cells GTerm.z [(3, .app 26)]), bC 5 (GTerm.q zr), (1000000, .cells (GXr.k2 z4) (GXr.h4_9f z4))], []⟩ ∧ pQ_l06Read_term_L2 k (pQ_l06Read_atom k) (pQ_l06Read_primary k) (pQ_l06Read_round k) (pQ_l06Read_row k) (pQ_l06Read_some k) (pQ_l06Read_term k) v7 m u3v zr z4 = some out2) ?_ k ⟨_, _, _, rfl, h661⟩
            rintro m st ⟨u3v, zr, z4, rfl, h661⟩
            cases m with
            | zero => exact (onone h661).elim
            | succ m =>
              apply Wc.seq
              apply Wc.seq
              refine Wc.r0 ⟨[tP 0 1000000, tI 1 v7, tP 4 4, tP 5 5, tI 6 u3v, tB 43 (!z4.gBad)], [(4, .cells GTerm.z [(3, .app 26)]), bC 5 (GTerm.q zr), (1000000, .cells (GXr.k2 z4) (GXr.h4_9f z4))], []⟩ ?_
              rcases oif h661 with ⟨h662, h661⟩ | ⟨h662, h661⟩
              · refine Wc.cT h662 ?_
                refine Wc.fx [] ⟨[tP 0 1000000, tI 1 v7, tP 4 4, tP 5 5, tI 6 u3v], [(4, .cells GTerm.z [(3, .app 26)]), bC 5 (GTerm.q zr), (1000000, .cells (GXr.k2 z4) (GXr.h4_9f z4))], []⟩ ?_
                refine Wc.skip ?_
                refine Wc.block ?_
                apply Wc.seq
                obtain ⟨ud, h663, h661⟩ := obind h661
                refine Wc.r2 [{}, { r := some (.v (.tup [.agg (GOp.q ud.2.1), .bool ud.2.2]) []), outs := [(0, .p (GXr.k2 ud.1) (GXr.h4_9f ud.1))] }] ⟨[tP 0 1000000, tI 1 v7, tP 4 4, tP 5 5, tI 6 u3v, tP 7 7, tB 8 ud.2.2], [(4, .cells GTerm.z [(3, .app 26)]), bC 5 (GTerm.q zr), bC 7 (GOp.q ud.2.1), (1000000, .cells (GXr.k2 ud.1) (GXr.h4_9f ud.1))], []⟩ (.cons (cQ_l06Read_infix h663) .nil) ?_
                apply Wc.seq
                apply Wc.seq
                rcases oif h661 with ⟨h664, h661⟩ | ⟨h664, h661⟩
                · refine Wc.r2 [{}, {}, { re := some (.bool true) }] ⟨[tP 0 1000000, tI 1 v7, tP 4 4, tP 5 5, tP 7 7, tB 62 true], [(4, .cells GTerm.z [(3, .app 26)]), bC 5 (GTerm.q zr), bC 7 (GOp.q ud.2.1), (1000000, .cells (GXr.k2 ud.1) (GXr.h4_9f ud.1))], []⟩ (.cons (congrArg AV.bool h664) .nil) ?_
                  refine Wc.cT rfl ?_
                  refine Wc.fx [] ⟨[tP 0 1000000, tP 4 4, tP 5 5], [(4, .cells GTerm.z [(3, .app 26)]), bC 5 (GTerm.q zr), (1000000, .cells (GXr.k2 ud.1) (GXr.h4_9f ud.1))], []⟩ ?_
                  refine Wc.exit ?_
                  obtain rfl := oInj h661
                  exact ⟨_, _, rfl, rfl⟩
                · rcases oif h661 with ⟨h665, h661⟩ | ⟨h665, h661⟩
                  · refine Wc.r2 [{}, {}, { re := some (.bool false) }, {}, {}, {}, {}, {}, { re := some (.bool true) }] ⟨[tP 0 1000000, tI 1 v7, tP 4 4, tP 5 5, tP 7 7, tB 62 true], [(4, .cells GTerm.z [(3, .app 26)]), bC 5 (GTerm.q zr), bC 7 (GOp.q ud.2.1), (1000000, .cells (GXr.k2 ud.1) (GXr.h4_9f ud.1))], []⟩ (.cons (congrArg AV.bool h664) (.cons (congrArg AV.bool h665) .nil)) ?_
                    refine Wc.cT rfl ?_
                    refine Wc.fx [] ⟨[tP 0 1000000, tP 4 4, tP 5 5], [(4, .cells GTerm.z [(3, .app 26)]), bC 5 (GTerm.q zr), (1000000, .cells (GXr.k2 ud.1) (GXr.h4_9f ud.1))], []⟩ ?_
                    refine Wc.exit ?_
                    obtain rfl := oInj h661
                    exact ⟨_, _, rfl, rfl⟩
                  · refine Wc.r2 [{}, {}, { re := some (.bool false) }, {}, {}, {}, {}, {}, { re := some (.bool false) }] ⟨[tP 0 1000000, tI 1 v7, tP 4 4, tP 5 5, tP 7 7, tB 62 (decide (ud.2.1.gLeft < u3v))], [(4, .cells GTerm.z [(3, .app 26)]), bC 5 (GTerm.q zr), bC 7 (GOp.q ud.2.1), (1000000, .cells (GXr.k2 ud.1) (GXr.h4_9f ud.1))], []⟩ (.cons (congrArg AV.bool h664) (.cons (congrArg AV.bool h665) .nil)) ?_
                    rcases oif h661 with ⟨h666, h661⟩ | ⟨h666, h661⟩
                    · refine Wc.cT h666 ?_
                      refine Wc.fx [] ⟨[tP 0 1000000, tP 4 4, tP 5 5], [(4, .cells GTerm.z [(3, .app 26)]), bC 5 (GTerm.q zr), (1000000, .cells (GXr.k2 ud.1) (GXr.h4_9f ud.1))], []⟩ ?_
                      refine Wc.exit ?_
                      obtain rfl := oInj h661
                      exact ⟨_, _, rfl, rfl⟩
                    · refine Wc.cF h666 ?_
                      refine Wc.fx [] ⟨[tP 0 1000000, tI 1 v7, tP 4 4, tP 5 5, tP 7 7], [(4, .cells GTerm.z [(3, .app 26)]), bC 5 (GTerm.q zr), bC 7 (GOp.q ud.2.1), (1000000, .cells (GXr.k2 ud.1) (GXr.h4_9f ud.1))], []⟩ ?_
                      refine Wc.skip ?_
                      apply Wc.seq
                      refine Wc.r0 ⟨[tP 0 1000000, tI 1 v7, tP 4 4, tP 5 5, tP 7 7], [(4, .cells GTerm.z [(3, .app 26)]), bC 5 (GTerm.q zr), bC 7 (GOp.q ud.2.1), (1000000, .cells [.sl (List.map GSign.c ud.1.gList), aI (wr.i64 (ud.1.gAt + 1)), .bool ud.1.gBad, aI ud.1.gDeep, .slx] (GXr.h4_9f ud.1))], []⟩ ?_
                      apply Wc.seq
                      obtain ⟨zf, h667, h661⟩ := obind h661
                      refine Wc.r2 [{}, {}, {}, { r := some (.v (.agg (GTerm.q zf.2)) []), outs := [(0, .p (GXr.k2 zf.1) (GXr.h4_9f zf.1))] }] ⟨[tP 0 1000000, tI 1 v7, tP 4 4, tP 5 5, tP 7 7, tP 9 9], [(4, .cells GTerm.z [(3, .app 26)]), bC 5 (GTerm.q zr), bC 7 (GOp.q ud.2.1), bC 9 (GTerm.q zf.2), (1000000, .cells (GXr.k2 zf.1) (GXr.h4_9f zf.1))], []⟩ (.cons (ih_pQ_l06Read_term h667) .nil) ?_
                      apply Wc.seq
                      obtain ⟨u99, h668, h661⟩ := obind h661
                      refine Wc.r2 [{}, {}, {}, {}, { r := some (.v (.agg (GTerm.q u99)) [(3, .app 26)]) }, { tk := [79] }] ⟨[tP 0 1000000, tI 1 v7, tP 4 4, tP 5 5, tP 7 7], [(4, .cells GTerm.z [(3, .app 26)]), (5, .cells (GTerm.q u99) [(3, .app 26)]), bC 7 (GOp.q ud.2.1), (1000000, .cells (GXr.k2 zf.1) (GXr.h4_9f zf.1))], []⟩ (.cons (cQ_l03Two h668) .nil) ?_
                      refine Wc.r3 [] [.un (.b 5 3)] ⟨[tP 0 1000000, tI 1 v7, tP 4 4, tP 5 5, tI 6 ud.2.1.gPrio], [(4, .cells GTerm.z [(3, .app 26)]), bC 5 (GTerm.q u99), (1000000, .cells (GXr.k2 zf.1) (GXr.h4_9f zf.1))], []⟩ .nil ?_
                      exact ⟨_, Nat.lt_succ_self _, _, _, _, rfl, h661⟩
              · refine Wc.cF h662 ?_
                refine Wc.fx [] ⟨[tP 0 1000000, tP 4 4, tP 5 5], [(4, .cells GTerm.z [(3, .app 26)]), bC 5 (GTerm.q zr), (1000000, .cells (GXr.k2 z4) (GXr.h4_9f z4))], []⟩ ?_
                refine Wc.exit ?_
                obtain rfl := oInj h661
                exact ⟨_, _, rfl, rfl⟩
          · rintro st ⟨u59, zo, rfl, rfl⟩
            apply Wc.seq
            refine Wc.r0 ⟨[tP 4 4, tP 5 5], [(4, .cells GTerm.z [(3, .app 26)]), bC 5 (GTerm.q u59), (1000000, .cells [.sl (List.map GSign.c zo.gList), aI zo.gAt, .bool zo.gBad, aI (wr.i64 (zo.gDeep - 1)), .slx] (GXr.h4_9f zo))], []⟩ ?_
            apply Wc.seq
            refine Wc.r0 ⟨[tP 4 4], [bC 4 (GTerm.q u59), (1000000, .cells [.sl (List.map GSign.c zo.gList), aI zo.gAt, .bool zo.gBad, aI (wr.i64 (zo.gDeep - 1)), .slx] (GXr.h4_9f zo))], []⟩ ?_
            obtain rfl := oInj h; exact Wc.ret dn
theorem cQ_l06Read_term {k : Nat} {uf : GXr} {v7 : Int} {r : GXr × GTerm} (h : pQ_l06Read_term k uf v7 = some r) : FnO Tryz.prog 99 [.p (GXr.k2 uf) (GXr.h4_9f uf), .v (aI v7) []] (.v (.agg (GTerm.q r.2)) []) [(0, .p (GXr.k2 r.1) (GXr.h4_9f r.1))] := (all_pQ_l06Read_atom k).2.2.2.2.2 h

def pQ_ReadSigns_J1 (k : Nat) (u05 : Int) (zg : GXr × GTerm) (u9d : Bool) (zv : GXr) : Option (GTerm × (List ByteArray) × Int × Bool) :=
  if u9d = true then
    some (GTerm.mk 0 (bs []) 0 [], [], u05, false)
  else
    if ([] : List ByteArray).length + zv.gNames.length ≤ 1073741824 then
      some (zg.2, zv.gNames, wr.i64 (zv.gAt + 1), true)
    else none
def pQ_ReadSigns (k : Nat) (u22 : List GSign) (u2y : Int) : Option (GTerm × (List ByteArray) × Int × Bool) :=
  (pQ_l06Behind k u22 u2y).bind fun u05 =>
  (pQ_l01In k u2y 0 (wr.i64 ((u22.length : Int) - 1))).bind fun uc8 =>
  if (!uc8) = true then
    some (GTerm.mk 0 (bs []) 0 [], [], u05, false)
  else
    (pQ_l06Read_term k (GXr.mk u22 u2y false 0 []) 1200).bind fun zg =>
    (pQ_l06Read_is k zg.1 5 (bs [])).bind fun zb =>
    if (!zb.2) = true then
      pQ_ReadSigns_J1 k u05 zg true zb.1
    else
      (pQ_TermOk k zg.2).bind fun uc9 =>
      pQ_ReadSigns_J1 k u05 zg (!uc9) zb.1
theorem cQ_ReadSigns {k : Nat} {u22 : List GSign} {u2y : Int} {r : GTerm × (List ByteArray) × Int × Bool} (h : pQ_ReadSigns k u22 u2y = some r) : FnO Tryz.prog 45 [.v (.sl (List.map GSign.c u22)) [], .v (aI u2y) []] (.v (.tup [.agg (GTerm.q r.1), .sl (List.map cS r.2.1), aI r.2.2.1, .bool r.2.2.2]) [(4, .app 9)]) [] := by
  refine FnO.o2 Tryz.func45 (rfl : Tryz.f45.body = some _) ?_
  intro w0 X0 Fin pv0 pb gt
  unfold pQ_ReadSigns at h
  apply Wc.seq
  refine Wc.r0 ⟨[tV 0 (.sl (List.map GSign.c u22)), tI 1 u2y, tP 4 4], [(4, .cells GTerm.z [(3, .app 26)])], []⟩ ?_
  apply Wc.seq
  obtain ⟨u05, h679, h⟩ := obind h
  refine Wc.r2 [{}, {}, { r := some (.v (aI u05) []) }] ⟨[tV 0 (.sl (List.map GSign.c u22)), tI 1 u2y, tP 4 4, tI 8 u05], [(4, .cells GTerm.z [(3, .app 26)])], []⟩ (.cons (cQ_l06Behind h679) .nil) ?_
  apply Wc.seq
  apply Wc.seq
  obtain ⟨uc8, h680, h⟩ := obind h
  refine Wc.r2 [{}, {}, { v := some (aI (u22.length : Int)) }, {}, { r := some (.v (.bool uc8) []) }] ⟨[tV 0 (.sl (List.map GSign.c u22)), tI 1 u2y, tP 4 4, tI 8 u05, tB 19 (!uc8)], [(4, .cells GTerm.z [(3, .app 26)])], []⟩ (.cons (len_obl GSign.c u22) (.cons (cQ_l01In h680) .nil)) ?_
  rcases oif h with ⟨h681, h⟩ | ⟨h681, h⟩
  · refine Wc.cT h681 ?_
    apply Wc.seq
    refine Wc.r2 [{}, { c := some (List.map cS []) }, {}, { tk := [20] }, { tk := [21] }] ⟨[tP 4 4, (5, (.v (.sl (List.map cS [])), [(0, .app 9)])), tI 6 u05, tB 7 false], [(4, .cells GTerm.z [(3, .app 26)])], []⟩ (.cons (cl_nil cS) .nil) ?_
    refine Wc.fx [.un (.b 4 3)] ⟨[tP 4 4, (5, (.v (.sl (List.map cS [])), [(0, .app 9)])), tI 6 u05, tB 7 false], [bC 4 GTerm.z], []⟩ ?_
    obtain rfl := oInj h; exact Wc.ret dn
  · refine Wc.cF h681 ?_
    refine Wc.fx [] ⟨[tV 0 (.sl (List.map GSign.c u22)), tI 1 u2y, tP 4 4, tI 8 u05], [(4, .cells GTerm.z [(3, .app 26)])], []⟩ ?_
    refine Wc.skip ?_
    apply Wc.seq
    refine Wc.r1 [{}, {}, {}, { tk := [25] }] ⟨[tP 4 4, tI 8 u05, tP 9 26], [(4, .cells GTerm.z [(3, .app 26)]), (26, .cells [.sl (List.map GSign.c u22), aI u2y, .bool false, aI 0, .sl (List.map cS [])] [(4, .app 9)])], []⟩ ?_
    apply Wc.seq
    obtain ⟨zg, h682, h⟩ := obind h
    refine Wc.r2 [{}, { r := some (.v (.agg (GTerm.q zg.2)) []), outs := [(0, .p (GXr.k2 zg.1) (GXr.h4_9f zg.1))], fx := [.ow (.b 26 4) false] }] ⟨[tP 4 4, tI 8 u05, tP 9 26, tP 10 10], [(4, .cells GTerm.z [(3, .app 26)]), bC 10 (GTerm.q zg.2), (26, .cells (GXr.k2 zg.1) (GXr.h4_9f zg.1))], []⟩ (.cons (cQ_l06Read_term h682) .nil) ?_
    apply Wc.seq
    refine Wc.seqJ (fun st => ∃ (u9d : Bool) (zv : GXr), st = ⟨[tP 4 4, tI 8 u05, tP 9 26, tP 10 10, tB 36 u9d], [(4, .cells GTerm.z [(3, .app 26)]), bC 10 (GTerm.q zg.2), (26, .cells (GXr.k2 zv) (GXr.h4_9f zv))], []⟩ ∧ pQ_ReadSigns_J1 k u05 zg u9d zv = some r) ?_ ?_
    · obtain ⟨zb, h685, h⟩ := obind h
      rcases oif h with ⟨h686, h⟩ | ⟨h686, h⟩
      · refine Wc.r2 [{}, { r := some (.v (.bool zb.2) []), outs := [(0, .p (GXr.k2 zb.1) (GXr.h4_9f zb.1))] }, {}, { re := some (.bool true) }] ⟨[tP 4 4, tI 8 u05, tP 9 26, tP 10 10, tB 36 true], [(4, .cells GTerm.z [(3, .app 26)]), bC 10 (GTerm.q zg.2), (26, .cells (GXr.k2 zb.1) (GXr.h4_9f zb.1))], []⟩ (.cons (cQ_l06Read_is h685) (.cons (congrArg AV.bool h686) .nil)) ?_
        exact ⟨_, _, rfl, h⟩
      · obtain ⟨uc9, h687, h⟩ := obind h
        refine Wc.r2 [{}, { r := some (.v (.bool zb.2) []), outs := [(0, .p (GXr.k2 zb.1) (GXr.h4_9f zb.1))] }, {}, { re := some (.bool false) }, {}, { r := some (.v (.bool uc9) []) }] ⟨[tP 4 4, tI 8 u05, tP 9 26, tP 10 10, tB 36 (!uc9)], [(4, .cells GTerm.z [(3, .app 26)]), bC 10 (GTerm.q zg.2), (26, .cells (GXr.k2 zb.1) (GXr.h4_9f zb.1))], []⟩ (.cons (cQ_l06Read_is h685) (.cons (congrArg AV.bool h686) (.cons (cQ_TermOk h687) .nil))) ?_
        exact ⟨_, _, rfl, h⟩
    · rintro st ⟨u9d, zv, rfl, h⟩
      rcases oif h with ⟨h683, h⟩ | ⟨h683, h⟩
      · refine Wc.cT h683 ?_
        apply Wc.seq
        refine Wc.r2 [{}, { c := some (List.map cS []) }, {}, { tk := [37] }, { tk := [38] }] ⟨[tP 4 4, (5, (.v (.sl (List.map cS [])), [(0, .app 9)])), tI 6 u05, tB 7 false], [(4, .cells GTerm.z [(3, .app 26)])], []⟩ (.cons (cl_nil cS) .nil) ?_
        refine Wc.fx [.un (.b 4 3)] ⟨[tP 4 4, (5, (.v (.sl (List.map cS [])), [(0, .app 9)])), tI 6 u05, tB 7 false], [bC 4 GTerm.z], []⟩ ?_
        obtain rfl := oInj h; exact Wc.ret dn
      · refine Wc.cF h683 ?_
        refine Wc.fx [] ⟨[tP 4 4, tP 9 26, tP 10 10], [(4, .cells GTerm.z [(3, .app 26)]), bC 10 (GTerm.q zg.2), (26, .cells (GXr.k2 zv) (GXr.h4_9f zv))], []⟩ ?_
        refine Wc.skip ?_
        apply Wc.seq
        obtain ⟨h684, h⟩ := oguard h
        refine Wc.draw hmix [{}, { c := some (List.map cS []) }, {}, {}, {}, {}, { c := some (List.map cS zv.gNames), tk := [41] }, {}, {}, {}, {}, {}, {}, { tk := [46] }] [] [4, 5, 6, 7] [4] [] ⟨[tP 4 4, (5, (.v (.sl (List.map cS zv.gNames)), [(0, .app 9)])), tI 6 (wr.i64 (zv.gAt + 1)), tB 7 true], [bC 4 (GTerm.q zg.2)], []⟩ _ (by kernel_rfl) (fun X => by kernel_rfl) (.cons (cl_nil cS) (.cons (app_re0 cS zv.gNames) (.cons (app_leaf (c := cS) (ys := zv.gNames) cS_leaf) (.cons (app_obl2 (c := cS) (xs := []) (ys := zv.gNames) cS_len h684) .nil)))) ?_
        obtain rfl := oInj h; exact Wc.ret dn

def pQ_ReadTerm_J1 (k : Nat) (vu : GTerm × (List ByteArray) × Int × Bool) (u9e : Bool) : Option (GTerm × (List ByteArray) × Bool) :=
  if u9e = true then
    some (GTerm.mk 0 (bs []) 0 [], [], false)
  else
    some (vu.1, vu.2.1, true)
def pQ_ReadTerm (k : Nat) (u9f : ByteArray) : Option (GTerm × (List ByteArray) × Bool) :=
  (pQ_SignsOf k u9f).bind fun u3b =>
  (pQ_ReadSigns k u3b.1 0).bind fun vu =>
  if (!vu.2.2.2) = true then
    pQ_ReadTerm_J1 k vu true
  else
    pQ_ReadTerm_J1 k vu (vu.2.2.1 != (u3b.1.length : Int))
theorem cQ_ReadTerm {k : Nat} {u9f : ByteArray} {r : GTerm × (List ByteArray) × Bool} (h : pQ_ReadTerm k u9f = some r) : FnO Tryz.prog 11 [.v (.str u9f) []] (.v (.tup [.agg (GTerm.q r.1), .sl (List.map cS r.2.1), .bool r.2.2]) [(4, .app 9)]) [] := by
  refine FnO.o2 Tryz.func11 (rfl : Tryz.f11.body = some _) ?_
  intro w0 X0 Fin pv0 pb gt
  unfold pQ_ReadTerm at h
  apply Wc.seq
  refine Wc.r0 ⟨[tS 0 u9f, tP 2 2], [(2, .cells GTerm.z [(3, .app 26)])], []⟩ ?_
  apply Wc.seq
  obtain ⟨u3b, h692, h⟩ := obind h
  refine Wc.r2 [{}, { r := some (.v (.tup [.sl (List.map GSign.c u3b.1), .bool u3b.2]) [(0, .app 86)]) }, { tk := [13] }, { tk := [11] }, {}, { tk := [14] }] ⟨[tP 2 2, (5, (.v (.sl (List.map GSign.c u3b.1)), [(0, .app 86)]))], [(2, .cells GTerm.z [(3, .app 26)])], []⟩ (.cons (cQ_SignsOf h692) .nil) ?_
  apply Wc.seq
  obtain ⟨vu, h693, h⟩ := obind h
  refine Wc.r2 [{}, { r := some (.v (.tup [.agg (GTerm.q vu.1), .sl (List.map cS vu.2.1), aI vu.2.2.1, .bool vu.2.2.2]) [(4, .app 9)]) }, { tk := [18] }, {}, { tk := [16] }, {}, {}, {}, {}, { tk := [20] }] ⟨[tP 2 2, (5, (.v (.sl (List.map GSign.c u3b.1)), [(0, .app 86)])), tP 7 7, (8, (.v (.sl (List.map cS vu.2.1)), [(0, .app 9)])), tI 9 vu.2.2.1, tB 10 vu.2.2.2], [(2, .cells GTerm.z [(3, .app 26)]), bC 7 (GTerm.q vu.1)], []⟩ (.cons (cQ_ReadSigns h693) .nil) ?_
  apply Wc.seq
  refine Wc.seqJ (fun st => ∃ (u9e : Bool), st = ⟨[tP 2 2, tP 7 7, (8, (.v (.sl (List.map cS vu.2.1)), [(0, .app 9)])), tB 30 u9e], [(2, .cells GTerm.z [(3, .app 26)]), bC 7 (GTerm.q vu.1)], []⟩ ∧ pQ_ReadTerm_J1 k vu u9e = some r) ?_ ?_
  · rcases oif h with ⟨h695, h⟩ | ⟨h695, h⟩
    · refine Wc.r2 [{}, {}, { re := some (.bool true) }] ⟨[tP 2 2, tP 7 7, (8, (.v (.sl (List.map cS vu.2.1)), [(0, .app 9)])), tB 30 true], [(2, .cells GTerm.z [(3, .app 26)]), bC 7 (GTerm.q vu.1)], []⟩ (.cons (congrArg AV.bool h695) .nil) ?_
      exact ⟨_, rfl, h⟩
    · refine Wc.r2 [{}, {}, { re := some (.bool false) }, {}, { tk := [5] }, { v := some (aI (u3b.1.length : Int)) }] ⟨[tP 2 2, tP 7 7, (8, (.v (.sl (List.map cS vu.2.1)), [(0, .app 9)])), tB 30 (vu.2.2.1 != (u3b.1.length : Int))], [(2, .cells GTerm.z [(3, .app 26)]), bC 7 (GTerm.q vu.1)], []⟩ (.cons (congrArg AV.bool h695) (.cons (len_obl GSign.c u3b.1) .nil)) ?_
      exact ⟨_, rfl, h⟩
  · rintro st ⟨u9e, rfl, h⟩
    rcases oif h with ⟨h694, h⟩ | ⟨h694, h⟩
    · refine Wc.cT h694 ?_
      apply Wc.seq
      refine Wc.r2 [{}, { c := some (List.map cS []) }, { tk := [31] }, { tk := [32] }] ⟨[tP 2 2, (3, (.v (.sl (List.map cS [])), [(0, .app 9)])), tB 4 false], [(2, .cells GTerm.z [(3, .app 26)])], []⟩ (.cons (cl_nil cS) .nil) ?_
      refine Wc.fx [.un (.b 2 3)] ⟨[tP 2 2, (3, (.v (.sl (List.map cS [])), [(0, .app 9)])), tB 4 false], [bC 2 GTerm.z], []⟩ ?_
      obtain rfl := oInj h; exact Wc.ret dn
    · refine Wc.cF h694 ?_
      refine Wc.fx [] ⟨[tP 2 2, tP 7 7, (8, (.v (.sl (List.map cS vu.2.1)), [(0, .app 9)]))], [(2, .cells GTerm.z [(3, .app 26)]), bC 7 (GTerm.q vu.1)], []⟩ ?_
      refine Wc.skip ?_
      apply Wc.seq
      refine Wc.r1 [{}, { tk := [8] }, {}, { tk := [34] }] ⟨[tP 2 2, (3, (.v (.sl (List.map cS vu.2.1)), [(0, .app 9)])), tB 4 true], [bC 2 (GTerm.q vu.1)], []⟩ ?_
      obtain rfl := oInj h; exact Wc.ret dn

def pQ_l03Any_L1 (k : Nat) (vq : GXc × Int) : Nat → Int → GTerm → Option (Out (GXc × GTerm) GTerm)
  | 0, _, _ => none
  | m + 1, u2z, u1u =>
    if (4 : Int) ≠ 0 then
      if (decide (u2z < (wr.i64 (38 + (Int.tmod vq.2 4))))) = true then
        pQ_l03Any_L1 k vq m (wr.i64 (u2z + 1)) (GTerm.mk 4 (bs [115]) 0 [u1u])
      else
        some (.done u1u)
    else none
def pQ_l03Any (k : Nat) (u9g : GXc) : Option (GXc × GTerm) :=
  (pQ_l01Below k u9g 12).bind fun u06 =>
  (pQ_l01Below k u06.1 60).bind fun vq =>
  (pQ_l03Made k vq.1 3).bind fun ui =>
  if (u06.2 == 0) = true then
    if (6 : Int) ≠ 0 then
      some (ui.1, GTerm.mk (Int.tmod vq.2 6) ui.2.gName ui.2.gNum ui.2.gKids)
    else none
  else
    if (u06.2 == 1) = true then
      if (4 : Int) ≠ 0 then
        (at' [(bs []), (bs [97, 32, 98]), (bs [39]), (bs [97, 97, 97, 97, 97, 97, 97, 97, 97, 97, 97, 97, 97, 97, 97, 97, 97, 97, 97, 97, 97])] (Int.tmod vq.2 4)).bind fun u6n =>
        some (ui.1, GTerm.mk ui.2.gKind u6n ui.2.gNum ui.2.gKids)
      else none
    else
      if (u06.2 == 2) = true then
        if (3 : Int) ≠ 0 then
          (at' [-1, 100000, 1000000000] (Int.tmod vq.2 3)).bind fun u6o =>
          some (ui.1, GTerm.mk ui.2.gKind ui.2.gName u6o ui.2.gKids)
        else none
      else
        if (u06.2 == 3) = true then
          (pQ_l03Any_L1 k vq k 0 ui.2).bind fun out1 => match out1 with
          | .ret r => some r
          | .done u6p =>
            some (ui.1, u6p)
        else
          some (ui.1, ui.2)
set_option maxHeartbeats 4000000 in
theorem cQ_l03Any {k : Nat} {u9g : GXc} {r : GXc × GTerm} (h : pQ_l03Any k u9g = some r) : FnO Tryz.prog 46 [.p (GXc.q u9g) []] (.v (.agg (GTerm.q r.2)) [(3, .app 26)]) [(0, .p (GXc.q r.1) [])] := by
  refine FnO.o2 Tryz.func46 (rfl : Tryz.f46.body = some _) ?_
  intro w0 X0 Fin pv0 pb gt
  unfold pQ_l03Any at h
  apply Wc.seq
  refine Wc.r0 ⟨[tP 0 1000000, tP 2 2], [(2, .cells GTerm.z [(3, .app 26)]), bC 1000000 (GXc.q u9g)], []⟩ ?_
  apply Wc.seq
  obtain ⟨u06, h711, h⟩ := obind h
  refine Wc.r2 [{}, { r := some (.v (aI u06.2) []), outs := [(0, .p (GXc.q u06.1) [])] }] ⟨[tP 0 1000000, tP 2 2, tI 3 u06.2], [(2, .cells GTerm.z [(3, .app 26)]), bC 1000000 (GXc.q u06.1)], []⟩ (.cons (cQ_l01Below h711) .nil) ?_
  apply Wc.seq
  obtain ⟨vq, h712, h⟩ := obind h
  refine Wc.r2 [{}, { r := some (.v (aI vq.2) []), outs := [(0, .p (GXc.q vq.1) [])] }] ⟨[tP 0 1000000, tP 2 2, tI 3 u06.2, tI 4 vq.2], [(2, .cells GTerm.z [(3, .app 26)]), bC 1000000 (GXc.q vq.1)], []⟩ (.cons (cQ_l01Below h712) .nil) ?_
  apply Wc.seq
  obtain ⟨ui, h713, h⟩ := obind h
  refine Wc.r2 [{}, { r := some (.v (.agg (GTerm.q ui.2)) [(3, .app 26)]), outs := [(0, .p (GXc.q ui.1) [])] }, {}, { tk := [12] }] ⟨[tP 2 2, tI 3 u06.2, tI 4 vq.2, tP 5 5], [(2, .cells GTerm.z [(3, .app 26)]), (5, .cells (GTerm.q ui.2) [(3, .app 26)]), bC 1000000 (GXc.q ui.1)], []⟩ (.cons (cQ_l03Made h713) .nil) ?_
  apply Wc.seq
  apply Wc.seq
  refine Wc.r0 ⟨[tP 2 2, tI 4 vq.2, tP 5 5, tI 13 u06.2], [(2, .cells GTerm.z [(3, .app 26)]), (5, .cells (GTerm.q ui.2) [(3, .app 26)]), bC 1000000 (GXc.q ui.1)], []⟩ ?_
  refine Wc.block ?_
  apply Wc.seq
  refine Wc.r0 ⟨[tP 2 2, tI 4 vq.2, tP 5 5, tI 13 u06.2, tB 14 (u06.2 == 0)], [(2, .cells GTerm.z [(3, .app 26)]), (5, .cells (GTerm.q ui.2) [(3, .app 26)]), bC 1000000 (GXc.q ui.1)], []⟩ ?_
  rcases oif h with ⟨h714, h⟩ | ⟨h714, h⟩
  · refine Wc.cT h714 ?_
    obtain ⟨h715, h⟩ := oguard h
    refine Wc.r2 [] ⟨[tP 2 2, tP 5 5], [(2, .cells GTerm.z [(3, .app 26)]), (5, .cells [aI (Int.tmod vq.2 6), .str ui.2.gName, aI ui.2.gNum, .sl (List.map GTerm.c ui.2.gKids)] [(3, .app 26)]), bC 1000000 (GXc.q ui.1)], []⟩ (.cons h715 .nil) ?_
    apply Wc.seq
    refine Wc.r1 [{ md := 1 }, { tk := [47] }] ⟨[tP 2 2], [(2, .cells [aI (Int.tmod vq.2 6), .str ui.2.gName, aI ui.2.gNum, .sl (List.map GTerm.c ui.2.gKids)] [(3, .app 26)]), bC 1000000 (GXc.q ui.1)], []⟩ ?_
    obtain rfl := oInj h; exact Wc.ret dn
  · refine Wc.cF h714 ?_
    apply Wc.seq
    refine Wc.r0 ⟨[tP 2 2, tI 4 vq.2, tP 5 5, tI 13 u06.2, tB 19 (u06.2 == 1)], [(2, .cells GTerm.z [(3, .app 26)]), (5, .cells (GTerm.q ui.2) [(3, .app 26)]), bC 1000000 (GXc.q ui.1)], []⟩ ?_
    rcases oif h with ⟨h716, h⟩ | ⟨h716, h⟩
    · refine Wc.cT h716 ?_
      obtain ⟨h717, h⟩ := oguard h
      obtain ⟨u6n, h718, h⟩ := obind h
      refine Wc.r2 [{ c := some (List.map cS [(bs []), (bs [97, 32, 98]), (bs [39]), (bs [97, 97, 97, 97, 97, 97, 97, 97, 97, 97, 97, 97, 97, 97, 97, 97, 97, 97, 97, 97, 97])]) }, {}, {}, { v := some (.vptr [.str u6n]) }] ⟨[tP 2 2, tP 5 5], [(2, .cells GTerm.z [(3, .app 26)]), (5, .cells [aI ui.2.gKind, .str u6n, aI ui.2.gNum, .sl (List.map GTerm.c ui.2.gKids)] [(3, .app 26)]), bC 1000000 (GXc.q ui.1)], []⟩ (.cons (cl_cons (c := cS) (x := (bs [])) rfl (cl_cons (c := cS) (x := (bs [97, 32, 98])) rfl (cl_cons (c := cS) (x := (bs [39])) rfl (cl_cons (c := cS) (x := (bs [97, 97, 97, 97, 97, 97, 97, 97, 97, 97, 97, 97, 97, 97, 97, 97, 97, 97, 97, 97, 97])) rfl (cl_nil cS))))) (.cons h717 (.cons (at_obl (c := cS) rfl cS_len h718) (.cons (len_ok 1 [.str u6n]) .nil)))) ?_
      apply Wc.seq
      refine Wc.r1 [{ md := 1 }, { tk := [47] }] ⟨[tP 2 2], [(2, .cells [aI ui.2.gKind, .str u6n, aI ui.2.gNum, .sl (List.map GTerm.c ui.2.gKids)] [(3, .app 26)]), bC 1000000 (GXc.q ui.1)], []⟩ ?_
      obtain rfl := oInj h; exact Wc.ret dn
    · refine Wc.cF h716 ?_
      apply Wc.seq
      refine Wc.r0 ⟨[tP 2 2, tI 4 vq.2, tP 5 5, tI 13 u06.2, tB 27 (u06.2 == 2)], [(2, .cells GTerm.z [(3, .app 26)]), (5, .cells (GTerm.q ui.2) [(3, .app 26)]), bC 1000000 (GXc.q ui.1)], []⟩ ?_
      rcases oif h with ⟨h719, h⟩ | ⟨h719, h⟩
      · refine Wc.cT h719 ?_
        obtain ⟨h720, h⟩ := oguard h
        obtain ⟨u6o, h721, h⟩ := obind h
        refine Wc.r2 [{ c := some (List.map cI.i64 [-1, 100000, 1000000000]) }, {}, {}, { v := some (.vptr [aI u6o]) }] ⟨[tP 2 2, tP 5 5], [(2, .cells GTerm.z [(3, .app 26)]), (5, .cells [aI ui.2.gKind, .str ui.2.gName, aI u6o, .sl (List.map GTerm.c ui.2.gKids)] [(3, .app 26)]), bC 1000000 (GXc.q ui.1)], []⟩ (.cons (cl_cons (c := cI.i64) (x := -1) rfl (cl_cons (c := cI.i64) (x := 100000) rfl (cl_cons (c := cI.i64) (x := 1000000000) rfl (cl_nil cI.i64)))) (.cons h720 (.cons (at_obl (c := cI.i64) rfl cI.i64_len h721) (.cons (len_ok 1 [aI u6o]) .nil)))) ?_
        apply Wc.seq
        refine Wc.r1 [{ md := 1 }, { tk := [47] }] ⟨[tP 2 2], [(2, .cells [aI ui.2.gKind, .str ui.2.gName, aI u6o, .sl (List.map GTerm.c ui.2.gKids)] [(3, .app 26)]), bC 1000000 (GXc.q ui.1)], []⟩ ?_
        obtain rfl := oInj h; exact Wc.ret dn
      · refine Wc.cF h719 ?_
        apply Wc.seq
        refine Wc.r0 ⟨[tP 2 2, tI 4 vq.2, tP 5 5, tB 35 (u06.2 == 3)], [(2, .cells GTerm.z [(3, .app 26)]), (5, .cells (GTerm.q ui.2) [(3, .app 26)]), bC 1000000 (GXc.q ui.1)], []⟩ ?_
        rcases oif h with ⟨h722, h⟩ | ⟨h722, h⟩
        · refine Wc.cT h722 ?_
          apply Wc.seq
          refine Wc.r0 ⟨[tP 2 2, tI 4 vq.2, tP 5 5, tI 6 0], [(2, .cells GTerm.z [(3, .app 26)]), (5, .cells (GTerm.q ui.2) [(3, .app 26)]), bC 1000000 (GXc.q ui.1)], []⟩ ?_
          obtain ⟨out1, h723, h⟩ := obind h
          refine Wc.lastJ (fun st => ∃ (u6p : GTerm), out1 = .done u6p ∧ st = ⟨[tP 2 2, tP 5 5], [(2, .cells GTerm.z [(3, .app 26)]), (5, .cells (GTerm.q u6p) [(3, .app 26)]), bC 1000000 (GXc.q ui.1)], []⟩) ?_ ?_
          · refine Wc.block ?_
            refine Wc.loop (fun m st => ∃ (u2z : Int) (u1u : GTerm), st = ⟨[tP 2 2, tI 4 vq.2, tP 5 5, tI 6 u2z], [(2, .cells GTerm.z [(3, .app 26)]), (5, .cells (GTerm.q u1u) [(3, .app 26)]), bC 1000000 (GXc.q ui.1)], []⟩ ∧ pQ_l03Any_L1 k vq m u2z u1u = some out1) ?_ k ⟨_, _, rfl, h723⟩
            rintro m st ⟨u2z, u1u, rfl, h723⟩
            cases m with
            | zero => exact (onone h723).elim
            | succ m =>
              apply Wc.seq
              apply Wc.seq
              obtain ⟨h724, h723⟩ := oguard h723
              refine Wc.r2 [] ⟨[tP 2 2, tI 4 vq.2, tP 5 5, tI 6 u2z, tB 41 (decide (u2z < (wr.i64 (38 + (Int.tmod vq.2 4)))))], [(2, .cells GTerm.z [(3, .app 26)]), (5, .cells (GTerm.q u1u) [(3, .app 26)]), bC 1000000 (GXc.q ui.1)], []⟩ (.cons h724 .nil) ?_
              rcases oif h723 with ⟨h725, h723⟩ | ⟨h725, h723⟩
              · refine Wc.cT h725 ?_
                refine Wc.fx [] ⟨[tP 2 2, tI 4 vq.2, tP 5 5, tI 6 u2z], [(2, .cells GTerm.z [(3, .app 26)]), (5, .cells (GTerm.q u1u) [(3, .app 26)]), bC 1000000 (GXc.q ui.1)], []⟩ ?_
                refine Wc.skip ?_
                apply Wc.seq
                refine Wc.block ?_
                refine Wc.r2 [{}, { c := some (List.map GTerm.c [u1u]) }, { tk := [45] }, { tk := [46] }] ⟨[tP 2 2, tI 4 vq.2, tP 5 5, tI 6 u2z], [(2, .cells GTerm.z [(3, .app 26)]), (5, .cells [aI 4, .str (bs [115]), aI 0, .sl (List.map GTerm.c [u1u])] [(3, .app 26)]), bC 1000000 (GXc.q ui.1)], []⟩ (.cons (cl_cons (c := GTerm.c) (x := u1u) (GTerm.c_eq u1u) (cl_nil GTerm.c)) .nil) ?_
                refine Wc.r0 ⟨[tP 2 2, tI 4 vq.2, tP 5 5, tI 6 (wr.i64 (u2z + 1))], [(2, .cells GTerm.z [(3, .app 26)]), (5, .cells [aI 4, .str (bs [115]), aI 0, .sl (List.map GTerm.c [u1u])] [(3, .app 26)]), bC 1000000 (GXc.q ui.1)], []⟩ ?_
                exact ⟨_, Nat.lt_succ_self _, _, _, rfl, h723⟩
              · refine Wc.cF h725 ?_
                refine Wc.fx [] ⟨[tP 2 2, tP 5 5], [(2, .cells GTerm.z [(3, .app 26)]), (5, .cells (GTerm.q u1u) [(3, .app 26)]), bC 1000000 (GXc.q ui.1)], []⟩ ?_
                refine Wc.exit ?_
                obtain rfl := oInj h723
                exact ⟨_, rfl, rfl⟩
          · rintro st ⟨u6p, rfl, rfl⟩
            apply Wc.seq
            refine Wc.r1 [{ md := 1 }, { tk := [47] }] ⟨[tP 2 2], [(2, .cells (GTerm.q u6p) [(3, .app 26)]), bC 1000000 (GXc.q ui.1)], []⟩ ?_
            obtain rfl := oInj h; exact Wc.ret dn
        · refine Wc.cF h722 ?_
          refine Wc.fx [] ⟨[tP 2 2, tP 5 5], [(2, .cells GTerm.z [(3, .app 26)]), (5, .cells (GTerm.q ui.2) [(3, .app 26)]), bC 1000000 (GXc.q ui.1)], []⟩ ?_
          refine Wc.skip ?_
          apply Wc.seq
          refine Wc.r1 [{ md := 1 }, { tk := [47] }] ⟨[tP 2 2], [(2, .cells (GTerm.q ui.2) [(3, .app 26)]), bC 1000000 (GXc.q ui.1)], []⟩ ?_
          obtain rfl := oInj h; exact Wc.ret dn

def pQ_DrawWriteTerm (k : Nat) (u9h : List Int) : Option GTerm :=
  (pQ_l01New k u9h).bind fun ucu =>
  (pQ_l03Any k ucu).bind fun u9i =>
  some u9i.2
theorem cQ_DrawWriteTerm {k : Nat} {u9h : List Int} {r : GTerm} (h : pQ_DrawWriteTerm k u9h = some r) : FnO Tryz.prog 12 [.v (.sl (List.map cI.u8 u9h)) []] (.v (.agg (GTerm.q r)) [(3, .app 26)]) [] := by
  refine FnO.o2 Tryz.func12 (rfl : Tryz.f12.body = some _) ?_
  intro w0 X0 Fin pv0 pb gt
  unfold pQ_DrawWriteTerm at h
  apply Wc.seq
  refine Wc.r0 ⟨[tV 0 (.sl (List.map cI.u8 u9h)), tP 2 2], [(2, .cells GTerm.z [(3, .app 26)])], []⟩ ?_
  apply Wc.seq
  obtain ⟨ucu, h728, h⟩ := obind h
  obtain ⟨u9i, h729, h⟩ := obind h
  refine Wc.r2 [{}, { r := some (.p (GXc.q ucu) []) }, { r := some (.v (.agg (GTerm.q u9i.2)) [(3, .app 26)]), outs := [(0, .p (GXc.q u9i.1) [])] }, { tk := [5] }] ⟨[tP 2 2], [(2, .cells (GTerm.q u9i.2) [(3, .app 26)])], []⟩ (.cons (cQ_l01New h728) (.cons (cQ_l03Any h729) .nil)) ?_
  obtain rfl := oInj h; exact Wc.ret dn

def pQ_DrawAtomText (k : Nat) (u9j : List Int) : Option ByteArray :=
  (pQ_l01New k u9j).bind fun uca =>
  (pQ_l01Pick k uca [(bs [97]), (bs []), (bs [65]), (bs [43]), (bs [46]), (bs [91, 93]), (bs [120, 45, 121]), (bs [33]), (bs [44]), (bs [61, 46, 46]), (bs [97, 49, 95, 66]), (bs [49, 50])]).bind fun u9k =>
  some u9k.2
theorem cQ_DrawAtomText {k : Nat} {u9j : List Int} {r : ByteArray} (h : pQ_DrawAtomText k u9j = some r) : FnO Tryz.prog 13 [.v (.sl (List.map cI.u8 u9j)) []] (.v (.str r) []) [] := by
  refine FnO.o2 Tryz.func13 (rfl : Tryz.f13.body = some _) ?_
  intro w0 X0 Fin pv0 pb gt
  unfold pQ_DrawAtomText at h
  apply Wc.seq
  refine Wc.r0 ⟨[tV 0 (.sl (List.map cI.u8 u9j))], [], []⟩ ?_
  apply Wc.seq
  obtain ⟨uca, h730, h⟩ := obind h
  refine Wc.r2 [{}, { r := some (.p (GXc.q uca) []) }] ⟨[tP 3 5], [bC 5 (GXc.q uca)], []⟩ (.cons (cQ_l01New h730) .nil) ?_
  apply Wc.seq
  obtain ⟨u9k, h731, h⟩ := obind h
  refine Wc.r2 [{}, { c := some (List.map cS [(bs [97]), (bs []), (bs [65]), (bs [43]), (bs [46]), (bs [91, 93]), (bs [120, 45, 121]), (bs [33]), (bs [44]), (bs [61, 46, 46]), (bs [97, 49, 95, 66]), (bs [49, 50])]) }, { r := some (.v (.str u9k.2) []), outs := [(0, .p (GXc.q u9k.1) [])] }] ⟨[tS 2 u9k.2], [], []⟩ (.cons (cl_cons (c := cS) (x := (bs [97])) rfl (cl_cons (c := cS) (x := (bs [])) rfl (cl_cons (c := cS) (x := (bs [65])) rfl (cl_cons (c := cS) (x := (bs [43])) rfl (cl_cons (c := cS) (x := (bs [46])) rfl (cl_cons (c := cS) (x := (bs [91, 93])) rfl (cl_cons (c := cS) (x := (bs [120, 45, 121])) rfl (cl_cons (c := cS) (x := (bs [33])) rfl (cl_cons (c := cS) (x := (bs [44])) rfl (cl_cons (c := cS) (x := (bs [61, 46, 46])) rfl (cl_cons (c := cS) (x := (bs [97, 49, 95, 66])) rfl (cl_cons (c := cS) (x := (bs [49, 50])) rfl (cl_nil cS))))))))))))) (.cons (cQ_l01Pick h731) .nil)) ?_
  obtain rfl := oInj h; exact Wc.ret dn

def pQ_l03At_L1 (k : Nat) (u07 : List Int) (u0s : Int) : Nat → Int → Option (Out Int Unit)
  | 0, _ => none
  | m + 1, u1m =>
    if (decide (u1m < (u07.length : Int))) = true then
      (at' u07 u1m).bind fun u9l =>
      if (u9l == u0s) = true then
        some (.ret u1m)
      else
        pQ_l03At_L1 k u07 u0s m (wr.i64 (u1m + 1))
    else
      some (.done ())
def pQ_l03At (k : Nat) (u07 : List Int) (u0s : Int) : Option Int :=
  (pQ_l03At_L1 k u07 u0s k 0).bind fun out1 => match out1 with
  | .ret r => some r
  | .done () =>
    some (-1)
theorem cQ_l03At {k : Nat} {u07 : List Int} {u0s : Int} {r : Int} (h : pQ_l03At k u07 u0s = some r) : FnO Tryz.prog 101 [.v (.sl (List.map cI.i64 u07)) [], .v (aI u0s) []] (.v (aI r) []) [] := by
  refine FnO.o2 Tryz.func101 (rfl : Tryz.f101.body = some _) ?_
  intro w0 X0 Fin pv0 pb gt
  unfold pQ_l03At at h
  apply Wc.seq
  refine Wc.r0 ⟨[tV 0 (.sl (List.map cI.i64 u07)), tI 1 u0s], [], []⟩ ?_
  apply Wc.seq
  apply Wc.seq
  refine Wc.r0 ⟨[tV 0 (.sl (List.map cI.i64 u07)), tI 1 u0s, tI 5 0], [], []⟩ ?_
  obtain ⟨out1, h732, h⟩ := obind h
  refine Wc.lastJ (fun st => out1 = .done () ∧ st = ⟨[], [], []⟩) ?_ ?_
  · refine Wc.block ?_
    refine Wc.loop (fun m st => ∃ (u1m : Int), st = ⟨[tV 0 (.sl (List.map cI.i64 u07)), tI 1 u0s, tI 5 u1m], [], []⟩ ∧ pQ_l03At_L1 k u07 u0s m u1m = some out1) ?_ k ⟨_, rfl, h732⟩
    rintro m st ⟨u1m, rfl, h732⟩
    cases m with
    | zero => exact (onone h732).elim
    | succ m =>
      apply Wc.seq
      apply Wc.seq
      refine Wc.r2 [{}, {}, { v := some (aI (u07.length : Int)) }] ⟨[tV 0 (.sl (List.map cI.i64 u07)), tI 1 u0s, tI 5 u1m, tB 9 (decide (u1m < (u07.length : Int)))], [], []⟩ (.cons (len_obl cI.i64 u07) .nil) ?_
      rcases oif h732 with ⟨h733, h732⟩ | ⟨h733, h732⟩
      · refine Wc.cT h733 ?_
        refine Wc.fx [] ⟨[tV 0 (.sl (List.map cI.i64 u07)), tI 1 u0s, tI 5 u1m], [], []⟩ ?_
        refine Wc.skip ?_
        apply Wc.seq
        refine Wc.block ?_
        apply Wc.seq
        obtain ⟨u9l, h734, h732⟩ := obind h732
        refine Wc.r2 [{}, {}, { v := some (.vptr [aI u9l]) }] ⟨[tV 0 (.sl (List.map cI.i64 u07)), tI 1 u0s, tI 5 u1m, tB 17 (u9l == u0s)], [], []⟩ (.cons (at_obl (c := cI.i64) rfl cI.i64_len h734) (.cons (len_ok 1 [aI u9l]) .nil)) ?_
        rcases oif h732 with ⟨h735, h732⟩ | ⟨h735, h732⟩
        · refine Wc.cT h735 ?_
          apply Wc.seq
          refine Wc.r0 ⟨[tI 4 u1m], [], []⟩ ?_
          refine Wc.ret ?_
          obtain rfl := oInj h732
          obtain rfl := oInj h
          exact ⟨.inl rfl, by kernel_rfl, by kernel_rfl⟩
        · refine Wc.cF h735 ?_
          refine Wc.fx [] ⟨[tV 0 (.sl (List.map cI.i64 u07)), tI 1 u0s, tI 5 u1m], [], []⟩ ?_
          refine Wc.skip ?_
          refine Wc.r0 ⟨[tV 0 (.sl (List.map cI.i64 u07)), tI 1 u0s, tI 5 (wr.i64 (u1m + 1))], [], []⟩ ?_
          exact ⟨_, Nat.lt_succ_self _, _, rfl, h732⟩
      · refine Wc.cF h733 ?_
        refine Wc.fx [] ⟨[], [], []⟩ ?_
        refine Wc.exit ?_
        obtain rfl := oInj h732
        exact ⟨rfl, rfl⟩
  · rintro st ⟨rfl, rfl⟩
    apply Wc.seq
    refine Wc.r0 ⟨[tI 4 (-1)], [], []⟩ ?_
    obtain rfl := oInj h; exact Wc.ret dn

def pQ_l03Like_L1 (k : Nat) (rspec_l03Like : GTerm → GTerm → (List Int) → (List Int) → Option Bool) (uy : GTerm) (v5 : GTerm) (vl : List Int) (vm : List Int) : Nat → Int → Option (Out Bool Unit)
  | 0, _ => none
  | m + 1, u1v =>
    if (decide (u1v < (uy.gKids.length : Int))) = true then
      (at' uy.gKids u1v).bind fun u9m =>
      (at' v5.gKids u1v).bind fun u9n =>
      (rspec_l03Like u9m u9n vl vm).bind fun ucb =>
      if (!ucb) = true then
        some (.ret false)
      else
        pQ_l03Like_L1 k rspec_l03Like uy v5 vl vm m (wr.i64 (u1v + 1))
    else
      some (.done ())
mutual
def pQ_l03Like : Nat → GTerm → GTerm → (List Int) → (List Int) → Option Bool
  | 0, _, _, _, _ => none
  | k + 1, uy, v5, vl, vm =>
    if (uy.gKind != v5.gKind) = true then
      some false
    else
      if (!(sEq uy.gName v5.gName)) = true then
        some false
      else
        if ((uy.gKids.length : Int) != (v5.gKids.length : Int)) = true then
          some false
        else
          if (uy.gKind == 1) = true then
            (pQ_l03At k vl uy.gNum).bind fun ucc =>
            (pQ_l03At k vm v5.gNum).bind fun ucd =>
            some (ucc == ucd)
          else
            if (uy.gNum != v5.gNum) = true then
              some false
            else
              (pQ_l03Like_L1 k (pQ_l03Like k) uy v5 vl vm k 0).bind fun out1 => match out1 with
              | .ret r => some r
              | .done () =>
                some true
end
set_option maxHeartbeats 4000000 in
theorem all_pQ_l03Like : ∀ k : Nat, (∀ {uy : GTerm} {v5 : GTerm} {vl : List Int} {vm : List Int} {r : Bool}, pQ_l03Like k uy v5 vl vm = some r → FnO Tryz.prog 48 [.v (.agg (GTerm.q uy)) [], .v (.agg (GTerm.q v5)) [], .v (.sl (List.map cI.i64 vl)) [], .v (.sl (List.map cI.i64 vm)) []] (.v (.bool r) []) []) := by
  intro k
  induction k with
  | zero =>
    · intro uy v5 vl vm r h
      exact (onone (by rw [pQ_l03Like] at h; exact h)).elim
  | succ k ih =>
    have ih_pQ_l03Like := @ih
    · intro uy v5 vl vm r h
      rw [pQ_l03Like] at h
      refine FnO.o2 Tryz.func48 (rfl : Tryz.f48.body = some _) ?_
      intro w0 X0 Fin pv0 pb gt
      apply Wc.seq
      refine Wc.r0 ⟨[tV 2 (.sl (List.map cI.i64 vl)), tV 3 (.sl (List.map cI.i64 vm)), tP 4 4, tP 5 5], [bC 4 (GTerm.q uy), bC 5 (GTerm.q v5)], []⟩ ?_
      apply Wc.seq
      apply Wc.seq
      rcases oif h with ⟨h736, h⟩ | ⟨h736, h⟩
      · refine Wc.r2 [{}, {}, {}, {}, {}, { re := some (.bool true) }] ⟨[tV 2 (.sl (List.map cI.i64 vl)), tV 3 (.sl (List.map cI.i64 vm)), tP 4 4, tP 5 5, tB 30 true], [bC 4 (GTerm.q uy), bC 5 (GTerm.q v5)], []⟩ (.cons (congrArg AV.bool h736) .nil) ?_
        refine Wc.cT rfl ?_
        apply Wc.seq
        refine Wc.r0 ⟨[tB 8 false], [], []⟩ ?_
        obtain rfl := oInj h; exact Wc.ret dn
      · rcases oif h with ⟨h737, h⟩ | ⟨h737, h⟩
        · refine Wc.r2 [{}, {}, {}, {}, {}, { re := some (.bool false) }, {}, {}, {}, {}, {}, {}, { re := some (.bool true) }] ⟨[tV 2 (.sl (List.map cI.i64 vl)), tV 3 (.sl (List.map cI.i64 vm)), tP 4 4, tP 5 5, tB 30 true], [bC 4 (GTerm.q uy), bC 5 (GTerm.q v5)], []⟩ (.cons (congrArg AV.bool h736) (.cons (congrArg AV.bool h737) .nil)) ?_
          refine Wc.cT rfl ?_
          apply Wc.seq
          refine Wc.r0 ⟨[tB 8 false], [], []⟩ ?_
          obtain rfl := oInj h; exact Wc.ret dn
        · refine Wc.r2 [{}, {}, {}, {}, {}, { re := some (.bool false) }, {}, {}, {}, {}, {}, {}, { re := some (.bool false) }, {}, {}, { v := some (aI (uy.gKids.length : Int)) }, {}, {}, { v := some (aI (v5.gKids.length : Int)) }] ⟨[tV 2 (.sl (List.map cI.i64 vl)), tV 3 (.sl (List.map cI.i64 vm)), tP 4 4, tP 5 5, tB 30 ((uy.gKids.length : Int) != (v5.gKids.length : Int))], [bC 4 (GTerm.q uy), bC 5 (GTerm.q v5)], []⟩ (.cons (congrArg AV.bool h736) (.cons (congrArg AV.bool h737) (.cons (len_obl GTerm.c uy.gKids) (.cons (len_obl GTerm.c v5.gKids) .nil)))) ?_
          rcases oif h with ⟨h738, h⟩ | ⟨h738, h⟩
          · refine Wc.cT h738 ?_
            apply Wc.seq
            refine Wc.r0 ⟨[tB 8 false], [], []⟩ ?_
            obtain rfl := oInj h; exact Wc.ret dn
          · refine Wc.cF h738 ?_
            refine Wc.fx [] ⟨[tV 2 (.sl (List.map cI.i64 vl)), tV 3 (.sl (List.map cI.i64 vm)), tP 4 4, tP 5 5], [bC 4 (GTerm.q uy), bC 5 (GTerm.q v5)], []⟩ ?_
            refine Wc.skip ?_
            apply Wc.seq
            apply Wc.seq
            refine Wc.r0 ⟨[tV 2 (.sl (List.map cI.i64 vl)), tV 3 (.sl (List.map cI.i64 vm)), tP 4 4, tP 5 5, tB 33 (uy.gKind == 1)], [bC 4 (GTerm.q uy), bC 5 (GTerm.q v5)], []⟩ ?_
            rcases oif h with ⟨h739, h⟩ | ⟨h739, h⟩
            · refine Wc.cT h739 ?_
              apply Wc.seq
              obtain ⟨ucc, h740, h⟩ := obind h
              obtain ⟨ucd, h741, h⟩ := obind h
              refine Wc.draw hmix [{}, {}, {}, { r := some (.v (aI ucc) []) }, {}, {}, {}, { r := some (.v (aI ucd) []) }] [] [8] [] [] ⟨[tB 8 (ucc == ucd)], [], []⟩ _ (by kernel_rfl) (fun X => by kernel_rfl) (.cons (cQ_l03At h740) (.cons (cQ_l03At h741) .nil)) ?_
              obtain rfl := oInj h; exact Wc.ret dn
            · refine Wc.cF h739 ?_
              refine Wc.fx [] ⟨[tV 2 (.sl (List.map cI.i64 vl)), tV 3 (.sl (List.map cI.i64 vm)), tP 4 4, tP 5 5], [bC 4 (GTerm.q uy), bC 5 (GTerm.q v5)], []⟩ ?_
              refine Wc.skip ?_
              apply Wc.seq
              apply Wc.seq
              refine Wc.r0 ⟨[tV 2 (.sl (List.map cI.i64 vl)), tV 3 (.sl (List.map cI.i64 vm)), tP 4 4, tP 5 5, tB 47 (uy.gNum != v5.gNum)], [bC 4 (GTerm.q uy), bC 5 (GTerm.q v5)], []⟩ ?_
              rcases oif h with ⟨h742, h⟩ | ⟨h742, h⟩
              · refine Wc.cT h742 ?_
                apply Wc.seq
                refine Wc.r0 ⟨[tB 8 false], [], []⟩ ?_
                obtain rfl := oInj h; exact Wc.ret dn
              · refine Wc.cF h742 ?_
                refine Wc.fx [] ⟨[tV 2 (.sl (List.map cI.i64 vl)), tV 3 (.sl (List.map cI.i64 vm)), tP 4 4, tP 5 5], [bC 4 (GTerm.q uy), bC 5 (GTerm.q v5)], []⟩ ?_
                refine Wc.skip ?_
                apply Wc.seq
                apply Wc.seq
                refine Wc.r0 ⟨[tV 2 (.sl (List.map cI.i64 vl)), tV 3 (.sl (List.map cI.i64 vm)), tP 4 4, tP 5 5, tI 9 0], [bC 4 (GTerm.q uy), bC 5 (GTerm.q v5)], []⟩ ?_
                obtain ⟨out1, h743, h⟩ := obind h
                refine Wc.lastJ (fun st => out1 = .done () ∧ st = ⟨[], [], []⟩) ?_ ?_
                · refine Wc.block ?_
                  refine Wc.loop (fun m st => ∃ (u1v : Int), st = ⟨[tV 2 (.sl (List.map cI.i64 vl)), tV 3 (.sl (List.map cI.i64 vm)), tP 4 4, tP 5 5, tI 9 u1v], [bC 4 (GTerm.q uy), bC 5 (GTerm.q v5)], []⟩ ∧ pQ_l03Like_L1 k (pQ_l03Like k) uy v5 vl vm m u1v = some out1) ?_ k ⟨_, rfl, h743⟩
                  rintro m st ⟨u1v, rfl, h743⟩
                  cases m with
                  | zero => exact (onone h743).elim
                  | succ m =>
                    apply Wc.seq
                    apply Wc.seq
                    refine Wc.r2 [{}, {}, {}, { v := some (aI (uy.gKids.length : Int)) }] ⟨[tV 2 (.sl (List.map cI.i64 vl)), tV 3 (.sl (List.map cI.i64 vm)), tP 4 4, tP 5 5, tI 9 u1v, tB 52 (decide (u1v < (uy.gKids.length : Int)))], [bC 4 (GTerm.q uy), bC 5 (GTerm.q v5)], []⟩ (.cons (len_obl GTerm.c uy.gKids) .nil) ?_
                    rcases oif h743 with ⟨h744, h743⟩ | ⟨h744, h743⟩
                    · refine Wc.cT h744 ?_
                      refine Wc.fx [] ⟨[tV 2 (.sl (List.map cI.i64 vl)), tV 3 (.sl (List.map cI.i64 vm)), tP 4 4, tP 5 5, tI 9 u1v], [bC 4 (GTerm.q uy), bC 5 (GTerm.q v5)], []⟩ ?_
                      refine Wc.skip ?_
                      apply Wc.seq
                      refine Wc.block ?_
                      apply Wc.seq
                      obtain ⟨u9m, h745, h743⟩ := obind h743
                      obtain ⟨u9n, h746, h743⟩ := obind h743
                      obtain ⟨ucb, h747, h743⟩ := obind h743
                      refine Wc.draw hmix [{}, {}, {}, { v := some (.vptr (GTerm.q u9m)) }, {}, {}, {}, {}, { v := some (.vptr (GTerm.q u9n)) }, {}, {}, {}, { r := some (.v (.bool ucb) []) }] [] [2, 3, 4, 5, 9, 68] [4, 5] [] ⟨[tV 2 (.sl (List.map cI.i64 vl)), tV 3 (.sl (List.map cI.i64 vm)), tP 4 4, tP 5 5, tI 9 u1v, tB 68 (!ucb)], [bC 4 (GTerm.q uy), bC 5 (GTerm.q v5)], []⟩ _ (by kernel_rfl) (fun X => by kernel_rfl) (.cons (at_obl (c := GTerm.c) (GTerm.c_eq u9m) GTerm.c_len h745) (.cons (len_ok 4 (GTerm.q u9m)) (.cons (at_obl (c := GTerm.c) (GTerm.c_eq u9n) GTerm.c_len h746) (.cons (len_ok 4 (GTerm.q u9n)) (.cons (ih_pQ_l03Like h747) .nil))))) ?_
                      rcases oif h743 with ⟨h748, h743⟩ | ⟨h748, h743⟩
                      · refine Wc.cT h748 ?_
                        apply Wc.seq
                        refine Wc.r0 ⟨[tB 8 false], [], []⟩ ?_
                        refine Wc.ret ?_
                        obtain rfl := oInj h743
                        obtain rfl := oInj h
                        exact ⟨.inl rfl, by kernel_rfl, by kernel_rfl⟩
                      · refine Wc.cF h748 ?_
                        refine Wc.fx [] ⟨[tV 2 (.sl (List.map cI.i64 vl)), tV 3 (.sl (List.map cI.i64 vm)), tP 4 4, tP 5 5, tI 9 u1v], [bC 4 (GTerm.q uy), bC 5 (GTerm.q v5)], []⟩ ?_
                        refine Wc.skip ?_
                        refine Wc.r0 ⟨[tV 2 (.sl (List.map cI.i64 vl)), tV 3 (.sl (List.map cI.i64 vm)), tP 4 4, tP 5 5, tI 9 (wr.i64 (u1v + 1))], [bC 4 (GTerm.q uy), bC 5 (GTerm.q v5)], []⟩ ?_
                        exact ⟨_, Nat.lt_succ_self _, _, rfl, h743⟩
                    · refine Wc.cF h744 ?_
                      refine Wc.fx [] ⟨[], [], []⟩ ?_
                      refine Wc.exit ?_
                      obtain rfl := oInj h743
                      exact ⟨rfl, rfl⟩
                · rintro st ⟨rfl, rfl⟩
                  apply Wc.seq
                  refine Wc.r0 ⟨[tB 8 true], [], []⟩ ?_
                  obtain rfl := oInj h; exact Wc.ret dn
theorem cQ_l03Like {k : Nat} {uy : GTerm} {v5 : GTerm} {vl : List Int} {vm : List Int} {r : Bool} (h : pQ_l03Like k uy v5 vl vm = some r) : FnO Tryz.prog 48 [.v (.agg (GTerm.q uy)) [], .v (.agg (GTerm.q v5)) [], .v (.sl (List.map cI.i64 vl)) [], .v (.sl (List.map cI.i64 vm)) []] (.v (.bool r) []) [] := (all_pQ_l03Like k) h

def pQ_l03Has_L1 (k : Nat) (u08 : List Int) (u0t : Int) : Nat → Int → Option (Out Bool Unit)
  | 0, _ => none
  | m + 1, u23 =>
    if (decide (u23 < (u08.length : Int))) = true then
      (at' u08 u23).bind fun u9o =>
      if (u9o == u0t) = true then
        some (.ret true)
      else
        pQ_l03Has_L1 k u08 u0t m (wr.i64 (u23 + 1))
    else
      some (.done ())
def pQ_l03Has (k : Nat) (u08 : List Int) (u0t : Int) : Option Bool :=
  (pQ_l03Has_L1 k u08 u0t k 0).bind fun out1 => match out1 with
  | .ret r => some r
  | .done () =>
    some false
theorem cQ_l03Has {k : Nat} {u08 : List Int} {u0t : Int} {r : Bool} (h : pQ_l03Has k u08 u0t = some r) : FnO Tryz.prog 167 [.v (.sl (List.map cI.i64 u08)) [], .v (aI u0t) []] (.v (.bool r) []) [] := by
  refine FnO.o2 Tryz.func167 (rfl : Tryz.f167.body = some _) ?_
  intro w0 X0 Fin pv0 pb gt
  unfold pQ_l03Has at h
  apply Wc.seq
  refine Wc.r0 ⟨[tV 0 (.sl (List.map cI.i64 u08)), tI 1 u0t], [], []⟩ ?_
  apply Wc.seq
  apply Wc.seq
  refine Wc.r0 ⟨[tV 0 (.sl (List.map cI.i64 u08)), tI 1 u0t, tI 5 0], [], []⟩ ?_
  obtain ⟨out1, h749, h⟩ := obind h
  refine Wc.lastJ (fun st => out1 = .done () ∧ st = ⟨[], [], []⟩) ?_ ?_
  · refine Wc.block ?_
    refine Wc.loop (fun m st => ∃ (u23 : Int), st = ⟨[tV 0 (.sl (List.map cI.i64 u08)), tI 1 u0t, tI 5 u23], [], []⟩ ∧ pQ_l03Has_L1 k u08 u0t m u23 = some out1) ?_ k ⟨_, rfl, h749⟩
    rintro m st ⟨u23, rfl, h749⟩
    cases m with
    | zero => exact (onone h749).elim
    | succ m =>
      apply Wc.seq
      apply Wc.seq
      refine Wc.r2 [{}, {}, { v := some (aI (u08.length : Int)) }] ⟨[tV 0 (.sl (List.map cI.i64 u08)), tI 1 u0t, tI 5 u23, tB 9 (decide (u23 < (u08.length : Int)))], [], []⟩ (.cons (len_obl cI.i64 u08) .nil) ?_
      rcases oif h749 with ⟨h750, h749⟩ | ⟨h750, h749⟩
      · refine Wc.cT h750 ?_
        refine Wc.fx [] ⟨[tV 0 (.sl (List.map cI.i64 u08)), tI 1 u0t, tI 5 u23], [], []⟩ ?_
        refine Wc.skip ?_
        apply Wc.seq
        refine Wc.block ?_
        apply Wc.seq
        obtain ⟨u9o, h751, h749⟩ := obind h749
        refine Wc.r2 [{}, {}, { v := some (.vptr [aI u9o]) }] ⟨[tV 0 (.sl (List.map cI.i64 u08)), tI 1 u0t, tI 5 u23, tB 17 (u9o == u0t)], [], []⟩ (.cons (at_obl (c := cI.i64) rfl cI.i64_len h751) (.cons (len_ok 1 [aI u9o]) .nil)) ?_
        rcases oif h749 with ⟨h752, h749⟩ | ⟨h752, h749⟩
        · refine Wc.cT h752 ?_
          apply Wc.seq
          refine Wc.r0 ⟨[tB 4 true], [], []⟩ ?_
          refine Wc.ret ?_
          obtain rfl := oInj h749
          obtain rfl := oInj h
          exact ⟨.inl rfl, by kernel_rfl, by kernel_rfl⟩
        · refine Wc.cF h752 ?_
          refine Wc.fx [] ⟨[tV 0 (.sl (List.map cI.i64 u08)), tI 1 u0t, tI 5 u23], [], []⟩ ?_
          refine Wc.skip ?_
          refine Wc.r0 ⟨[tV 0 (.sl (List.map cI.i64 u08)), tI 1 u0t, tI 5 (wr.i64 (u23 + 1))], [], []⟩ ?_
          exact ⟨_, Nat.lt_succ_self _, _, rfl, h749⟩
      · refine Wc.cF h750 ?_
        refine Wc.fx [] ⟨[], [], []⟩ ?_
        refine Wc.exit ?_
        obtain rfl := oInj h749
        exact ⟨rfl, rfl⟩
  · rintro st ⟨rfl, rfl⟩
    apply Wc.seq
    refine Wc.r0 ⟨[tB 4 false], [], []⟩ ?_
    obtain rfl := oInj h; exact Wc.ret dn

def pQ_l03Vars_L2 (k : Nat) (rspec_l03Vars : GTerm → (List Int) → Option (List Int)) (us : GTerm) : Nat → (List Int) → Int → Option (Out (List Int) (List Int))
  | 0, _, _ => none
  | m + 1, u3x, u2m =>
    if (decide (u2m < (us.gKids.length : Int))) = true then
      (at' us.gKids u2m).bind fun u9p =>
      (rspec_l03Vars u9p u3x).bind fun u9q =>
      pQ_l03Vars_L2 k rspec_l03Vars us m u9q (wr.i64 (u2m + 1))
    else
      some (.done u3x)
def pQ_l03Vars_J1 (k : Nat) (rspec_l03Vars : GTerm → (List Int) → Option (List Int)) (us : GTerm) (u6q : List Int) : Option (List Int) :=
  (pQ_l03Vars_L2 k rspec_l03Vars us k u6q 0).bind fun out2 => match out2 with
  | .ret r => some r
  | .done u6r =>
    some u6r
def pQ_l03Vars_J3 (k : Nat) (rspec_l03Vars : GTerm → (List Int) → Option (List Int)) (zh : List Int) (us : GTerm) (u9r : Bool) : Option (List Int) :=
  if u9r = true then
    if zh.length + [us.gNum].length ≤ 1073741824 then
      pQ_l03Vars_J1 k rspec_l03Vars us (zh ++ [us.gNum])
    else none
  else
    pQ_l03Vars_J1 k rspec_l03Vars us zh
mutual
def pQ_l03Vars : Nat → GTerm → (List Int) → Option (List Int)
  | 0, _, _ => none
  | k + 1, us, zh =>
    if (us.gKind == 1) = true then
      (pQ_l03Has k zh us.gNum).bind fun uce =>
      pQ_l03Vars_J3 k (pQ_l03Vars k) zh us (!uce)
    else
      pQ_l03Vars_J3 k (pQ_l03Vars k) zh us false
end
theorem all_pQ_l03Vars : ∀ k : Nat, (∀ {us : GTerm} {zh : List Int} {r : (List Int)}, pQ_l03Vars k us zh = some r → FnO Tryz.prog 102 [.v (.agg (GTerm.q us)) [], .v (.slx) [(0, .ex 3 false (List.map cI.i64 zh))]] (.v (.slx) [(0, .ex 3 false (List.map cI.i64 r))]) []) := by
  intro k
  induction k with
  | zero =>
    · intro us zh r h
      exact (onone (by rw [pQ_l03Vars] at h; exact h)).elim
  | succ k ih =>
    have ih_pQ_l03Vars := @ih
    · intro us zh r h
      rw [pQ_l03Vars] at h
      refine FnO.o2 Tryz.func102 (rfl : Tryz.f102.body = some _) ?_
      intro w0 X0 Fin pv0 pb gt
      apply Wc.seq
      refine Wc.r0 ⟨[(1, (.v (.slx), [(0, .ex 3 false (List.map cI.i64 zh))])), tP 2 2], [bC 2 (GTerm.q us)], []⟩ ?_
      refine Wc.seqJ (fun st => ∃ (u6q : List Int), st = ⟨[(1, (.v (.slx), [(0, .ex 3 false (List.map cI.i64 u6q))])), tP 2 2], [bC 2 (GTerm.q us)], []⟩ ∧ pQ_l03Vars_J1 k (pQ_l03Vars k) us u6q = some r) ?_ ?_
      · refine Wc.seqJ (fun st => ∃ (u9r : Bool), st = ⟨[(1, (.v (.slx), [(0, .ex 3 false (List.map cI.i64 zh))])), tP 2 2, tB 15 u9r], [bC 2 (GTerm.q us)], []⟩ ∧ pQ_l03Vars_J3 k (pQ_l03Vars k) zh us u9r = some r) ?_ ?_
        · rcases oif h with ⟨h767, h⟩ | ⟨h767, h⟩
          · obtain ⟨uce, h768, h⟩ := obind h
            refine Wc.r2 [{}, {}, {}, { re := some (.bool true) }, {}, {}, {}, { r := some (.v (.bool uce) []) }] ⟨[(1, (.v (.slx), [(0, .ex 3 false (List.map cI.i64 zh))])), tP 2 2, tB 15 (!uce)], [bC 2 (GTerm.q us)], []⟩ (.cons (congrArg AV.bool h767) (.cons (cQ_l03Has h768) .nil)) ?_
            exact ⟨_, rfl, h⟩
          · refine Wc.r2 [{}, {}, {}, { re := some (.bool false) }] ⟨[(1, (.v (.slx), [(0, .ex 3 false (List.map cI.i64 zh))])), tP 2 2, tB 15 false], [bC 2 (GTerm.q us)], []⟩ (.cons (congrArg AV.bool h767) .nil) ?_
            exact ⟨_, rfl, h⟩
        · rintro st ⟨u9r, rfl, h⟩
          rcases oif h with ⟨h765, h⟩ | ⟨h765, h⟩
          · refine Wc.cT h765 ?_
            obtain ⟨h766, h⟩ := oguard h
            refine Wc.r2 [{ tk := [1] }, {}, {}, { c := some (List.map cI.i64 [us.gNum]) }, { c := some (List.map cI.i64 (zh ++ [us.gNum])), tk := [16], md := 1 }, { tk := [20] }] ⟨[(1, (.v (.slx), [(0, .ex 3 false (List.map cI.i64 (zh ++ [us.gNum])))])), tP 2 2], [bC 2 (GTerm.q us)], []⟩ (.cons (cl_cons (c := cI.i64) (x := us.gNum) rfl (cl_nil cI.i64)) (.cons (app_re2 cI.i64 zh [us.gNum]) (.cons (app_leaf (c := cI.i64) (ys := [us.gNum]) cI.i64_leaf) (.cons (app_obl2 (c := cI.i64) (xs := zh) (ys := [us.gNum]) cI.i64_len h766) .nil)))) ?_
            exact ⟨_, rfl, h⟩
          · refine Wc.cF h765 ?_
            refine Wc.fx [] ⟨[(1, (.v (.slx), [(0, .ex 3 false (List.map cI.i64 zh))])), tP 2 2], [bC 2 (GTerm.q us)], []⟩ ?_
            refine Wc.skip ?_
            exact ⟨_, rfl, h⟩
      · rintro st ⟨u6q, rfl, h⟩
        apply Wc.seq
        apply Wc.seq
        refine Wc.r0 ⟨[(1, (.v (.slx), [(0, .ex 3 false (List.map cI.i64 u6q))])), tP 2 2, tI 5 0], [bC 2 (GTerm.q us)], []⟩ ?_
        obtain ⟨out2, h761, h⟩ := obind h
        refine Wc.lastJ (fun st => ∃ (u6r : List Int), out2 = .done u6r ∧ st = ⟨[(1, (.v (.slx), [(0, .ex 3 false (List.map cI.i64 u6r))]))], [], []⟩) ?_ ?_
        · refine Wc.block ?_
          refine Wc.loop (fun m st => ∃ (u3x : List Int) (u2m : Int), st = ⟨[(1, (.v (.slx), [(0, .ex 3 false (List.map cI.i64 u3x))])), tP 2 2, tI 5 u2m], [bC 2 (GTerm.q us)], []⟩ ∧ pQ_l03Vars_L2 k (pQ_l03Vars k) us m u3x u2m = some out2) ?_ k ⟨_, _, rfl, h761⟩
          rintro m st ⟨u3x, u2m, rfl, h761⟩
          cases m with
          | zero => exact (onone h761).elim
          | succ m =>
            apply Wc.seq
            apply Wc.seq
            refine Wc.r2 [{}, {}, {}, { v := some (aI (us.gKids.length : Int)) }] ⟨[(1, (.v (.slx), [(0, .ex 3 false (List.map cI.i64 u3x))])), tP 2 2, tI 5 u2m, tB 25 (decide (u2m < (us.gKids.length : Int)))], [bC 2 (GTerm.q us)], []⟩ (.cons (len_obl GTerm.c us.gKids) .nil) ?_
            rcases oif h761 with ⟨h762, h761⟩ | ⟨h762, h761⟩
            · refine Wc.cT h762 ?_
              refine Wc.fx [] ⟨[(1, (.v (.slx), [(0, .ex 3 false (List.map cI.i64 u3x))])), tP 2 2, tI 5 u2m], [bC 2 (GTerm.q us)], []⟩ ?_
              refine Wc.skip ?_
              apply Wc.seq
              refine Wc.block ?_
              obtain ⟨u9p, h763, h761⟩ := obind h761
              obtain ⟨u9q, h764, h761⟩ := obind h761
              refine Wc.r2 [{}, {}, {}, { v := some (.vptr (GTerm.q u9p)) }, {}, { tk := [1] }, { tk := [33], r := some (.v (.slx) [(0, .ex 3 false (List.map cI.i64 u9q))]) }, { tk := [34] }] ⟨[(1, (.v (.slx), [(0, .ex 3 false (List.map cI.i64 u9q))])), tP 2 2, tI 5 u2m], [bC 2 (GTerm.q us)], []⟩ (.cons (at_obl (c := GTerm.c) (GTerm.c_eq u9p) GTerm.c_len h763) (.cons (len_ok 4 (GTerm.q u9p)) (.cons (ih_pQ_l03Vars h764) .nil))) ?_
              refine Wc.r0 ⟨[(1, (.v (.slx), [(0, .ex 3 false (List.map cI.i64 u9q))])), tP 2 2, tI 5 (wr.i64 (u2m + 1))], [bC 2 (GTerm.q us)], []⟩ ?_
              exact ⟨_, Nat.lt_succ_self _, _, _, rfl, h761⟩
            · refine Wc.cF h762 ?_
              refine Wc.fx [] ⟨[(1, (.v (.slx), [(0, .ex 3 false (List.map cI.i64 u3x))]))], [], []⟩ ?_
              refine Wc.exit ?_
              obtain rfl := oInj h761
              exact ⟨_, rfl, rfl⟩
        · rintro st ⟨u6r, rfl, rfl⟩
          apply Wc.seq
          refine Wc.r1 [{ tk := [1] }, { tk := [35] }] ⟨[(4, (.v (.slx), [(0, .ex 3 false (List.map cI.i64 u6r))]))], [], []⟩ ?_
          obtain rfl := oInj h; exact Wc.ret dn
theorem cQ_l03Vars {k : Nat} {us : GTerm} {zh : List Int} {r : (List Int)} (h : pQ_l03Vars k us zh = some r) : FnO Tryz.prog 102 [.v (.agg (GTerm.q us)) [], .v (.slx) [(0, .ex 3 false (List.map cI.i64 zh))]] (.v (.slx) [(0, .ex 3 false (List.map cI.i64 r))]) [] := (all_pQ_l03Vars k) h

def pQ_VarsOf (k : Nat) (u9s : GTerm) : Option (List Int) :=
  (pQ_l03Vars k u9s []).bind fun u9t =>
  some u9t
theorem cQ_VarsOf {k : Nat} {u9s : GTerm} {r : (List Int)} (h : pQ_VarsOf k u9s = some r) : FnO Tryz.prog 49 [.v (.agg (GTerm.q u9s)) []] (.v (.sl (List.map cI.i64 r)) []) [] := by
  refine FnO.o2 Tryz.func49 (rfl : Tryz.f49.body = some _) ?_
  intro w0 X0 Fin pv0 pb gt
  unfold pQ_VarsOf at h
  apply Wc.seq
  refine Wc.r0 ⟨[tP 1 1], [bC 1 (GTerm.q u9s)], []⟩ ?_
  apply Wc.seq
  obtain ⟨u9t, h769, h⟩ := obind h
  refine Wc.r2 [{}, { c := some (List.map cI.i64 []), md := 1 }, { tk := [4], r := some (.v (.slx) [(0, .ex 3 false (List.map cI.i64 u9t))]) }, { tk := [5] }] ⟨[(2, (.v (.slx), [(0, .ex 3 false (List.map cI.i64 u9t))]))], [], []⟩ (.cons (cl_nil cI.i64) (.cons (cQ_l03Vars h769) .nil)) ?_
  refine Wc.fx [.sh (.t 2 0)] ⟨[tV 2 (.sl (List.map cI.i64 u9t))], [], []⟩ ?_
  obtain rfl := oInj h; exact Wc.ret dn

def pQ_Variant (k : Nat) (u6s : GTerm) (u6t : GTerm) : Option Bool :=
  (pQ_VarsOf k u6s).bind fun ucv =>
  (pQ_VarsOf k u6t).bind fun ucw =>
  (pQ_l03Like k u6s u6t ucv ucw).bind fun ucf =>
  some ucf
theorem cQ_Variant {k : Nat} {u6s : GTerm} {u6t : GTerm} {r : Bool} (h : pQ_Variant k u6s u6t = some r) : FnO Tryz.prog 14 [.v (.agg (GTerm.q u6s)) [], .v (.agg (GTerm.q u6t)) []] (.v (.bool r) []) [] := by
  refine FnO.o2 Tryz.func14 (rfl : Tryz.f14.body = some _) ?_
  intro w0 X0 Fin pv0 pb gt
  unfold pQ_Variant at h
  apply Wc.seq
  refine Wc.r0 ⟨[tP 2 2, tP 3 3], [bC 2 (GTerm.q u6s), bC 3 (GTerm.q u6t)], []⟩ ?_
  apply Wc.seq
  obtain ⟨ucv, h770, h⟩ := obind h
  obtain ⟨ucw, h771, h⟩ := obind h
  obtain ⟨ucf, h772, h⟩ := obind h
  refine Wc.draw hmix [{}, {}, {}, { r := some (.v (.sl (List.map cI.i64 ucv)) []) }, {}, { r := some (.v (.sl (List.map cI.i64 ucw)) []) }, { r := some (.v (.bool ucf) []) }] [] [4] [] [] ⟨[tB 4 ucf], [], []⟩ _ (by kernel_rfl) (fun X => by kernel_rfl) (.cons (cQ_VarsOf h770) (.cons (cQ_VarsOf h771) (.cons (cQ_l03Like h772) .nil))) ?_
  obtain rfl := oInj h; exact Wc.ret dn

def pQ_AtomText (k : Nat) (vv : ByteArray) : Option ByteArray :=
  (pQ_SignsOf k vv).bind fun u24 =>
  if ((u24.1.length : Int) == 1) = true then
    (at' u24.1 0).bind fun u4h =>
    if (u4h.gKind == 1) = true then
      (at' u24.1 0).bind fun u3y =>
      if (sEq u3y.gText vv) = true then
        some vv
      else
        if sumOk (bs [39]) vv then
          if sumOk ((bs [39]) ++ vv) (bs [39]) then
            some (((bs [39]) ++ vv) ++ (bs [39]))
          else none
        else none
    else
      if sumOk (bs [39]) vv then
        if sumOk ((bs [39]) ++ vv) (bs [39]) then
          some (((bs [39]) ++ vv) ++ (bs [39]))
        else none
      else none
  else
    if sumOk (bs [39]) vv then
      if sumOk ((bs [39]) ++ vv) (bs [39]) then
        some (((bs [39]) ++ vv) ++ (bs [39]))
      else none
    else none
theorem cQ_AtomText {k : Nat} {vv : ByteArray} {r : ByteArray} (h : pQ_AtomText k vv = some r) : FnO Tryz.prog 17 [.v (.str vv) []] (.v (.str r) []) [] := by
  refine FnO.o2 Tryz.func17 (rfl : Tryz.f17.body = some _) ?_
  intro w0 X0 Fin pv0 pb gt
  unfold pQ_AtomText at h
  apply Wc.seq
  refine Wc.r0 ⟨[tS 0 vv], [], []⟩ ?_
  apply Wc.seq
  obtain ⟨u24, h773, h⟩ := obind h
  refine Wc.r2 [{}, { r := some (.v (.tup [.sl (List.map GSign.c u24.1), .bool u24.2]) [(0, .app 86)]) }, { tk := [7] }, { tk := [5] }, {}, { tk := [8] }] ⟨[tS 0 vv, (3, (.v (.sl (List.map GSign.c u24.1)), [(0, .app 86)]))], [], []⟩ (.cons (cQ_SignsOf h773) .nil) ?_
  apply Wc.seq
  apply Wc.seq
  rcases oif h with ⟨h774, h⟩ | ⟨h774, h⟩
  · obtain ⟨u4h, h775, h⟩ := obind h
    rcases oif h with ⟨h776, h⟩ | ⟨h776, h⟩
    · obtain ⟨u3y, h777, h⟩ := obind h
      refine Wc.r2 [{}, { v := some (aI (u24.1.length : Int)) }, {}, { re := some (.bool true) }, {}, { v := some (.vptr (GSign.q u4h)) }, {}, {}, {}, {}, { re := some (.bool true) }, { tk := [3] }, { v := some (.vptr (GSign.q u3y)) }] ⟨[tS 0 vv, tB 27 (sEq u3y.gText vv)], [], []⟩ (.cons (len_obl GSign.c u24.1) (.cons (congrArg AV.bool h774) (.cons (at_obl (c := GSign.c) (GSign.c_eq u4h) GSign.c_len h775) (.cons (len_ok 1 (GSign.q u4h)) (.cons (congrArg AV.bool h776) (.cons (at_obl (c := GSign.c) (GSign.c_eq u3y) GSign.c_len h777) (.cons (len_ok 1 [.str u3y.gText, aI u3y.gNum, aI u3y.gAt, .bool u3y.gNear]) .nil))))))) ?_
      rcases oif h with ⟨h778, h⟩ | ⟨h778, h⟩
      · refine Wc.cT h778 ?_
        apply Wc.seq
        refine Wc.r0 ⟨[tS 2 vv], [], []⟩ ?_
        obtain rfl := oInj h; exact Wc.ret dn
      · refine Wc.cF h778 ?_
        refine Wc.fx [] ⟨[tS 0 vv], [], []⟩ ?_
        refine Wc.skip ?_
        apply Wc.seq
        obtain ⟨h779, h⟩ := oguard h
        obtain ⟨h780, h⟩ := oguard h
        refine Wc.r2 [] ⟨[tS 2 (((bs [39]) ++ vv) ++ (bs [39]))], [], []⟩ (.cons h779 (.cons h780 .nil)) ?_
        obtain rfl := oInj h; exact Wc.ret dn
    · refine Wc.r2 [{}, { v := some (aI (u24.1.length : Int)) }, {}, { re := some (.bool true) }, {}, { v := some (.vptr (GSign.q u4h)) }, {}, {}, {}, {}, { re := some (.bool false) }] ⟨[tS 0 vv, tB 27 false], [], []⟩ (.cons (len_obl GSign.c u24.1) (.cons (congrArg AV.bool h774) (.cons (at_obl (c := GSign.c) (GSign.c_eq u4h) GSign.c_len h775) (.cons (len_ok 1 (GSign.q u4h)) (.cons (congrArg AV.bool h776) .nil))))) ?_
      refine Wc.cF rfl ?_
      refine Wc.fx [] ⟨[tS 0 vv], [], []⟩ ?_
      refine Wc.skip ?_
      apply Wc.seq
      obtain ⟨h781, h⟩ := oguard h
      obtain ⟨h782, h⟩ := oguard h
      refine Wc.r2 [] ⟨[tS 2 (((bs [39]) ++ vv) ++ (bs [39]))], [], []⟩ (.cons h781 (.cons h782 .nil)) ?_
      obtain rfl := oInj h; exact Wc.ret dn
  · refine Wc.r2 [{}, { v := some (aI (u24.1.length : Int)) }, {}, { re := some (.bool false) }] ⟨[tS 0 vv, tB 27 false], [], []⟩ (.cons (len_obl GSign.c u24.1) (.cons (congrArg AV.bool h774) .nil)) ?_
    refine Wc.cF rfl ?_
    refine Wc.fx [] ⟨[tS 0 vv], [], []⟩ ?_
    refine Wc.skip ?_
    apply Wc.seq
    obtain ⟨h783, h⟩ := oguard h
    obtain ⟨h784, h⟩ := oguard h
    refine Wc.r2 [] ⟨[tS 2 (((bs [39]) ++ vv) ++ (bs [39]))], [], []⟩ (.cons h783 (.cons h784 .nil)) ?_
    obtain rfl := oInj h; exact Wc.ret dn

def pQ_l01Figure (k : Nat) (u2n : Int) : Option Int :=
  if (decide (u2n < 10)) = true then
    some (wr.u8 (wr.i64 (48 + u2n)))
  else
    some (wr.u8 (wr.i64 ((wr.i64 (97 + u2n)) - 10)))
theorem cQ_l01Figure {k : Nat} {u2n : Int} {r : Int} (h : pQ_l01Figure k u2n = some r) : FnO Tryz.prog 79 [.v (aI u2n) []] (.v (.int .u8 r) []) [] := by
  refine FnO.o2 Tryz.func79 (rfl : Tryz.f79.body = some _) ?_
  intro w0 X0 Fin pv0 pb gt
  unfold pQ_l01Figure at h
  apply Wc.seq
  refine Wc.r0 ⟨[tI 0 u2n], [], []⟩ ?_
  apply Wc.seq
  apply Wc.seq
  refine Wc.r0 ⟨[tI 0 u2n, tB 4 (decide (u2n < 10))], [], []⟩ ?_
  rcases oif h with ⟨h785, h⟩ | ⟨h785, h⟩
  · refine Wc.cT h785 ?_
    apply Wc.seq
    refine Wc.r0 ⟨[tV 2 (.int .u8 (wr.u8 (wr.i64 (48 + u2n))))], [], []⟩ ?_
    obtain rfl := oInj h; exact Wc.ret dn
  · refine Wc.cF h785 ?_
    refine Wc.fx [] ⟨[tI 0 u2n], [], []⟩ ?_
    refine Wc.skip ?_
    apply Wc.seq
    refine Wc.r0 ⟨[tV 2 (.int .u8 (wr.u8 (wr.i64 ((wr.i64 (97 + u2n)) - 10))))], [], []⟩ ?_
    obtain rfl := oInj h; exact Wc.ret dn

def pQ_Decimal_J2 (k : Nat) (bk_ : Int → ByteArray → Option (Out ByteArray ByteArray)) (u02 : ByteArray) (vw : Int) (u9u : Int) : Option (Out ByteArray ByteArray) :=
  (pQ_l01Figure k u9u).bind fun u3c =>
  if sumOk (strOfNums [u3c]) u02 then
    if (10 : Int) ≠ 0 then
      bk_ (wr.i64 (Int.tdiv vw 10)) ((strOfNums [u3c]) ++ u02)
    else none
  else none
def pQ_Decimal_L1 (k : Nat) : Nat → Int → ByteArray → Option (Out ByteArray ByteArray)
  | 0, _, _ => none
  | m + 1, vw, u02 =>
    if (vw != 0) = true then
      if (10 : Int) ≠ 0 then
        if (decide ((Int.tmod vw 10) < 0)) = true then
          pQ_Decimal_J2 k (pQ_Decimal_L1 k m) u02 vw (wr.i64 (0 - (Int.tmod vw 10)))
        else
          pQ_Decimal_J2 k (pQ_Decimal_L1 k m) u02 vw (Int.tmod vw 10)
      else none
    else
      some (.done u02)
def pQ_Decimal (k : Nat) (z6 : Int) : Option ByteArray :=
  if (z6 == 0) = true then
    some (bs [48])
  else
    (pQ_Decimal_L1 k k z6 (bs [])).bind fun out1 => match out1 with
    | .ret r => some r
    | .done u30 =>
      if (decide (z6 < 0)) = true then
        if sumOk (bs [45]) u30 then
          some ((bs [45]) ++ u30)
        else none
      else
        some u30
theorem cQ_Decimal {k : Nat} {z6 : Int} {r : ByteArray} (h : pQ_Decimal k z6 = some r) : FnO Tryz.prog 33 [.v (aI z6) []] (.v (.str r) []) [] := by
  refine FnO.o2 Tryz.func33 (rfl : Tryz.f33.body = some _) ?_
  intro w0 X0 Fin pv0 pb gt
  unfold pQ_Decimal at h
  apply Wc.seq
  refine Wc.r0 ⟨[tI 0 z6], [], []⟩ ?_
  apply Wc.seq
  apply Wc.seq
  refine Wc.r0 ⟨[tI 0 z6, tB 7 (z6 == 0)], [], []⟩ ?_
  rcases oif h with ⟨h786, h⟩ | ⟨h786, h⟩
  · refine Wc.cT h786 ?_
    apply Wc.seq
    refine Wc.r0 ⟨[tS 2 (bs [48])], [], []⟩ ?_
    obtain rfl := oInj h; exact Wc.ret dn
  · refine Wc.cF h786 ?_
    refine Wc.fx [] ⟨[tI 0 z6], [], []⟩ ?_
    refine Wc.skip ?_
    apply Wc.seq
    refine Wc.r0 ⟨[tI 0 z6, tB 3 (decide (z6 < 0))], [], []⟩ ?_
    apply Wc.seq
    refine Wc.r0 ⟨[tI 0 z6, tB 3 (decide (z6 < 0)), tS 4 (bs [])], [], []⟩ ?_
    obtain ⟨out1, h787, h⟩ := obind h
    refine Wc.seqJ (fun st => ∃ (u30 : ByteArray), out1 = .done u30 ∧ st = ⟨[tB 3 (decide (z6 < 0)), tS 4 u30], [], []⟩) ?_ ?_
    · refine Wc.block ?_
      refine Wc.loop (fun m st => ∃ (vw : Int) (u02 : ByteArray), st = ⟨[tI 0 vw, tB 3 (decide (z6 < 0)), tS 4 u02], [], []⟩ ∧ pQ_Decimal_L1 k m vw u02 = some out1) ?_ k ⟨_, _, rfl, h787⟩
      rintro m st ⟨vw, u02, rfl, h787⟩
      cases m with
      | zero => exact (onone h787).elim
      | succ m =>
        apply Wc.seq
        apply Wc.seq
        refine Wc.r0 ⟨[tI 0 vw, tB 3 (decide (z6 < 0)), tS 4 u02, tB 11 (vw != 0)], [], []⟩ ?_
        rcases oif h787 with ⟨h788, h787⟩ | ⟨h788, h787⟩
        · refine Wc.cT h788 ?_
          refine Wc.fx [] ⟨[tI 0 vw, tB 3 (decide (z6 < 0)), tS 4 u02], [], []⟩ ?_
          refine Wc.skip ?_
          refine Wc.block ?_
          apply Wc.seq
          obtain ⟨h789, h787⟩ := oguard h787
          refine Wc.r2 [] ⟨[tI 0 vw, tB 3 (decide (z6 < 0)), tS 4 u02, tI 5 (Int.tmod vw 10)], [], []⟩ (.cons h789 .nil) ?_
          refine Wc.seqJ (fun st => ∃ (u9u : Int), st = ⟨[tI 0 vw, tB 3 (decide (z6 < 0)), tS 4 u02, tI 5 u9u], [], []⟩ ∧ pQ_Decimal_J2 k (pQ_Decimal_L1 k m) u02 vw u9u = some out1) ?_ ?_
          · apply Wc.seq
            refine Wc.r0 ⟨[tI 0 vw, tB 3 (decide (z6 < 0)), tS 4 u02, tI 5 (Int.tmod vw 10), tB 15 (decide ((Int.tmod vw 10) < 0))], [], []⟩ ?_
            rcases oif h787 with ⟨h793, h787⟩ | ⟨h793, h787⟩
            · refine Wc.cT h793 ?_
              refine Wc.r0 ⟨[tI 0 vw, tB 3 (decide (z6 < 0)), tS 4 u02, tI 5 (wr.i64 (0 - (Int.tmod vw 10)))], [], []⟩ ?_
              exact ⟨_, rfl, h787⟩
            · refine Wc.cF h793 ?_
              refine Wc.fx [] ⟨[tI 0 vw, tB 3 (decide (z6 < 0)), tS 4 u02, tI 5 (Int.tmod vw 10)], [], []⟩ ?_
              refine Wc.skip ?_
              exact ⟨_, rfl, h787⟩
          · rintro st ⟨u9u, rfl, h787⟩
            apply Wc.seq
            obtain ⟨u3c, h790, h787⟩ := obind h787
            obtain ⟨h791, h787⟩ := oguard h787
            refine Wc.r2 [{}, { r := some (.v (.int .u8 u3c) []) }, { c := some (List.map cI.u8 [u3c]) }, { v := some (.str (strOfNums [u3c])) }] ⟨[tI 0 vw, tB 3 (decide (z6 < 0)), tS 4 ((strOfNums [u3c]) ++ u02)], [], []⟩ (.cons (cQ_l01Figure h790) (.cons (cl_cons (c := cI.u8) (x := u3c) rfl (cl_nil cI.u8)) (.cons (bytes_obl [u3c]) (.cons h791 .nil)))) ?_
            obtain ⟨h792, h787⟩ := oguard h787
            refine Wc.r2 [] ⟨[tI 0 (wr.i64 (Int.tdiv vw 10)), tB 3 (decide (z6 < 0)), tS 4 ((strOfNums [u3c]) ++ u02)], [], []⟩ (.cons h792 .nil) ?_
            exact ⟨_, Nat.lt_succ_self _, _, _, rfl, h787⟩
        · refine Wc.cF h788 ?_
          refine Wc.fx [] ⟨[tB 3 (decide (z6 < 0)), tS 4 u02], [], []⟩ ?_
          refine Wc.exit ?_
          obtain rfl := oInj h787
          exact ⟨_, rfl, rfl⟩
    · rintro st ⟨u30, rfl, rfl⟩
      apply Wc.seq
      apply Wc.seq
      refine Wc.r0 ⟨[tS 4 u30, tB 26 (decide (z6 < 0))], [], []⟩ ?_
      rcases oif h with ⟨h794, h⟩ | ⟨h794, h⟩
      · refine Wc.cT h794 ?_
        apply Wc.seq
        obtain ⟨h795, h⟩ := oguard h
        refine Wc.r2 [] ⟨[tS 2 ((bs [45]) ++ u30)], [], []⟩ (.cons h795 .nil) ?_
        obtain rfl := oInj h; exact Wc.ret dn
      · refine Wc.cF h794 ?_
        refine Wc.fx [] ⟨[tS 4 u30], [], []⟩ ?_
        refine Wc.skip ?_
        apply Wc.seq
        refine Wc.r0 ⟨[tS 2 u30], [], []⟩ ?_
        obtain rfl := oInj h; exact Wc.ret dn

def pQ_l07Op (k : Nat) (u5b : ByteArray) : Option Bool :=
  (pQ_InfixOf k u5b).bind fun u6u =>
  (pQ_PrefixOf k u5b).bind fun u6v =>
  if u6u.2 = true then
    some true
  else
    some u6v.2
theorem cQ_l07Op {k : Nat} {u5b : ByteArray} {r : Bool} (h : pQ_l07Op k u5b = some r) : FnO Tryz.prog 105 [.v (.str u5b) []] (.v (.bool r) []) [] := by
  refine FnO.o2 Tryz.func105 (rfl : Tryz.f105.body = some _) ?_
  intro w0 X0 Fin pv0 pb gt
  unfold pQ_l07Op at h
  apply Wc.seq
  refine Wc.r0 ⟨[tS 0 u5b], [], []⟩ ?_
  apply Wc.seq
  obtain ⟨u6u, h796, h⟩ := obind h
  refine Wc.r2 [{}, { r := some (.v (.tup [.agg (GOp.q u6u.1), .bool u6u.2]) []) }] ⟨[tS 0 u5b, tB 4 u6u.2], [], []⟩ (.cons (cQ_InfixOf h796) .nil) ?_
  apply Wc.seq
  obtain ⟨u6v, h797, h⟩ := obind h
  refine Wc.r2 [{}, { r := some (.v (.tup [.agg (GOp.q u6v.1), .bool u6v.2]) []) }] ⟨[tB 4 u6u.2, tB 6 u6v.2], [], []⟩ (.cons (cQ_PrefixOf h797) .nil) ?_
  apply Wc.seq
  rcases oif h with ⟨h798, h⟩ | ⟨h798, h⟩
  · refine Wc.r2 [{}, { re := some (.bool true) }] ⟨[tB 2 true], [], []⟩ (.cons (congrArg AV.bool h798) .nil) ?_
    obtain rfl := oInj h; exact Wc.ret dn
  · refine Wc.r2 [{}, { re := some (.bool false) }] ⟨[tB 2 u6v.2], [], []⟩ (.cons (congrArg AV.bool h798) .nil) ?_
    obtain rfl := oInj h; exact Wc.ret dn

def pQ_l03Is (k : Nat) (u3d : GTerm) (u9v : ByteArray) (u6w : Int) : Option Bool :=
  if (u3d.gKind == 4) = true then
    if (sEq u3d.gName u9v) = true then
      some ((u3d.gKids.length : Int) == u6w)
    else
      some false
  else
    some false
theorem cQ_l03Is {k : Nat} {u3d : GTerm} {u9v : ByteArray} {u6w : Int} {r : Bool} (h : pQ_l03Is k u3d u9v u6w = some r) : FnO Tryz.prog 106 [.v (.agg (GTerm.q u3d)) [], .v (.str u9v) [], .v (aI u6w) []] (.v (.bool r) []) [] := by
  refine FnO.o2 Tryz.func106 (rfl : Tryz.f106.body = some _) ?_
  intro w0 X0 Fin pv0 pb gt
  unfold pQ_l03Is at h
  apply Wc.seq
  refine Wc.r0 ⟨[tS 1 u9v, tI 2 u6w, tP 3 3], [bC 3 (GTerm.q u3d)], []⟩ ?_
  apply Wc.seq
  rcases oif h with ⟨h799, h⟩ | ⟨h799, h⟩
  · rcases oif h with ⟨h800, h⟩ | ⟨h800, h⟩
    · refine Wc.r2 [{}, {}, {}, { re := some (.bool true) }, {}, {}, {}, {}, {}, { re := some (.bool true) }, {}, {}, { v := some (aI (u3d.gKids.length : Int)) }] ⟨[tB 6 ((u3d.gKids.length : Int) == u6w)], [], []⟩ (.cons (congrArg AV.bool h799) (.cons (congrArg AV.bool h800) (.cons (len_obl GTerm.c u3d.gKids) .nil))) ?_
      obtain rfl := oInj h; exact Wc.ret dn
    · refine Wc.r2 [{}, {}, {}, { re := some (.bool true) }, {}, {}, {}, {}, {}, { re := some (.bool false) }] ⟨[tB 6 false], [], []⟩ (.cons (congrArg AV.bool h799) (.cons (congrArg AV.bool h800) .nil)) ?_
      obtain rfl := oInj h; exact Wc.ret dn
  · refine Wc.r2 [{}, {}, {}, { re := some (.bool false) }] ⟨[tB 6 false], [], []⟩ (.cons (congrArg AV.bool h799) .nil) ?_
    obtain rfl := oInj h; exact Wc.ret dn
end Go.Proofs.YtipjloclobcpkaaGreatDoor

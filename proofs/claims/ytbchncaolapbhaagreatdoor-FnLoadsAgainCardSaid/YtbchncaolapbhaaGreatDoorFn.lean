/- What the functions do, part 2. -/
import Derived.Test.YtbchncaolapbhaaGreatDoorFna
set_option linter.unusedVariables false
set_option linter.unusedSimpArgs false
namespace Go.Proofs.YtbchncaolapbhaaGreatDoor
open Go.RowKit Go.Bv
def pimpl_nextSign_J1 (k : Nat) (u0 : Int) (u1 : ByteArray) (ui : Int) (v5 : GSign) : Option (GSign × Int) :=
  if 0 ≤ u0 ∧ u0 ≤ ui ∧ ui ≤ (u1.size : Int) then
    if (v5.gKind == 0) = true then
      none
    else
      if (v5.gKind != 4) = true then
        if (decide (((u1.extract (u0 : Int).toNat (ui : Int).toNat).size : Int) > 20)) = true then
          none
        else
          some (GSign.mk v5.gKind (u1.extract (u0 : Int).toNat (ui : Int).toNat) v5.gNum v5.gAt v5.gNear, ui)
      else
        some (GSign.mk v5.gKind (u1.extract (u0 : Int).toNat (ui : Int).toNat) v5.gNum v5.gAt v5.gNear, ui)
  else none
def pimpl_nextSign_L3 (k : Nat) (ue : Int) (u1 : ByteArray) : Nat → Int → Int → Option (Out (GSign × Int) Int)
  | 0, _, _ => none
  | m + 1, ut, v3 =>
    if (decide (v3 < ue)) = true then
      if (decide (ut ≤ 999999999)) = true then
        if 0 ≤ v3 ∧ (v3).toNat < u1.size then
          pimpl_nextSign_L3 k ue u1 m (wr.i64 ((wr.i64 (10 * ut)) + (wr.i64 (wr.u8 ((bt u1 v3) - 48))))) (wr.i64 (v3 + 1))
        else none
      else
        some (.done ut)
    else
      some (.done ut)
def pimpl_nextSign_J4 (k : Nat) (u1 : ByteArray) (u0 : Int) (z1 : Bool) : Option (GSign × Int) :=
  if z1 = true then
    none
  else
    (pstrings_IndexByte k (bs [40, 41, 91, 93, 44, 124]) (bt u1 u0)).bind fun u4h =>
    if (decide (u4h ≥ 0)) = true then
      pimpl_nextSign_J1 k u0 u1 (wr.i64 (u0 + 1)) (GSign.mk 4 (bs []) 0 u0 false)
    else
      if ((bt u1 u0) == 39) = true then
        none
      else
        pimpl_nextSign_J1 k u0 u1 (wr.i64 (u0 + 1)) (GSign.mk 0 (bs []) 0 u0 false)
def pimpl_nextSign_J2 (k : Nat) (u1 : ByteArray) (u0 : Int) (u01 : Bool) : Option (GSign × Int) :=
  if u01 = true then
    (pimpl_run_on2_pimpl_wordByte k u1 u0).bind fun vd =>
    (pimpl_lower k (bt u1 u0)).bind fun u0n =>
    if u0n = true then
      pimpl_nextSign_J1 k u0 u1 vd (GSign.mk 1 (bs []) 0 u0 false)
    else
      pimpl_nextSign_J1 k u0 u1 vd (GSign.mk 2 (bs []) 0 u0 false)
  else
    (pimpl_figure k (bt u1 u0)).bind fun z8 =>
    if z8 = true then
      (pimpl_run_on2_pimpl_figure k u1 u0).bind fun ue =>
      (pimpl_nextSign_L3 k ue u1 k 0 u0).bind fun out3 => match out3 with
      | .ret r => some r
      | .done vq =>
        if (decide (vq ≤ 999999999)) = true then
          some (GSign.mk 3 (bs []) vq u0 false, ue)
        else
          pimpl_nextSign_J1 k u0 u1 ue (GSign.mk 0 (bs []) 0 u0 false)
    else
      (pimpl_SymbolByte k (bt u1 u0)).bind fun u4i =>
      if u4i = true then
        none
      else
        if ((bt u1 u0) == 33) = true then
          pimpl_nextSign_J4 k u1 u0 true
        else
          pimpl_nextSign_J4 k u1 u0 ((bt u1 u0) == 59)
def pimpl_nextSign (k : Nat) (u1 : ByteArray) (u0 : Int) : Option (GSign × Int) :=
  if 0 ≤ u0 ∧ (u0).toNat < u1.size then
    (pimpl_endsHere k u1 u0).bind fun u27 =>
    if u27 = true then
      some (GSign.mk 5 (bs [46]) 0 u0 false, wr.i64 (u0 + 1))
    else
      (pimpl_lower k (bt u1 u0)).bind fun u0j =>
      if u0j = true then
        pimpl_nextSign_J2 k u1 u0 true
      else
        (pimpl_upper k (bt u1 u0)).bind fun u28 =>
        if u28 = true then
          pimpl_nextSign_J2 k u1 u0 true
        else
          pimpl_nextSign_J2 k u1 u0 ((bt u1 u0) == 95)
  else none
set_option maxHeartbeats 4000000 in
theorem cimpl_nextSign {k : Nat} {u1 : ByteArray} {u0 : Int} {r : GSign × Int} (h : pimpl_nextSign k u1 u0 = some r) : FnO Tryz.prog 51 [.v (.str u1) [], .v (aI u0) []] (.v (.tup [.agg (GSign.q r.1), aI r.2]) []) [] := by
  refine FnO.o2 Tryz.func51 (rfl : Tryz.f51.body = some _) ?_
  intro w0 X0 Fin pv0 pb gt
  unfold pimpl_nextSign at h
  apply Wc.seq
  refine Wc.r0 ⟨[tS 0 u1, tI 1 u0, tP 4 4], [bC 4 GSign.z], []⟩ ?_
  apply Wc.seq
  obtain ⟨h7, h⟩ := oguard h
  refine Wc.r2 [] ⟨[tS 0 u1, tI 1 u0, tP 4 4, tV 6 (.int .u8 (bt u1 u0))], [bC 4 GSign.z], []⟩ (.cons h7 .nil) ?_
  apply Wc.seq
  refine Wc.r0 ⟨[tS 0 u1, tI 1 u0, tP 4 4, tV 6 (.int .u8 (bt u1 u0)), tP 7 7], [bC 4 GSign.z, bC 7 [aI 0, .str (bs []), aI 0, aI u0, .bool false]], []⟩ ?_
  apply Wc.seq
  refine Wc.r0 ⟨[tS 0 u1, tI 1 u0, tP 4 4, tV 6 (.int .u8 (bt u1 u0)), tP 7 7, tI 8 (wr.i64 (u0 + 1))], [bC 4 GSign.z, bC 7 [aI 0, .str (bs []), aI 0, aI u0, .bool false]], []⟩ ?_
  refine Wc.seqJ (fun st => ∃ (ui : Int) (v5 : GSign), st = ⟨[tS 0 u1, tI 1 u0, tP 4 4, tP 7 7, tI 8 ui], [bC 4 GSign.z, bC 7 (GSign.q v5)], []⟩ ∧ pimpl_nextSign_J1 k u0 u1 ui v5 = some r) ?_ ?_
  · refine Wc.block ?_
    apply Wc.seq
    obtain ⟨u27, h12, h⟩ := obind h
    refine Wc.r2 [{}, {}, { r := some (.v (.bool u27) []) }] ⟨[tS 0 u1, tI 1 u0, tP 4 4, tV 6 (.int .u8 (bt u1 u0)), tP 7 7, tI 8 (wr.i64 (u0 + 1)), tB 19 u27], [bC 4 GSign.z, bC 7 [aI 0, .str (bs []), aI 0, aI u0, .bool false]], []⟩ (.cons (cimpl_endsHere h12) .nil) ?_
    rcases oif h with ⟨h13, h⟩ | ⟨h13, h⟩
    · refine Wc.cT h13 ?_
      apply Wc.seq
      refine Wc.r0 ⟨[tP 4 4, tP 7 7, tI 8 (wr.i64 (u0 + 1))], [bC 4 GSign.z, bC 7 [aI 5, .str (bs [46]), aI 0, aI u0, .bool false]], []⟩ ?_
      apply Wc.seq
      refine Wc.r0 ⟨[tP 4 4, tI 5 (wr.i64 (u0 + 1))], [bC 4 [aI 5, .str (bs [46]), aI 0, aI u0, .bool false]], []⟩ ?_
      obtain rfl := Option.some.inj h; exact Wc.ret dn
    · refine Wc.cF h13 ?_
      refine Wc.seqJ (fun st => ∃ (u01 : Bool), st = ⟨[tS 0 u1, tI 1 u0, tP 4 4, tV 6 (.int .u8 (bt u1 u0)), tP 7 7, tI 8 (wr.i64 (u0 + 1)), tB 27 u01], [bC 4 GSign.z, bC 7 [aI 0, .str (bs []), aI 0, aI u0, .bool false]], []⟩ ∧ pimpl_nextSign_J2 k u1 u0 u01 = some r) ?_ ?_
      · obtain ⟨u0j, h33, h⟩ := obind h
        rcases oif h with ⟨h34, h⟩ | ⟨h34, h⟩
        · refine Wc.r2 [{}, { r := some (.v (.bool u0j) []) }, { re := some (.bool true) }] ⟨[tS 0 u1, tI 1 u0, tP 4 4, tV 6 (.int .u8 (bt u1 u0)), tP 7 7, tI 8 (wr.i64 (u0 + 1)), tB 27 true], [bC 4 GSign.z, bC 7 [aI 0, .str (bs []), aI 0, aI u0, .bool false]], []⟩ (.cons (cimpl_lower h33) (.cons (congrArg AV.bool h34) .nil)) ?_
          exact ⟨_, rfl, h⟩
        · obtain ⟨u28, h35, h⟩ := obind h
          rcases oif h with ⟨h36, h⟩ | ⟨h36, h⟩
          · refine Wc.r2 [{}, { r := some (.v (.bool u0j) []) }, { re := some (.bool false) }, {}, { r := some (.v (.bool u28) []) }, {}, { re := some (.bool true) }] ⟨[tS 0 u1, tI 1 u0, tP 4 4, tV 6 (.int .u8 (bt u1 u0)), tP 7 7, tI 8 (wr.i64 (u0 + 1)), tB 27 true], [bC 4 GSign.z, bC 7 [aI 0, .str (bs []), aI 0, aI u0, .bool false]], []⟩ (.cons (cimpl_lower h33) (.cons (congrArg AV.bool h34) (.cons (cimpl_upper h35) (.cons (congrArg AV.bool h36) .nil)))) ?_
            exact ⟨_, rfl, h⟩
          · refine Wc.r2 [{}, { r := some (.v (.bool u0j) []) }, { re := some (.bool false) }, {}, { r := some (.v (.bool u28) []) }, {}, { re := some (.bool false) }] ⟨[tS 0 u1, tI 1 u0, tP 4 4, tV 6 (.int .u8 (bt u1 u0)), tP 7 7, tI 8 (wr.i64 (u0 + 1)), tB 27 ((bt u1 u0) == 95)], [bC 4 GSign.z, bC 7 [aI 0, .str (bs []), aI 0, aI u0, .bool false]], []⟩ (.cons (cimpl_lower h33) (.cons (congrArg AV.bool h34) (.cons (cimpl_upper h35) (.cons (congrArg AV.bool h36) .nil)))) ?_
            exact ⟨_, rfl, h⟩
      · rintro st ⟨u01, rfl, h⟩
        rcases oif h with ⟨h14, h⟩ | ⟨h14, h⟩
        · refine Wc.cT h14 ?_
          apply Wc.seq
          obtain ⟨vd, h15, h⟩ := obind h
          refine Wc.r2 [{}, {}, { r := some (.v (aI vd) []) }] ⟨[tS 0 u1, tI 1 u0, tP 4 4, tV 6 (.int .u8 (bt u1 u0)), tP 7 7, tI 8 vd], [bC 4 GSign.z, bC 7 [aI 0, .str (bs []), aI 0, aI u0, .bool false]], []⟩ (.cons (cimpl_run_on2_pimpl_wordByte h15) .nil) ?_
          apply Wc.seq
          refine Wc.r0 ⟨[tS 0 u1, tI 1 u0, tP 4 4, tV 6 (.int .u8 (bt u1 u0)), tP 7 7, tI 8 vd], [bC 4 GSign.z, bC 7 [aI 2, .str (bs []), aI 0, aI u0, .bool false]], []⟩ ?_
          apply Wc.seq
          obtain ⟨u0n, h16, h⟩ := obind h
          refine Wc.r2 [{}, { r := some (.v (.bool u0n) []) }] ⟨[tS 0 u1, tI 1 u0, tP 4 4, tP 7 7, tI 8 vd, tB 43 u0n], [bC 4 GSign.z, bC 7 [aI 2, .str (bs []), aI 0, aI u0, .bool false]], []⟩ (.cons (cimpl_lower h16) .nil) ?_
          rcases oif h with ⟨h17, h⟩ | ⟨h17, h⟩
          · refine Wc.cT h17 ?_
            refine Wc.r0 ⟨[tS 0 u1, tI 1 u0, tP 4 4, tP 7 7, tI 8 vd], [bC 4 GSign.z, bC 7 [aI 1, .str (bs []), aI 0, aI u0, .bool false]], []⟩ ?_
            exact ⟨_, _, rfl, h⟩
          · refine Wc.cF h17 ?_
            refine Wc.fx [] ⟨[tS 0 u1, tI 1 u0, tP 4 4, tP 7 7, tI 8 vd], [bC 4 GSign.z, bC 7 [aI 2, .str (bs []), aI 0, aI u0, .bool false]], []⟩ ?_
            refine Wc.skip ?_
            exact ⟨_, _, rfl, h⟩
        · refine Wc.cF h14 ?_
          apply Wc.seq
          obtain ⟨z8, h18, h⟩ := obind h
          refine Wc.r2 [{}, { r := some (.v (.bool z8) []) }] ⟨[tS 0 u1, tI 1 u0, tP 4 4, tV 6 (.int .u8 (bt u1 u0)), tP 7 7, tI 8 (wr.i64 (u0 + 1)), tB 45 z8], [bC 4 GSign.z, bC 7 [aI 0, .str (bs []), aI 0, aI u0, .bool false]], []⟩ (.cons (cimpl_figure h18) .nil) ?_
          rcases oif h with ⟨h19, h⟩ | ⟨h19, h⟩
          · refine Wc.cT h19 ?_
            apply Wc.seq
            obtain ⟨ue, h20, h⟩ := obind h
            refine Wc.r2 [{}, {}, { r := some (.v (aI ue) []) }] ⟨[tS 0 u1, tI 1 u0, tP 4 4, tP 7 7, tI 8 ue], [bC 4 GSign.z, bC 7 [aI 0, .str (bs []), aI 0, aI u0, .bool false]], []⟩ (.cons (cimpl_run_on2_pimpl_figure h20) .nil) ?_
            apply Wc.seq
            refine Wc.r0 ⟨[tS 0 u1, tI 1 u0, tP 4 4, tP 7 7, tI 8 ue, tI 9 0], [bC 4 GSign.z, bC 7 [aI 0, .str (bs []), aI 0, aI u0, .bool false]], []⟩ ?_
            apply Wc.seq
            apply Wc.seq
            refine Wc.r0 ⟨[tS 0 u1, tI 1 u0, tP 4 4, tP 7 7, tI 8 ue, tI 9 0, tI 10 u0], [bC 4 GSign.z, bC 7 [aI 0, .str (bs []), aI 0, aI u0, .bool false]], []⟩ ?_
            obtain ⟨out3, h21, h⟩ := obind h
            refine Wc.lastJ (fun st => ∃ (vq : Int), out3 = .done vq ∧ st = ⟨[tS 0 u1, tI 1 u0, tP 4 4, tP 7 7, tI 8 ue, tI 9 vq], [bC 4 GSign.z, bC 7 [aI 0, .str (bs []), aI 0, aI u0, .bool false]], []⟩) ?_ ?_
            · refine Wc.block ?_
              refine Wc.loop (fun m st => ∃ (ut : Int) (v3 : Int), st = ⟨[tS 0 u1, tI 1 u0, tP 4 4, tP 7 7, tI 8 ue, tI 9 ut, tI 10 v3], [bC 4 GSign.z, bC 7 [aI 0, .str (bs []), aI 0, aI u0, .bool false]], []⟩ ∧ pimpl_nextSign_L3 k ue u1 m ut v3 = some out3) ?_ k ⟨_, _, rfl, h21⟩
              rintro m st ⟨ut, v3, rfl, h21⟩
              cases m with
              | zero => exact (onone h21).elim
              | succ m =>
                apply Wc.seq
                apply Wc.seq
                rcases oif h21 with ⟨h22, h21⟩ | ⟨h22, h21⟩
                · refine Wc.r2 [{}, {}, {}, { re := some (.bool true) }] ⟨[tS 0 u1, tI 1 u0, tP 4 4, tP 7 7, tI 8 ue, tI 9 ut, tI 10 v3, tB 58 (decide (ut ≤ 999999999))], [bC 4 GSign.z, bC 7 [aI 0, .str (bs []), aI 0, aI u0, .bool false]], []⟩ (.cons (congrArg AV.bool h22) .nil) ?_
                  rcases oif h21 with ⟨h23, h21⟩ | ⟨h23, h21⟩
                  · refine Wc.cT h23 ?_
                    refine Wc.fx [] ⟨[tS 0 u1, tI 1 u0, tP 4 4, tP 7 7, tI 8 ue, tI 9 ut, tI 10 v3], [bC 4 GSign.z, bC 7 [aI 0, .str (bs []), aI 0, aI u0, .bool false]], []⟩ ?_
                    refine Wc.skip ?_
                    apply Wc.seq
                    refine Wc.block ?_
                    obtain ⟨h24, h21⟩ := oguard h21
                    refine Wc.r2 [] ⟨[tS 0 u1, tI 1 u0, tP 4 4, tP 7 7, tI 8 ue, tI 9 (wr.i64 ((wr.i64 (10 * ut)) + (wr.i64 (wr.u8 ((bt u1 v3) - 48))))), tI 10 v3], [bC 4 GSign.z, bC 7 [aI 0, .str (bs []), aI 0, aI u0, .bool false]], []⟩ (.cons h24 .nil) ?_
                    refine Wc.r0 ⟨[tS 0 u1, tI 1 u0, tP 4 4, tP 7 7, tI 8 ue, tI 9 (wr.i64 ((wr.i64 (10 * ut)) + (wr.i64 (wr.u8 ((bt u1 v3) - 48))))), tI 10 (wr.i64 (v3 + 1))], [bC 4 GSign.z, bC 7 [aI 0, .str (bs []), aI 0, aI u0, .bool false]], []⟩ ?_
                    exact ⟨_, Nat.lt_succ_self _, _, _, rfl, h21⟩
                  · refine Wc.cF h23 ?_
                    refine Wc.fx [] ⟨[tS 0 u1, tI 1 u0, tP 4 4, tP 7 7, tI 8 ue, tI 9 ut], [bC 4 GSign.z, bC 7 [aI 0, .str (bs []), aI 0, aI u0, .bool false]], []⟩ ?_
                    refine Wc.exit ?_
                    obtain rfl := Option.some.inj h21
                    exact ⟨_, rfl, rfl⟩
                · refine Wc.r2 [{}, {}, {}, { re := some (.bool false) }] ⟨[tS 0 u1, tI 1 u0, tP 4 4, tP 7 7, tI 8 ue, tI 9 ut, tI 10 v3, tB 58 false], [bC 4 GSign.z, bC 7 [aI 0, .str (bs []), aI 0, aI u0, .bool false]], []⟩ (.cons (congrArg AV.bool h22) .nil) ?_
                  refine Wc.cF rfl ?_
                  refine Wc.fx [] ⟨[tS 0 u1, tI 1 u0, tP 4 4, tP 7 7, tI 8 ue, tI 9 ut], [bC 4 GSign.z, bC 7 [aI 0, .str (bs []), aI 0, aI u0, .bool false]], []⟩ ?_
                  refine Wc.exit ?_
                  obtain rfl := Option.some.inj h21
                  exact ⟨_, rfl, rfl⟩
            · rintro st ⟨vq, rfl, rfl⟩
              apply Wc.seq
              refine Wc.r0 ⟨[tS 0 u1, tI 1 u0, tP 4 4, tP 7 7, tI 8 ue, tI 9 vq, tB 70 (decide (vq ≤ 999999999))], [bC 4 GSign.z, bC 7 [aI 0, .str (bs []), aI 0, aI u0, .bool false]], []⟩ ?_
              rcases oif h with ⟨h25, h⟩ | ⟨h25, h⟩
              · refine Wc.cT h25 ?_
                apply Wc.seq
                refine Wc.r0 ⟨[tP 4 4, tP 7 7, tI 8 ue], [bC 4 GSign.z, bC 7 [aI 3, .str (bs []), aI vq, aI u0, .bool false]], []⟩ ?_
                apply Wc.seq
                refine Wc.r0 ⟨[tP 4 4, tI 5 ue], [bC 4 [aI 3, .str (bs []), aI vq, aI u0, .bool false]], []⟩ ?_
                obtain rfl := Option.some.inj h; exact Wc.ret dn
              · refine Wc.cF h25 ?_
                refine Wc.fx [] ⟨[tS 0 u1, tI 1 u0, tP 4 4, tP 7 7, tI 8 ue], [bC 4 GSign.z, bC 7 [aI 0, .str (bs []), aI 0, aI u0, .bool false]], []⟩ ?_
                refine Wc.skip ?_
                exact ⟨_, _, rfl, h⟩
          · refine Wc.cF h19 ?_
            apply Wc.seq
            obtain ⟨u4i, h26, h⟩ := obind h
            refine Wc.r2 [{}, { r := some (.v (.bool u4i) []) }] ⟨[tS 0 u1, tI 1 u0, tP 4 4, tV 6 (.int .u8 (bt u1 u0)), tP 7 7, tI 8 (wr.i64 (u0 + 1)), tB 76 u4i], [bC 4 GSign.z, bC 7 [aI 0, .str (bs []), aI 0, aI u0, .bool false]], []⟩ (.cons (cimpl_SymbolByte h26) .nil) ?_
            rcases oif h with ⟨h27, h⟩ | ⟨h27, h⟩
            · refine Wc.cT h27 ?_
              exact (onone h).elim
            · refine Wc.cF h27 ?_
              refine Wc.seqJ (fun st => ∃ (z1 : Bool), st = ⟨[tS 0 u1, tI 1 u0, tP 4 4, tV 6 (.int .u8 (bt u1 u0)), tP 7 7, tI 8 (wr.i64 (u0 + 1)), tB 83 z1], [bC 4 GSign.z, bC 7 [aI 0, .str (bs []), aI 0, aI u0, .bool false]], []⟩ ∧ pimpl_nextSign_J4 k u1 u0 z1 = some r) ?_ ?_
              · rcases oif h with ⟨h32, h⟩ | ⟨h32, h⟩
                · refine Wc.r2 [{}, {}, { re := some (.bool true) }] ⟨[tS 0 u1, tI 1 u0, tP 4 4, tV 6 (.int .u8 (bt u1 u0)), tP 7 7, tI 8 (wr.i64 (u0 + 1)), tB 83 true], [bC 4 GSign.z, bC 7 [aI 0, .str (bs []), aI 0, aI u0, .bool false]], []⟩ (.cons (congrArg AV.bool h32) .nil) ?_
                  exact ⟨_, rfl, h⟩
                · refine Wc.r2 [{}, {}, { re := some (.bool false) }] ⟨[tS 0 u1, tI 1 u0, tP 4 4, tV 6 (.int .u8 (bt u1 u0)), tP 7 7, tI 8 (wr.i64 (u0 + 1)), tB 83 ((bt u1 u0) == 59)], [bC 4 GSign.z, bC 7 [aI 0, .str (bs []), aI 0, aI u0, .bool false]], []⟩ (.cons (congrArg AV.bool h32) .nil) ?_
                  exact ⟨_, rfl, h⟩
              · rintro st ⟨z1, rfl, h⟩
                rcases oif h with ⟨h28, h⟩ | ⟨h28, h⟩
                · refine Wc.cT h28 ?_
                  exact (onone h).elim
                · refine Wc.cF h28 ?_
                  apply Wc.seq
                  obtain ⟨u4h, h29, h⟩ := obind h
                  refine Wc.r2 [{}, { r := some (.v (aI u4h) []) }] ⟨[tS 0 u1, tI 1 u0, tP 4 4, tV 6 (.int .u8 (bt u1 u0)), tP 7 7, tI 8 (wr.i64 (u0 + 1)), tB 91 (decide (u4h ≥ 0))], [bC 4 GSign.z, bC 7 [aI 0, .str (bs []), aI 0, aI u0, .bool false]], []⟩ (.cons (cstrings_IndexByte h29) .nil) ?_
                  rcases oif h with ⟨h30, h⟩ | ⟨h30, h⟩
                  · refine Wc.cT h30 ?_
                    refine Wc.r0 ⟨[tS 0 u1, tI 1 u0, tP 4 4, tP 7 7, tI 8 (wr.i64 (u0 + 1))], [bC 4 GSign.z, bC 7 [aI 4, .str (bs []), aI 0, aI u0, .bool false]], []⟩ ?_
                    exact ⟨_, _, rfl, h⟩
                  · refine Wc.cF h30 ?_
                    apply Wc.seq
                    refine Wc.r0 ⟨[tS 0 u1, tI 1 u0, tP 4 4, tP 7 7, tI 8 (wr.i64 (u0 + 1)), tB 96 ((bt u1 u0) == 39)], [bC 4 GSign.z, bC 7 [aI 0, .str (bs []), aI 0, aI u0, .bool false]], []⟩ ?_
                    rcases oif h with ⟨h31, h⟩ | ⟨h31, h⟩
                    · refine Wc.cT h31 ?_
                      exact (onone h).elim
                    · refine Wc.cF h31 ?_
                      refine Wc.fx [] ⟨[tS 0 u1, tI 1 u0, tP 4 4, tP 7 7, tI 8 (wr.i64 (u0 + 1))], [bC 4 GSign.z, bC 7 [aI 0, .str (bs []), aI 0, aI u0, .bool false]], []⟩ ?_
                      refine Wc.skip ?_
                      exact ⟨_, _, rfl, h⟩
  · rintro st ⟨ui, v5, rfl, h⟩
    apply Wc.seq
    obtain ⟨h8, h⟩ := oguard h
    refine Wc.r2 [] ⟨[tP 4 4, tP 7 7, tI 8 ui], [bC 4 GSign.z, bC 7 [aI v5.gKind, .str (u1.extract (u0 : Int).toNat (ui : Int).toNat), aI v5.gNum, aI v5.gAt, .bool v5.gNear]], []⟩ (.cons h8 .nil) ?_
    apply Wc.seq
    apply Wc.seq
    rcases oif h with ⟨h9, h⟩ | ⟨h9, h⟩
    · refine Wc.r2 [{}, {}, {}, { re := some (.bool true) }] ⟨[tP 4 4, tP 7 7, tI 8 ui, tB 148 true], [bC 4 GSign.z, bC 7 [aI v5.gKind, .str (u1.extract (u0 : Int).toNat (ui : Int).toNat), aI v5.gNum, aI v5.gAt, .bool v5.gNear]], []⟩ (.cons (congrArg AV.bool h9) .nil) ?_
      refine Wc.cT rfl ?_
      exact (onone h).elim
    · rcases oif h with ⟨h10, h⟩ | ⟨h10, h⟩
      · refine Wc.r2 [{}, {}, {}, { re := some (.bool false) }, {}, {}, {}, { re := some (.bool true) }] ⟨[tP 4 4, tP 7 7, tI 8 ui, tB 148 (decide (((u1.extract (u0 : Int).toNat (ui : Int).toNat).size : Int) > 20))], [bC 4 GSign.z, bC 7 [aI v5.gKind, .str (u1.extract (u0 : Int).toNat (ui : Int).toNat), aI v5.gNum, aI v5.gAt, .bool v5.gNear]], []⟩ (.cons (congrArg AV.bool h9) (.cons (congrArg AV.bool h10) .nil)) ?_
        rcases oif h with ⟨h11, h⟩ | ⟨h11, h⟩
        · refine Wc.cT h11 ?_
          exact (onone h).elim
        · refine Wc.cF h11 ?_
          refine Wc.fx [] ⟨[tP 4 4, tP 7 7, tI 8 ui], [bC 4 GSign.z, bC 7 [aI v5.gKind, .str (u1.extract (u0 : Int).toNat (ui : Int).toNat), aI v5.gNum, aI v5.gAt, .bool v5.gNear]], []⟩ ?_
          refine Wc.skip ?_
          apply Wc.seq
          refine Wc.r0 ⟨[tP 4 4, tI 5 ui], [bC 4 [aI v5.gKind, .str (u1.extract (u0 : Int).toNat (ui : Int).toNat), aI v5.gNum, aI v5.gAt, .bool v5.gNear]], []⟩ ?_
          obtain rfl := Option.some.inj h; exact Wc.ret dn
      · refine Wc.r2 [{}, {}, {}, { re := some (.bool false) }, {}, {}, {}, { re := some (.bool false) }] ⟨[tP 4 4, tP 7 7, tI 8 ui, tB 148 false], [bC 4 GSign.z, bC 7 [aI v5.gKind, .str (u1.extract (u0 : Int).toNat (ui : Int).toNat), aI v5.gNum, aI v5.gAt, .bool v5.gNear]], []⟩ (.cons (congrArg AV.bool h9) (.cons (congrArg AV.bool h10) .nil)) ?_
        refine Wc.cF rfl ?_
        refine Wc.fx [] ⟨[tP 4 4, tP 7 7, tI 8 ui], [bC 4 GSign.z, bC 7 [aI v5.gKind, .str (u1.extract (u0 : Int).toNat (ui : Int).toNat), aI v5.gNum, aI v5.gAt, .bool v5.gNear]], []⟩ ?_
        refine Wc.skip ?_
        apply Wc.seq
        refine Wc.r0 ⟨[tP 4 4, tI 5 ui], [bC 4 [aI v5.gKind, .str (u1.extract (u0 : Int).toNat (ui : Int).toNat), aI v5.gNum, aI v5.gAt, .bool v5.gNear]], []⟩ ?_
        obtain rfl := Option.some.inj h; exact Wc.ret dn

def pimpl_SignsOf_J2 (k : Nat) (bk_ : (List GSign) → Int → Option (Out ((List GSign) × Bool) (List GSign))) (vk : List GSign) (uc : Int) (u4 : ByteArray) (u0i : Bool) : Option (Out ((List GSign) × Bool) (List GSign)) :=
  if u0i = true then
    bk_ vk (wr.i64 (uc + 1))
  else
    if ((bt u4 uc) == 37) = true then
      none
    else
      (pimpl_nextSign k u4 uc).bind fun u2 =>
      if (decide (u2.2 < (u4.size : Int))) = true then
        if 0 ≤ u2.2 ∧ (u2.2).toNat < u4.size then
          if vk.length + [GSign.mk u2.1.gKind u2.1.gText u2.1.gNum u2.1.gAt ((bt u4 u2.2) == 40)].length ≤ 1073741824 then
            bk_ (vk ++ [GSign.mk u2.1.gKind u2.1.gText u2.1.gNum u2.1.gAt ((bt u4 u2.2) == 40)]) u2.2
          else none
        else none
      else
        if vk.length + [GSign.mk u2.1.gKind u2.1.gText u2.1.gNum u2.1.gAt false].length ≤ 1073741824 then
          bk_ (vk ++ [GSign.mk u2.1.gKind u2.1.gText u2.1.gNum u2.1.gAt false]) u2.2
        else none
def pimpl_SignsOf_L1 (k : Nat) (u4 : ByteArray) : Nat → (List GSign) → Int → Option (Out ((List GSign) × Bool) (List GSign))
  | 0, _, _ => none
  | m + 1, vk, uc =>
    if (decide (uc < (u4.size : Int))) = true then
      if 0 ≤ uc ∧ (uc).toNat < u4.size then
        if ((bt u4 uc) == 32) = true then
          pimpl_SignsOf_J2 k (pimpl_SignsOf_L1 k u4 m) vk uc u4 ((bt u4 uc) == 32)
        else
          if ((bt u4 uc) == 9) = true then
            pimpl_SignsOf_J2 k (pimpl_SignsOf_L1 k u4 m) vk uc u4 ((bt u4 uc) == 9)
          else
            pimpl_SignsOf_J2 k (pimpl_SignsOf_L1 k u4 m) vk uc u4 ((bt u4 uc) == 10)
      else none
    else
      some (.done vk)
def pimpl_SignsOf (k : Nat) (u4 : ByteArray) : Option ((List GSign) × Bool) :=
  if (decide ((u4.size : Int) > 3000)) = true then
    none
  else
    (pimpl_SignsOf_L1 k u4 k [] 0).bind fun out1 => match out1 with
    | .ret r => some r
    | .done u3a =>
      some (u3a, true)
theorem cimpl_SignsOf {k : Nat} {u4 : ByteArray} {r : (List GSign) × Bool} (h : pimpl_SignsOf k u4 = some r) : FnO Tryz.prog 31 [.v (.str u4) []] (.v (.tup [.sl (List.map GSign.c r.1), .bool r.2]) [(0, .app 95)]) [] := by
  refine FnO.o2 Tryz.func31 (rfl : Tryz.f31.body = some _) ?_
  intro w0 X0 Fin pv0 pb gt
  unfold pimpl_SignsOf at h
  apply Wc.seq
  refine Wc.r0 ⟨[tS 0 u4], [], []⟩ ?_
  apply Wc.seq
  apply Wc.seq
  refine Wc.r0 ⟨[tS 0 u4, tB 10 (decide ((u4.size : Int) > 3000))], [], []⟩ ?_
  rcases oif h with ⟨h15, h⟩ | ⟨h15, h⟩
  · refine Wc.cT h15 ?_
    exact (onone h).elim
  · refine Wc.cF h15 ?_
    refine Wc.fx [] ⟨[tS 0 u4], [], []⟩ ?_
    refine Wc.skip ?_
    apply Wc.seq
    refine Wc.r0 ⟨[tS 0 u4, (4, (.v (.sl (List.map GSign.c [])), [(0, .app 95)]))], [], []⟩ ?_
    apply Wc.seq
    apply Wc.seq
    refine Wc.r0 ⟨[tS 0 u4, (4, (.v (.sl (List.map GSign.c [])), [(0, .app 95)])), tI 5 0], [], []⟩ ?_
    obtain ⟨out1, h16, h⟩ := obind h
    refine Wc.lastJ (fun st => ∃ (u3a : List GSign), out1 = .done u3a ∧ st = ⟨[(4, (.v (.sl (List.map GSign.c u3a)), [(0, .app 95)]))], [], []⟩) ?_ ?_
    · refine Wc.block ?_
      refine Wc.loop (fun m st => ∃ (vk : List GSign) (uc : Int), st = ⟨[tS 0 u4, (4, (.v (.sl (List.map GSign.c vk)), [(0, .app 95)])), tI 5 uc], [], []⟩ ∧ pimpl_SignsOf_L1 k u4 m vk uc = some out1) ?_ k ⟨_, _, rfl, h16⟩
      rintro m st ⟨vk, uc, rfl, h16⟩
      cases m with
      | zero => exact (onone h16).elim
      | succ m =>
        apply Wc.seq
        apply Wc.seq
        refine Wc.r0 ⟨[tS 0 u4, (4, (.v (.sl (List.map GSign.c vk)), [(0, .app 95)])), tI 5 uc, tB 14 (decide (uc < (u4.size : Int)))], [], []⟩ ?_
        rcases oif h16 with ⟨h17, h16⟩ | ⟨h17, h16⟩
        · refine Wc.cT h17 ?_
          refine Wc.fx [] ⟨[tS 0 u4, (4, (.v (.sl (List.map GSign.c vk)), [(0, .app 95)])), tI 5 uc], [], []⟩ ?_
          refine Wc.skip ?_
          refine Wc.block ?_
          apply Wc.seq
          apply Wc.seq
          obtain ⟨h18, h16⟩ := oguard h16
          refine Wc.r2 [] ⟨[tS 0 u4, (4, (.v (.sl (List.map GSign.c vk)), [(0, .app 95)])), tI 5 uc, tV 17 (.int .u8 (bt u4 uc))], [], []⟩ (.cons h18 .nil) ?_
          refine Wc.block ?_
          refine Wc.seqJ (fun st => ∃ (u0i : Bool), st = ⟨[tS 0 u4, (4, (.v (.sl (List.map GSign.c vk)), [(0, .app 95)])), tI 5 uc, tV 17 (.int .u8 (bt u4 uc)), tB 18 u0i], [], []⟩ ∧ pimpl_SignsOf_J2 k (pimpl_SignsOf_L1 k u4 m) vk uc u4 u0i = some out1) ?_ ?_
          · apply Wc.seq
            refine Wc.r0 ⟨[tS 0 u4, (4, (.v (.sl (List.map GSign.c vk)), [(0, .app 95)])), tI 5 uc, tV 17 (.int .u8 (bt u4 uc)), tB 18 ((bt u4 uc) == 32)], [], []⟩ ?_
            rcases oif h16 with ⟨h26, h16⟩ | ⟨h26, h16⟩
            · refine Wc.cT h26 ?_
              refine Wc.skip ?_
              exact ⟨_, rfl, h16⟩
            · refine Wc.cF h26 ?_
              apply Wc.seq
              refine Wc.r0 ⟨[tS 0 u4, (4, (.v (.sl (List.map GSign.c vk)), [(0, .app 95)])), tI 5 uc, tV 17 (.int .u8 (bt u4 uc)), tB 18 ((bt u4 uc) == 9)], [], []⟩ ?_
              rcases oif h16 with ⟨h27, h16⟩ | ⟨h27, h16⟩
              · refine Wc.cT h27 ?_
                refine Wc.skip ?_
                exact ⟨_, rfl, h16⟩
              · refine Wc.cF h27 ?_
                refine Wc.r0 ⟨[tS 0 u4, (4, (.v (.sl (List.map GSign.c vk)), [(0, .app 95)])), tI 5 uc, tV 17 (.int .u8 (bt u4 uc)), tB 18 ((bt u4 uc) == 10)], [], []⟩ ?_
                exact ⟨_, rfl, h16⟩
          · rintro st ⟨u0i, rfl, h16⟩
            rcases oif h16 with ⟨h19, h16⟩ | ⟨h19, h16⟩
            · refine Wc.cT h19 ?_
              apply Wc.seq
              refine Wc.r0 ⟨[tS 0 u4, (4, (.v (.sl (List.map GSign.c vk)), [(0, .app 95)])), tI 5 (wr.i64 (uc + 1))], [], []⟩ ?_
              refine Wc.exit ?_
              exact ⟨_, Nat.lt_succ_self _, _, _, rfl, h16⟩
            · refine Wc.cF h19 ?_
              apply Wc.seq
              refine Wc.r0 ⟨[tS 0 u4, (4, (.v (.sl (List.map GSign.c vk)), [(0, .app 95)])), tI 5 uc, tB 24 ((bt u4 uc) == 37)], [], []⟩ ?_
              rcases oif h16 with ⟨h20, h16⟩ | ⟨h20, h16⟩
              · refine Wc.cT h20 ?_
                exact (onone h16).elim
              · refine Wc.cF h20 ?_
                refine Wc.fx [] ⟨[tS 0 u4, (4, (.v (.sl (List.map GSign.c vk)), [(0, .app 95)])), tI 5 uc], [], []⟩ ?_
                refine Wc.skip ?_
                apply Wc.seq
                obtain ⟨u2, h21, h16⟩ := obind h16
                refine Wc.r2 [{}, {}, { r := some (.v (.tup [.agg (GSign.q u2.1), aI u2.2]) []) }] ⟨[tS 0 u4, (4, (.v (.sl (List.map GSign.c vk)), [(0, .app 95)])), tP 6 6, tI 7 u2.2], [bC 6 (GSign.q u2.1)], []⟩ (.cons (cimpl_nextSign h21) .nil) ?_
                apply Wc.seq
                rcases oif h16 with ⟨h22, h16⟩ | ⟨h22, h16⟩
                · obtain ⟨h23, h16⟩ := oguard h16
                  refine Wc.r2 [{}, {}, {}, {}, { re := some (.bool true) }] ⟨[tS 0 u4, (4, (.v (.sl (List.map GSign.c vk)), [(0, .app 95)])), tP 6 6, tI 7 u2.2], [bC 6 [aI u2.1.gKind, .str u2.1.gText, aI u2.1.gNum, aI u2.1.gAt, .bool ((bt u4 u2.2) == 40)]], []⟩ (.cons (congrArg AV.bool h22) (.cons h23 .nil)) ?_
                  apply Wc.seq
                  obtain ⟨h24, h16⟩ := oguard h16
                  refine Wc.r2 [{ tk := [4] }, {}, { c := some (List.map GSign.c [GSign.mk u2.1.gKind u2.1.gText u2.1.gNum u2.1.gAt ((bt u4 u2.2) == 40)]) }, { c := some (List.map GSign.c (vk ++ [GSign.mk u2.1.gKind u2.1.gText u2.1.gNum u2.1.gAt ((bt u4 u2.2) == 40)])), tk := [46] }, { tk := [49] }] ⟨[tS 0 u4, (4, (.v (.sl (List.map GSign.c (vk ++ [GSign.mk u2.1.gKind u2.1.gText u2.1.gNum u2.1.gAt ((bt u4 u2.2) == 40)]))), [(0, .app 95)])), tI 7 u2.2], [], []⟩ (.cons (cl_cons (c := GSign.c) (x := GSign.mk u2.1.gKind u2.1.gText u2.1.gNum u2.1.gAt ((bt u4 u2.2) == 40)) (GSign.c_eq (GSign.mk u2.1.gKind u2.1.gText u2.1.gNum u2.1.gAt ((bt u4 u2.2) == 40))) (cl_nil GSign.c)) (.cons (app_re2 GSign.c vk [GSign.mk u2.1.gKind u2.1.gText u2.1.gNum u2.1.gAt ((bt u4 u2.2) == 40)]) (.cons (app_leaf (c := GSign.c) (ys := [GSign.mk u2.1.gKind u2.1.gText u2.1.gNum u2.1.gAt ((bt u4 u2.2) == 40)]) GSign.c_leaf) (.cons (app_obl2 (c := GSign.c) (xs := vk) (ys := [GSign.mk u2.1.gKind u2.1.gText u2.1.gNum u2.1.gAt ((bt u4 u2.2) == 40)]) GSign.c_len h24) .nil)))) ?_
                  refine Wc.r0 ⟨[tS 0 u4, (4, (.v (.sl (List.map GSign.c (vk ++ [GSign.mk u2.1.gKind u2.1.gText u2.1.gNum u2.1.gAt ((bt u4 u2.2) == 40)]))), [(0, .app 95)])), tI 5 u2.2], [], []⟩ ?_
                  exact ⟨_, Nat.lt_succ_self _, _, _, rfl, h16⟩
                · refine Wc.r2 [{}, {}, {}, {}, { re := some (.bool false) }] ⟨[tS 0 u4, (4, (.v (.sl (List.map GSign.c vk)), [(0, .app 95)])), tP 6 6, tI 7 u2.2], [bC 6 [aI u2.1.gKind, .str u2.1.gText, aI u2.1.gNum, aI u2.1.gAt, .bool false]], []⟩ (.cons (congrArg AV.bool h22) .nil) ?_
                  apply Wc.seq
                  obtain ⟨h25, h16⟩ := oguard h16
                  refine Wc.r2 [{ tk := [4] }, {}, { c := some (List.map GSign.c [GSign.mk u2.1.gKind u2.1.gText u2.1.gNum u2.1.gAt false]) }, { c := some (List.map GSign.c (vk ++ [GSign.mk u2.1.gKind u2.1.gText u2.1.gNum u2.1.gAt false])), tk := [46] }, { tk := [49] }] ⟨[tS 0 u4, (4, (.v (.sl (List.map GSign.c (vk ++ [GSign.mk u2.1.gKind u2.1.gText u2.1.gNum u2.1.gAt false]))), [(0, .app 95)])), tI 7 u2.2], [], []⟩ (.cons (cl_cons (c := GSign.c) (x := GSign.mk u2.1.gKind u2.1.gText u2.1.gNum u2.1.gAt false) (GSign.c_eq (GSign.mk u2.1.gKind u2.1.gText u2.1.gNum u2.1.gAt false)) (cl_nil GSign.c)) (.cons (app_re2 GSign.c vk [GSign.mk u2.1.gKind u2.1.gText u2.1.gNum u2.1.gAt false]) (.cons (app_leaf (c := GSign.c) (ys := [GSign.mk u2.1.gKind u2.1.gText u2.1.gNum u2.1.gAt false]) GSign.c_leaf) (.cons (app_obl2 (c := GSign.c) (xs := vk) (ys := [GSign.mk u2.1.gKind u2.1.gText u2.1.gNum u2.1.gAt false]) GSign.c_len h25) .nil)))) ?_
                  refine Wc.r0 ⟨[tS 0 u4, (4, (.v (.sl (List.map GSign.c (vk ++ [GSign.mk u2.1.gKind u2.1.gText u2.1.gNum u2.1.gAt false]))), [(0, .app 95)])), tI 5 u2.2], [], []⟩ ?_
                  exact ⟨_, Nat.lt_succ_self _, _, _, rfl, h16⟩
        · refine Wc.cF h17 ?_
          refine Wc.fx [] ⟨[(4, (.v (.sl (List.map GSign.c vk)), [(0, .app 95)]))], [], []⟩ ?_
          refine Wc.exit ?_
          obtain rfl := Option.some.inj h16
          exact ⟨_, rfl, rfl⟩
    · rintro st ⟨u3a, rfl, rfl⟩
      apply Wc.seq
      refine Wc.r1 [{ tk := [4] }, { tk := [51] }] ⟨[(2, (.v (.sl (List.map GSign.c u3a)), [(0, .app 95)])), tB 3 true], [], []⟩ ?_
      obtain rfl := Option.some.inj h; exact Wc.ret dn

def pimpl_ReadSigns_L2 (k : Nat) (uw : List GSign) : Nat → Int → Option (Out (GTerm × (List ByteArray) × Int × Bool) Unit)
  | 0, _ => none
  | m + 1, ut =>
    if (decide (ut < (uw.length : Int))) = true then
      (at' uw (wr.i64 ((wr.i64 (ut + 1)) - 1))).bind fun u3b =>
      if (u3b.gKind == 5) = true then
        none
      else
        pimpl_ReadSigns_L2 k uw m (wr.i64 (ut + 1))
    else
      some (.done ())
def pimpl_ReadSigns_J1 (k : Nat) (uw : List GSign) (ue : Int) : Option (GTerm × (List ByteArray) × Int × Bool) :=
  (pimpl_ReadSigns_L2 k uw k (if 0 > ue then 0 else ue)).bind fun out2 => match out2 with
  | .ret r => some r
  | .done () =>
    some (GTerm.mk 0 (bs []) 0 [], [], (uw.length : Int), false)
def pimpl_ReadSigns_J3 (k : Nat) (zx : GParser × GTerm) (uw : List GSign) (ue : Int) (z1 : Bool) (u2h : GParser) : Option (GTerm × (List ByteArray) × Int × Bool) :=
  if z1 = true then
    some (zx.2, u2h.gNames, wr.i64 (u2h.gAt + 1), true)
  else
    pimpl_ReadSigns_J1 k uw ue
def pimpl_ReadSigns (k : Nat) (uw : List GSign) (ue : Int) : Option (GTerm × (List ByteArray) × Int × Bool) :=
  (pimpl_within k ue 0 (wr.i64 ((uw.length : Int) - 1))).bind fun u1w =>
  if u1w = true then
    (pimpl_parser_term k (GParser.mk uw ue [] 0 false) 1200).bind fun zx =>
    if (!zx.1.gBad) = true then
      (pimpl_parser_sign k zx.1 0).bind fun u1x =>
      if (u1x.2.gKind == 5) = true then
        (pimpl_TermOk k zx.2).bind fun u28 =>
        pimpl_ReadSigns_J3 k zx uw ue u28 u1x.1
      else
        pimpl_ReadSigns_J3 k zx uw ue false u1x.1
    else
      pimpl_ReadSigns_J3 k zx uw ue false zx.1
  else
    pimpl_ReadSigns_J1 k uw ue
set_option maxHeartbeats 4000000 in
theorem cimpl_ReadSigns {k : Nat} {uw : List GSign} {ue : Int} {r : GTerm × (List ByteArray) × Int × Bool} (h : pimpl_ReadSigns k uw ue = some r) : FnO Tryz.prog 32 [.v (.sl (List.map GSign.c uw)) [], .v (aI ue) []] (.v (.tup [.agg (GTerm.q r.1), .sl (List.map cS r.2.1), aI r.2.2.1, .bool r.2.2.2]) []) [] := by
  refine FnO.o2 Tryz.func32 (rfl : Tryz.f32.body = some _) ?_
  intro w0 X0 Fin pv0 pb gt
  unfold pimpl_ReadSigns at h
  apply Wc.seq
  refine Wc.r0 ⟨[tV 0 (.sl (List.map GSign.c uw)), tI 1 ue, tP 4 4], [(4, .cells GTerm.z [(3, .app 41)])], []⟩ ?_
  refine Wc.seqJ (fun st => st = ⟨[tV 0 (.sl (List.map GSign.c uw)), tI 1 ue, tP 4 4], [(4, .cells GTerm.z [(3, .app 41)])], []⟩ ∧ pimpl_ReadSigns_J1 k uw ue = some r) ?_ ?_
  · apply Wc.seq
    obtain ⟨u1w, h20, h⟩ := obind h
    refine Wc.r2 [{}, {}, { v := some (aI (uw.length : Int)) }, {}, { r := some (.v (.bool u1w) []) }] ⟨[tV 0 (.sl (List.map GSign.c uw)), tI 1 ue, tP 4 4, tB 15 u1w], [(4, .cells GTerm.z [(3, .app 41)])], []⟩ (.cons (len_obl GSign.c uw) (.cons (cimpl_within h20) .nil)) ?_
    rcases oif h with ⟨h21, h⟩ | ⟨h21, h⟩
    · refine Wc.cT h21 ?_
      apply Wc.seq
      refine Wc.r1 [{}, {}, {}, { tk := [18] }] ⟨[tV 0 (.sl (List.map GSign.c uw)), tI 1 ue, tP 4 4, tP 8 19], [(4, .cells GTerm.z [(3, .app 41)]), (19, .cells [.sl (List.map GSign.c uw), aI ue, .sl (List.map cS []), aI 0, .bool false] [(2, .app 9)])], []⟩ ?_
      apply Wc.seq
      obtain ⟨zx, h22, h⟩ := obind h
      refine Wc.r2 [{}, { r := some (.v (.agg (GTerm.q zx.2)) []), outs := [(0, .p (GParser.q zx.1) [])], fx := [.un (.b 19 2)] }] ⟨[tV 0 (.sl (List.map GSign.c uw)), tI 1 ue, tP 4 4, tP 8 19, tP 9 9], [(4, .cells GTerm.z [(3, .app 41)]), bC 9 (GTerm.q zx.2), bC 19 (GParser.q zx.1)], []⟩ (.cons (cimpl_parser_term h22) .nil) ?_
      refine Wc.seqJ (fun st => ∃ (z1 : Bool) (u2h : GParser), st = ⟨[tV 0 (.sl (List.map GSign.c uw)), tI 1 ue, tP 4 4, tP 8 19, tP 9 9, tB 36 z1], [(4, .cells GTerm.z [(3, .app 41)]), bC 9 (GTerm.q zx.2), bC 19 (GParser.q u2h)], []⟩ ∧ pimpl_ReadSigns_J3 k zx uw ue z1 u2h = some r) ?_ ?_
      · rcases oif h with ⟨h24, h⟩ | ⟨h24, h⟩
        · obtain ⟨u1x, h25, h⟩ := obind h
          rcases oif h with ⟨h26, h⟩ | ⟨h26, h⟩
          · obtain ⟨u28, h27, h⟩ := obind h
            refine Wc.r2 [{}, {}, {}, {}, {}, { re := some (.bool true) }, {}, { r := some (.v (.agg (GSign.q u1x.2)) []), outs := [(0, .p (GParser.q u1x.1) [])] }, {}, {}, {}, { re := some (.bool true) }, {}, { r := some (.v (.bool u28) []) }] ⟨[tV 0 (.sl (List.map GSign.c uw)), tI 1 ue, tP 4 4, tP 8 19, tP 9 9, tB 36 u28], [(4, .cells GTerm.z [(3, .app 41)]), bC 9 (GTerm.q zx.2), bC 19 (GParser.q u1x.1)], []⟩ (.cons (congrArg AV.bool h24) (.cons (cimpl_parser_sign h25) (.cons (congrArg AV.bool h26) (.cons (cimpl_TermOk h27) .nil)))) ?_
            exact ⟨_, _, rfl, h⟩
          · refine Wc.r2 [{}, {}, {}, {}, {}, { re := some (.bool true) }, {}, { r := some (.v (.agg (GSign.q u1x.2)) []), outs := [(0, .p (GParser.q u1x.1) [])] }, {}, {}, {}, { re := some (.bool false) }] ⟨[tV 0 (.sl (List.map GSign.c uw)), tI 1 ue, tP 4 4, tP 8 19, tP 9 9, tB 36 false], [(4, .cells GTerm.z [(3, .app 41)]), bC 9 (GTerm.q zx.2), bC 19 (GParser.q u1x.1)], []⟩ (.cons (congrArg AV.bool h24) (.cons (cimpl_parser_sign h25) (.cons (congrArg AV.bool h26) .nil))) ?_
            exact ⟨_, _, rfl, h⟩
        · refine Wc.r2 [{}, {}, {}, {}, {}, { re := some (.bool false) }] ⟨[tV 0 (.sl (List.map GSign.c uw)), tI 1 ue, tP 4 4, tP 8 19, tP 9 9, tB 36 false], [(4, .cells GTerm.z [(3, .app 41)]), bC 9 (GTerm.q zx.2), bC 19 (GParser.q zx.1)], []⟩ (.cons (congrArg AV.bool h24) .nil) ?_
          exact ⟨_, _, rfl, h⟩
      · rintro st ⟨z1, u2h, rfl, h⟩
        rcases oif h with ⟨h23, h⟩ | ⟨h23, h⟩
        · refine Wc.cT h23 ?_
          apply Wc.seq
          refine Wc.draw hmix [] [] [4, 5, 6, 7] [4] [] ⟨[tP 4 4, tV 5 (.sl (List.map cS u2h.gNames)), tI 6 (wr.i64 (u2h.gAt + 1)), tB 7 true], [bC 4 (GTerm.q zx.2)], []⟩ _ (by kernel_rfl) (fun X => by kernel_rfl) .nil ?_
          obtain rfl := Option.some.inj h; exact Wc.ret dn
        · refine Wc.cF h23 ?_
          refine Wc.fx [] ⟨[tV 0 (.sl (List.map GSign.c uw)), tI 1 ue, tP 4 4], [(4, .cells GTerm.z [(3, .app 41)])], []⟩ ?_
          refine Wc.skip ?_
          exact ⟨rfl, h⟩
    · refine Wc.cF h21 ?_
      refine Wc.fx [] ⟨[tV 0 (.sl (List.map GSign.c uw)), tI 1 ue, tP 4 4], [(4, .cells GTerm.z [(3, .app 41)])], []⟩ ?_
      refine Wc.skip ?_
      exact ⟨rfl, h⟩
  · rintro st ⟨rfl, h⟩
    apply Wc.seq
    refine Wc.r0 ⟨[tV 0 (.sl (List.map GSign.c uw)), tP 4 4, tI 10 (if 0 > ue then 0 else ue)], [(4, .cells GTerm.z [(3, .app 41)])], []⟩ ?_
    obtain ⟨out2, h16, h⟩ := obind h
    refine Wc.seqJ (fun st => out2 = .done () ∧ st = ⟨[tV 0 (.sl (List.map GSign.c uw)), tP 4 4], [(4, .cells GTerm.z [(3, .app 41)])], []⟩) ?_ ?_
    · refine Wc.block ?_
      refine Wc.loop (fun m st => ∃ (ut : Int), st = ⟨[tV 0 (.sl (List.map GSign.c uw)), tP 4 4, tI 10 ut], [(4, .cells GTerm.z [(3, .app 41)])], []⟩ ∧ pimpl_ReadSigns_L2 k uw m ut = some out2) ?_ k ⟨_, rfl, h16⟩
      rintro m st ⟨ut, rfl, h16⟩
      cases m with
      | zero => exact (onone h16).elim
      | succ m =>
        apply Wc.seq
        apply Wc.seq
        refine Wc.r2 [{}, {}, { v := some (aI (uw.length : Int)) }] ⟨[tV 0 (.sl (List.map GSign.c uw)), tP 4 4, tI 10 ut, tB 52 (decide (ut < (uw.length : Int)))], [(4, .cells GTerm.z [(3, .app 41)])], []⟩ (.cons (len_obl GSign.c uw) .nil) ?_
        rcases oif h16 with ⟨h17, h16⟩ | ⟨h17, h16⟩
        · refine Wc.cT h17 ?_
          refine Wc.fx [] ⟨[tV 0 (.sl (List.map GSign.c uw)), tP 4 4, tI 10 ut], [(4, .cells GTerm.z [(3, .app 41)])], []⟩ ?_
          refine Wc.skip ?_
          refine Wc.block ?_
          apply Wc.seq
          refine Wc.r0 ⟨[tV 0 (.sl (List.map GSign.c uw)), tP 4 4, tI 10 (wr.i64 (ut + 1))], [(4, .cells GTerm.z [(3, .app 41)])], []⟩ ?_
          apply Wc.seq
          obtain ⟨u3b, h18, h16⟩ := obind h16
          refine Wc.r2 [{}, {}, {}, { v := some (.vptr (GSign.q u3b)) }] ⟨[tV 0 (.sl (List.map GSign.c uw)), tP 4 4, tI 10 (wr.i64 (ut + 1)), tB 61 (u3b.gKind == 5)], [(4, .cells GTerm.z [(3, .app 41)])], []⟩ (.cons (at_obl (c := GSign.c) (GSign.c_eq u3b) GSign.c_len h18) (.cons (len_ok 1 (GSign.q u3b)) .nil)) ?_
          rcases oif h16 with ⟨h19, h16⟩ | ⟨h19, h16⟩
          · refine Wc.cT h19 ?_
            exact (onone h16).elim
          · refine Wc.cF h19 ?_
            refine Wc.fx [] ⟨[tV 0 (.sl (List.map GSign.c uw)), tP 4 4, tI 10 (wr.i64 (ut + 1))], [(4, .cells GTerm.z [(3, .app 41)])], []⟩ ?_
            refine Wc.skip ?_
            exact ⟨_, Nat.lt_succ_self _, _, rfl, h16⟩
        · refine Wc.cF h17 ?_
          refine Wc.fx [] ⟨[tV 0 (.sl (List.map GSign.c uw)), tP 4 4], [(4, .cells GTerm.z [(3, .app 41)])], []⟩ ?_
          refine Wc.exit ?_
          obtain rfl := Option.some.inj h16
          exact ⟨rfl, rfl⟩
    · rintro st ⟨rfl, rfl⟩
      apply Wc.seq
      refine Wc.r2 [{}, {}, { v := some (aI (uw.length : Int)) }, { tk := [64] }] ⟨[tP 4 4, (5, (.v (.sl (List.map cS [])), [(0, .app 9)])), tI 6 (uw.length : Int), tB 7 false], [(4, .cells GTerm.z [(3, .app 41)])], []⟩ (.cons (len_obl GSign.c uw) .nil) ?_
      refine Wc.fx [.un (.b 4 3), .un (.t 5 0)] ⟨[tP 4 4, tV 5 (.sl (List.map cS [])), tI 6 (uw.length : Int), tB 7 false], [bC 4 GTerm.z], []⟩ ?_
      obtain rfl := Option.some.inj h; exact Wc.ret dn

def pimpl_loader_passed_1 (k : Nat) (u2t : GChoice) : Option Bool :=
  if u2t.gOver = true then
    some true
  else
    some u2t.gDead
theorem cimpl_loader_passed_1 {k : Nat} {u2t : GChoice} {r : Bool} (h : pimpl_loader_passed_1 k u2t = some r) : FnO Tryz.prog 57 [.v (.agg (GChoice.q u2t)) []] (.v (.bool r) []) [] := by
  refine FnO.o2 Tryz.func57 (rfl : Tryz.f57.body = some _) ?_
  intro w0 X0 Fin pv0 pb gt
  unfold pimpl_loader_passed_1 at h
  apply Wc.seq
  refine Wc.r0 ⟨[tP 1 1], [bC 1 (GChoice.q u2t)], []⟩ ?_
  apply Wc.seq
  rcases oif h with ⟨h8, h⟩ | ⟨h8, h⟩
  · refine Wc.r2 [{}, {}, { re := some (.bool true) }] ⟨[tB 2 true], [], []⟩ (.cons (congrArg AV.bool h8) .nil) ?_
    obtain rfl := Option.some.inj h; exact Wc.ret dn
  · refine Wc.r2 [{}, {}, { re := some (.bool false) }] ⟨[tB 2 u2t.gDead], [], []⟩ (.cons (congrArg AV.bool h8) .nil) ?_
    obtain rfl := Option.some.inj h; exact Wc.ret dn

def pslices_IndexFunc___impl_choice_impl_choice__on1_pimpl_loader_passed_1_L1 (k : Nat) (z9 : List GChoice) : Nat → Int → Option (Out Int Unit)
  | 0, _ => none
  | m + 1, ui =>
    if (decide (ui < (z9.length : Int))) = true then
      (at' z9 ui).bind fun u3v =>
      (pimpl_loader_passed_1 k u3v).bind fun u27 =>
      if u27 = true then
        some (.ret ui)
      else
        pslices_IndexFunc___impl_choice_impl_choice__on1_pimpl_loader_passed_1_L1 k z9 m (wr.i64 (ui + 1))
    else
      some (.done ())
def pslices_IndexFunc___impl_choice_impl_choice__on1_pimpl_loader_passed_1 (k : Nat) (z9 : List GChoice) : Option Int :=
  (pslices_IndexFunc___impl_choice_impl_choice__on1_pimpl_loader_passed_1_L1 k z9 k 0).bind fun out1 => match out1 with
  | .ret r => some r
  | .done () =>
    some (-1)
theorem cslices_IndexFunc___impl_choice_impl_choice__on1_pimpl_loader_passed_1 {k : Nat} {z9 : List GChoice} {r : Int} (h : pslices_IndexFunc___impl_choice_impl_choice__on1_pimpl_loader_passed_1 k z9 = some r) : FnO Tryz.prog 82 [.v (.sl (List.map GChoice.c z9)) [], .v (.func 57 []) []] (.v (aI r) []) [] := by
  refine FnO.o2 Tryz.func82 (rfl : Tryz.f82.body = some _) ?_
  intro w0 X0 Fin pv0 pb gt
  unfold pslices_IndexFunc___impl_choice_impl_choice__on1_pimpl_loader_passed_1 at h
  apply Wc.seq
  refine Wc.r0 ⟨[tV 0 (.sl (List.map GChoice.c z9)), tV 1 (.func 57 [])], [], []⟩ ?_
  apply Wc.seq
  apply Wc.seq
  refine Wc.r2 [{}, { v := some (aI (z9.length : Int)) }] ⟨[tV 0 (.sl (List.map GChoice.c z9)), tV 1 (.func 57 []), tI 7 (z9.length : Int), tI 8 0], [], []⟩ (.cons (len_obl GChoice.c z9) .nil) ?_
  obtain ⟨out1, h6, h⟩ := obind h
  refine Wc.lastJ (fun st => out1 = .done () ∧ st = ⟨[], [], []⟩) ?_ ?_
  · refine Wc.block ?_
    refine Wc.loop (fun m st => ∃ (ui : Int), st = ⟨[tV 0 (.sl (List.map GChoice.c z9)), tV 1 (.func 57 []), tI 7 (z9.length : Int), tI 8 ui], [], []⟩ ∧ pslices_IndexFunc___impl_choice_impl_choice__on1_pimpl_loader_passed_1_L1 k z9 m ui = some out1) ?_ k ⟨_, rfl, h6⟩
    rintro m st ⟨ui, rfl, h6⟩
    cases m with
    | zero => exact (onone h6).elim
    | succ m =>
      apply Wc.seq
      refine Wc.r0 ⟨[tV 0 (.sl (List.map GChoice.c z9)), tV 1 (.func 57 []), tI 7 (z9.length : Int), tI 8 ui, tB 9 (decide (ui < (z9.length : Int)))], [], []⟩ ?_
      apply Wc.seq
      rcases oif h6 with ⟨h7, h6⟩ | ⟨h7, h6⟩
      · refine Wc.cT h7 ?_
        refine Wc.fx [] ⟨[tV 0 (.sl (List.map GChoice.c z9)), tV 1 (.func 57 []), tI 7 (z9.length : Int), tI 8 ui], [], []⟩ ?_
        refine Wc.skip ?_
        apply Wc.seq
        refine Wc.block ?_
        apply Wc.seq
        refine Wc.r0 ⟨[tV 0 (.sl (List.map GChoice.c z9)), tV 1 (.func 57 []), tI 5 ui, tI 7 (z9.length : Int), tI 8 ui], [], []⟩ ?_
        apply Wc.seq
        obtain ⟨u3v, h8, h6⟩ := obind h6
        obtain ⟨u27, h9, h6⟩ := obind h6
        refine Wc.r2 [{}, {}, {}, { v := some (.vptr (GChoice.q u3v)) }, {}, { r := some (.v (.bool u27) []) }] ⟨[tV 0 (.sl (List.map GChoice.c z9)), tV 1 (.func 57 []), tI 5 ui, tI 7 (z9.length : Int), tI 8 ui, tB 16 u27], [], []⟩ (.cons (at_obl (c := GChoice.c) (GChoice.c_eq u3v) GChoice.c_len h8) (.cons (len_ok 3 (GChoice.q u3v)) (.cons (cimpl_loader_passed_1 h9) .nil))) ?_
        rcases oif h6 with ⟨h10, h6⟩ | ⟨h10, h6⟩
        · refine Wc.cT h10 ?_
          apply Wc.seq
          refine Wc.r0 ⟨[tI 4 ui], [], []⟩ ?_
          refine Wc.ret ?_
          obtain rfl := Option.some.inj h6
          obtain rfl := Option.some.inj h
          exact ⟨.inl rfl, by kernel_rfl, by kernel_rfl⟩
        · refine Wc.cF h10 ?_
          refine Wc.fx [] ⟨[tV 0 (.sl (List.map GChoice.c z9)), tV 1 (.func 57 []), tI 7 (z9.length : Int), tI 8 ui], [], []⟩ ?_
          refine Wc.skip ?_
          refine Wc.r0 ⟨[tV 0 (.sl (List.map GChoice.c z9)), tV 1 (.func 57 []), tI 7 (z9.length : Int), tI 8 (wr.i64 (ui + 1))], [], []⟩ ?_
          exact ⟨_, Nat.lt_succ_self _, _, rfl, h6⟩
      · refine Wc.cF h7 ?_
        refine Wc.fx [] ⟨[], [], []⟩ ?_
        refine Wc.exit ?_
        obtain rfl := Option.some.inj h6
        exact ⟨rfl, rfl⟩
  · rintro st ⟨rfl, rfl⟩
    apply Wc.seq
    refine Wc.r0 ⟨[tI 4 (-1)], [], []⟩ ?_
    obtain rfl := Option.some.inj h; exact Wc.ret dn

def pslices_ContainsFunc___impl_choice_impl_choice__on1_pimpl_loader_passed_1 (k : Nat) (u3w : List GChoice) : Option Bool :=
  (pslices_IndexFunc___impl_choice_impl_choice__on1_pimpl_loader_passed_1 k u3w).bind fun u0 =>
  some (decide (u0 ≥ 0))
theorem cslices_ContainsFunc___impl_choice_impl_choice__on1_pimpl_loader_passed_1 {k : Nat} {u3w : List GChoice} {r : Bool} (h : pslices_ContainsFunc___impl_choice_impl_choice__on1_pimpl_loader_passed_1 k u3w = some r) : FnO Tryz.prog 56 [.v (.sl (List.map GChoice.c u3w)) [], .v (.func 57 []) []] (.v (.bool r) []) [] := by
  refine FnO.o2 Tryz.func56 (rfl : Tryz.f56.body = some _) ?_
  intro w0 X0 Fin pv0 pb gt
  unfold pslices_ContainsFunc___impl_choice_impl_choice__on1_pimpl_loader_passed_1 at h
  apply Wc.seq
  refine Wc.r0 ⟨[tV 0 (.sl (List.map GChoice.c u3w)), tV 1 (.func 57 [])], [], []⟩ ?_
  apply Wc.seq
  obtain ⟨u0, h6, h⟩ := obind h
  refine Wc.r2 [{}, {}, { r := some (.v (aI u0) []) }] ⟨[tB 4 (decide (u0 ≥ 0))], [], []⟩ (.cons (cslices_IndexFunc___impl_choice_impl_choice__on1_pimpl_loader_passed_1 h6) .nil) ?_
  obtain rfl := Option.some.inj h; exact Wc.ret dn

def pimpl_loader_passed (k : Nat) (u2u : GLoader) : Option (GLoader × Bool) :=
  (pslices_ContainsFunc___impl_choice_impl_choice__on1_pimpl_loader_passed_1 k u2u.gOpen).bind fun u0g =>
  some (u2u, u0g)
theorem cimpl_loader_passed {k : Nat} {u2u : GLoader} {r : GLoader × Bool} (h : pimpl_loader_passed k u2u = some r) : FnO Tryz.prog 33 [.p (GLoader.q u2u) []] (.v (.bool r.2) []) [(0, .p (GLoader.q r.1) [])] := by
  refine FnO.o2 Tryz.func33 (rfl : Tryz.f33.body = some _) ?_
  intro w0 X0 Fin pv0 pb gt
  unfold pimpl_loader_passed at h
  apply Wc.seq
  refine Wc.r0 ⟨[tP 0 1000000], [bC 1000000 (GLoader.q u2u)], []⟩ ?_
  apply Wc.seq
  obtain ⟨u0g, h6, h⟩ := obind h
  refine Wc.r2 [{}, {}, {}, {}, { r := some (.v (.bool u0g) []) }] ⟨[tB 2 u0g], [bC 1000000 (GLoader.q u2u)], []⟩ (.cons (cslices_ContainsFunc___impl_choice_impl_choice__on1_pimpl_loader_passed_1 h6) .nil) ?_
  obtain rfl := Option.some.inj h; exact Wc.ret dn

def pimpl_loader_condition_J3 (k : Nat) (u3 : GTerm) (zt : Bool) : Option (GLoader × Bool) :=
  if zt = true then
    none
  else
    (pimpl_isAtom k u3 (bs [101, 110, 100, 105, 102])).bind fun u06 =>
    if u06 = true then
      none
    else
      none
def pimpl_loader_condition_J2 (k : Nat) (u3 : GTerm) (uq : GLoader) (u0n : Bool) : Option (GLoader × Bool) :=
  if u0n = true then
    none
  else
    (pimpl_isAtom k u3 (bs [101, 108, 115, 101])).bind fun z8 =>
    if z8 = true then
      none
    else
      (pimpl_isAtom k u3 (bs [101, 110, 100, 105, 102])).bind fun u26 =>
      if u26 = true then
        pimpl_loader_condition_J3 k u3 (decide ((wr.i64 ((uq.gOpen.length : Int) - 1)) ≥ 0))
      else
        pimpl_loader_condition_J3 k u3 false
def pimpl_loader_condition_J1 (k : Nat) (uq : GLoader) (u3 : GTerm) (u0i : Bool) : Option (GLoader × Bool) :=
  if u0i = true then
    some (uq, true)
  else
    (pimpl_isAtom k u3 (bs [101, 108, 115, 101])).bind fun u1w =>
    if u1w = true then
      if (decide ((wr.i64 ((uq.gOpen.length : Int) - 1)) ≥ 0)) = true then
        (at' uq.gOpen (wr.i64 ((uq.gOpen.length : Int) - 1))).bind fun u3c =>
        pimpl_loader_condition_J2 k u3 uq (!u3c.gOther)
      else
        pimpl_loader_condition_J2 k u3 uq false
    else
      pimpl_loader_condition_J2 k u3 uq false
def pimpl_loader_condition (k : Nat) (uq : GLoader) (vz : GTerm) : Option (GLoader × Bool) :=
  (pimpl_isStruct k vz (bs [58, 45]) 1).bind fun u03 =>
  if (!u03) = true then
    some (uq, false)
  else
    (at' vz.gKids 0).bind fun u3 =>
    (pimpl_isStruct k u3 (bs [105, 102]) 1).bind fun u01 =>
    if u01 = true then
      none
    else
      (pimpl_isAtom k u3 (bs [101, 108, 115, 101])).bind fun z1 =>
      if z1 = true then
        if (decide ((wr.i64 ((uq.gOpen.length : Int) - 1)) ≥ 0)) = true then
          (at' uq.gOpen (wr.i64 ((uq.gOpen.length : Int) - 1))).bind fun u2v =>
          pimpl_loader_condition_J1 k uq u3 u2v.gDead
        else
          pimpl_loader_condition_J1 k uq u3 false
      else
        pimpl_loader_condition_J1 k uq u3 false
set_option maxHeartbeats 4000000 in
theorem cimpl_loader_condition {k : Nat} {uq : GLoader} {vz : GTerm} {r : GLoader × Bool} (h : pimpl_loader_condition k uq vz = some r) : FnO Tryz.prog 34 [.p (GLoader.q uq) [], .v (.agg (GTerm.q vz)) []] (.v (.bool r.2) []) [(0, .p (GLoader.q r.1) [])] := by
  refine FnO.o2 Tryz.func34 (rfl : Tryz.f34.body = some _) ?_
  intro w0 X0 Fin pv0 pb gt
  unfold pimpl_loader_condition at h
  apply Wc.seq
  refine Wc.r0 ⟨[tP 0 1000000, tP 3 3], [bC 3 (GTerm.q vz), bC 1000000 (GLoader.q uq)], []⟩ ?_
  apply Wc.seq
  apply Wc.seq
  obtain ⟨u03, h7, h⟩ := obind h
  refine Wc.r2 [{}, { r := some (.v (.bool u03) []) }] ⟨[tP 0 1000000, tP 3 3, tB 10 (!u03)], [bC 3 (GTerm.q vz), bC 1000000 (GLoader.q uq)], []⟩ (.cons (cimpl_isStruct h7) .nil) ?_
  rcases oif h with ⟨h8, h⟩ | ⟨h8, h⟩
  · refine Wc.cT h8 ?_
    apply Wc.seq
    refine Wc.r0 ⟨[tB 4 false], [bC 1000000 (GLoader.q uq)], []⟩ ?_
    obtain rfl := Option.some.inj h; exact Wc.ret dn
  · refine Wc.cF h8 ?_
    refine Wc.fx [] ⟨[tP 0 1000000, tP 3 3], [bC 3 (GTerm.q vz), bC 1000000 (GLoader.q uq)], []⟩ ?_
    refine Wc.skip ?_
    apply Wc.seq
    obtain ⟨u3, h9, h⟩ := obind h
    refine Wc.r2 [{}, {}, { v := some (.vptr (GTerm.q u3)) }] ⟨[tP 0 1000000, tP 5 5], [bC 5 (GTerm.q u3), bC 1000000 (GLoader.q uq)], []⟩ (.cons (at_obl (c := GTerm.c) (GTerm.c_eq u3) GTerm.c_len h9) (.cons (len_ok 4 (GTerm.q u3)) .nil)) ?_
    apply Wc.seq
    refine Wc.r2 [{}, {}, {}, {}, { v := some (aI (uq.gOpen.length : Int)) }] ⟨[tP 0 1000000, tP 5 5, tI 6 (wr.i64 ((uq.gOpen.length : Int) - 1))], [bC 5 (GTerm.q u3), bC 1000000 (GLoader.q uq)], []⟩ (.cons (len_obl GChoice.c uq.gOpen) .nil) ?_
    apply Wc.seq
    refine Wc.block ?_
    apply Wc.seq
    obtain ⟨u01, h10, h⟩ := obind h
    refine Wc.r2 [{}, { r := some (.v (.bool u01) []) }] ⟨[tP 0 1000000, tP 5 5, tI 6 (wr.i64 ((uq.gOpen.length : Int) - 1)), tB 21 u01], [bC 5 (GTerm.q u3), bC 1000000 (GLoader.q uq)], []⟩ (.cons (cimpl_isStruct h10) .nil) ?_
    rcases oif h with ⟨h11, h⟩ | ⟨h11, h⟩
    · refine Wc.cT h11 ?_
      exact (onone h).elim
    · refine Wc.cF h11 ?_
      refine Wc.seqJ (fun st => ∃ (u0i : Bool), st = ⟨[tP 0 1000000, tP 5 5, tI 6 (wr.i64 ((uq.gOpen.length : Int) - 1)), tB 56 u0i], [bC 5 (GTerm.q u3), bC 1000000 (GLoader.q uq)], []⟩ ∧ pimpl_loader_condition_J1 k uq u3 u0i = some r) ?_ ?_
      · obtain ⟨z1, h25, h⟩ := obind h
        rcases oif h with ⟨h26, h⟩ | ⟨h26, h⟩
        · rcases oif h with ⟨h27, h⟩ | ⟨h27, h⟩
          · obtain ⟨u2v, h28, h⟩ := obind h
            refine Wc.r2 [{}, { r := some (.v (.bool z1) []) }, { re := some (.bool true) }, {}, {}, {}, { re := some (.bool true) }, {}, {}, {}, {}, {}, { v := some (.vptr (GChoice.q u2v)) }] ⟨[tP 0 1000000, tP 5 5, tI 6 (wr.i64 ((uq.gOpen.length : Int) - 1)), tB 56 u2v.gDead], [bC 5 (GTerm.q u3), bC 1000000 (GLoader.q uq)], []⟩ (.cons (cimpl_isAtom h25) (.cons (congrArg AV.bool h26) (.cons (congrArg AV.bool h27) (.cons (at_obl (c := GChoice.c) (GChoice.c_eq u2v) GChoice.c_len h28) (.cons (len_ok 1 [.bool u2v.gDead, .bool u2v.gOther]) .nil))))) ?_
            exact ⟨_, rfl, h⟩
          · refine Wc.r2 [{}, { r := some (.v (.bool z1) []) }, { re := some (.bool true) }, {}, {}, {}, { re := some (.bool false) }] ⟨[tP 0 1000000, tP 5 5, tI 6 (wr.i64 ((uq.gOpen.length : Int) - 1)), tB 56 false], [bC 5 (GTerm.q u3), bC 1000000 (GLoader.q uq)], []⟩ (.cons (cimpl_isAtom h25) (.cons (congrArg AV.bool h26) (.cons (congrArg AV.bool h27) .nil))) ?_
            exact ⟨_, rfl, h⟩
        · refine Wc.r2 [{}, { r := some (.v (.bool z1) []) }, { re := some (.bool false) }] ⟨[tP 0 1000000, tP 5 5, tI 6 (wr.i64 ((uq.gOpen.length : Int) - 1)), tB 56 false], [bC 5 (GTerm.q u3), bC 1000000 (GLoader.q uq)], []⟩ (.cons (cimpl_isAtom h25) (.cons (congrArg AV.bool h26) .nil)) ?_
          exact ⟨_, rfl, h⟩
      · rintro st ⟨u0i, rfl, h⟩
        rcases oif h with ⟨h12, h⟩ | ⟨h12, h⟩
        · refine Wc.cT h12 ?_
          refine Wc.fx [] ⟨[], [bC 1000000 (GLoader.q uq)], []⟩ ?_
          refine Wc.skip ?_
          apply Wc.seq
          refine Wc.r0 ⟨[tB 4 true], [bC 1000000 (GLoader.q uq)], []⟩ ?_
          obtain rfl := Option.some.inj h; exact Wc.ret dn
        · refine Wc.cF h12 ?_
          refine Wc.seqJ (fun st => ∃ (u0n : Bool), st = ⟨[tP 5 5, tI 6 (wr.i64 ((uq.gOpen.length : Int) - 1)), tB 73 u0n], [bC 5 (GTerm.q u3), bC 1000000 (GLoader.q uq)], []⟩ ∧ pimpl_loader_condition_J2 k u3 uq u0n = some r) ?_ ?_
          · obtain ⟨u1w, h21, h⟩ := obind h
            rcases oif h with ⟨h22, h⟩ | ⟨h22, h⟩
            · rcases oif h with ⟨h23, h⟩ | ⟨h23, h⟩
              · obtain ⟨u3c, h24, h⟩ := obind h
                refine Wc.r2 [{}, { r := some (.v (.bool u1w) []) }, { re := some (.bool true) }, {}, {}, {}, { re := some (.bool true) }, {}, {}, {}, {}, {}, { v := some (.vptr (GChoice.q u3c)) }] ⟨[tP 5 5, tI 6 (wr.i64 ((uq.gOpen.length : Int) - 1)), tB 73 (!u3c.gOther)], [bC 5 (GTerm.q u3), bC 1000000 (GLoader.q uq)], []⟩ (.cons (cimpl_isAtom h21) (.cons (congrArg AV.bool h22) (.cons (congrArg AV.bool h23) (.cons (at_obl (c := GChoice.c) (GChoice.c_eq u3c) GChoice.c_len h24) (.cons (len_ok 1 [.bool u3c.gOther]) .nil))))) ?_
                exact ⟨_, rfl, h⟩
              · refine Wc.r2 [{}, { r := some (.v (.bool u1w) []) }, { re := some (.bool true) }, {}, {}, {}, { re := some (.bool false) }] ⟨[tP 5 5, tI 6 (wr.i64 ((uq.gOpen.length : Int) - 1)), tB 73 false], [bC 5 (GTerm.q u3), bC 1000000 (GLoader.q uq)], []⟩ (.cons (cimpl_isAtom h21) (.cons (congrArg AV.bool h22) (.cons (congrArg AV.bool h23) .nil))) ?_
                exact ⟨_, rfl, h⟩
            · refine Wc.r2 [{}, { r := some (.v (.bool u1w) []) }, { re := some (.bool false) }] ⟨[tP 5 5, tI 6 (wr.i64 ((uq.gOpen.length : Int) - 1)), tB 73 false], [bC 5 (GTerm.q u3), bC 1000000 (GLoader.q uq)], []⟩ (.cons (cimpl_isAtom h21) (.cons (congrArg AV.bool h22) .nil)) ?_
              exact ⟨_, rfl, h⟩
          · rintro st ⟨u0n, rfl, h⟩
            rcases oif h with ⟨h13, h⟩ | ⟨h13, h⟩
            · refine Wc.cT h13 ?_
              exact (onone h).elim
            · refine Wc.cF h13 ?_
              apply Wc.seq
              obtain ⟨z8, h14, h⟩ := obind h
              refine Wc.r2 [{}, { r := some (.v (.bool z8) []) }] ⟨[tP 5 5, tI 6 (wr.i64 ((uq.gOpen.length : Int) - 1)), tB 114 z8], [bC 5 (GTerm.q u3), bC 1000000 (GLoader.q uq)], []⟩ (.cons (cimpl_isAtom h14) .nil) ?_
              rcases oif h with ⟨h15, h⟩ | ⟨h15, h⟩
              · refine Wc.cT h15 ?_
                exact (onone h).elim
              · refine Wc.cF h15 ?_
                refine Wc.seqJ (fun st => ∃ (zt : Bool), st = ⟨[tP 5 5, tB 126 zt], [bC 5 (GTerm.q u3), bC 1000000 (GLoader.q uq)], []⟩ ∧ pimpl_loader_condition_J3 k u3 zt = some r) ?_ ?_
                · obtain ⟨u26, h19, h⟩ := obind h
                  rcases oif h with ⟨h20, h⟩ | ⟨h20, h⟩
                  · refine Wc.r2 [{}, { r := some (.v (.bool u26) []) }, { re := some (.bool true) }] ⟨[tP 5 5, tB 126 (decide ((wr.i64 ((uq.gOpen.length : Int) - 1)) ≥ 0))], [bC 5 (GTerm.q u3), bC 1000000 (GLoader.q uq)], []⟩ (.cons (cimpl_isAtom h19) (.cons (congrArg AV.bool h20) .nil)) ?_
                    exact ⟨_, rfl, h⟩
                  · refine Wc.r2 [{}, { r := some (.v (.bool u26) []) }, { re := some (.bool false) }] ⟨[tP 5 5, tB 126 false], [bC 5 (GTerm.q u3), bC 1000000 (GLoader.q uq)], []⟩ (.cons (cimpl_isAtom h19) (.cons (congrArg AV.bool h20) .nil)) ?_
                    exact ⟨_, rfl, h⟩
                · rintro st ⟨zt, rfl, h⟩
                  rcases oif h with ⟨h16, h⟩ | ⟨h16, h⟩
                  · refine Wc.cT h16 ?_
                    exact (onone h).elim
                  · refine Wc.cF h16 ?_
                    apply Wc.seq
                    obtain ⟨u06, h17, h⟩ := obind h
                    refine Wc.r2 [{}, { r := some (.v (.bool u06) []) }] ⟨[tB 142 u06], [bC 1000000 (GLoader.q uq)], []⟩ (.cons (cimpl_isAtom h17) .nil) ?_
                    rcases oif h with ⟨h18, h⟩ | ⟨h18, h⟩
                    · refine Wc.cT h18 ?_
                      exact (onone h).elim
                    · refine Wc.cF h18 ?_
                      exact (onone h).elim

def pimpl_loader_clause_J2 (k : Nat) (ul : GLoader) : Option GLoader :=
  some (GLoader.mk (GLoaded.mk ul.gL.gDb ul.gL.gBad ul.gL.gMissing (wr.i64 (ul.gL.gRefused + 1)) ul.gL.gRan) ul.gFiles ul.gFile ul.gDeep ul.gOpen)
def pimpl_loader_clause_J3 (k : Nat) (u0d : GDb × Bool) (ul : GLoader) (zt : Bool) : Option GLoader :=
  if zt = true then
    some (GLoader.mk (GLoaded.mk u0d.1 ul.gL.gBad ul.gL.gMissing ul.gL.gRefused ul.gL.gRan) ul.gFiles ul.gFile ul.gDeep ul.gOpen)
  else
    pimpl_loader_clause_J2 k ul
def pimpl_loader_clause_J1 (k : Nat) (zl : GTerm × Bool) (ul : GLoader) : Option GLoader :=
  if zl.2 = true then
    (pimpl_ClauseOf k zl.1 ul.gFile).bind fun u2i =>
    (pimpl_Added k ul.gL.gDb u2i.1).bind fun u0d =>
    if u2i.2 = true then
      pimpl_loader_clause_J3 k u0d ul u0d.2
    else
      pimpl_loader_clause_J3 k u0d ul false
  else
    pimpl_loader_clause_J2 k ul
def pimpl_loader_clause (k : Nat) (ul : GLoader) (v6 : GTerm) : Option GLoader :=
  (pimpl_Expanded k ul.gL.gDb v6).bind fun zl =>
  if zl.2 = true then
    (pimpl_isStruct k zl.1 (bs [45, 45, 62]) 2).bind fun u06 =>
    if u06 = true then
      none
    else
      pimpl_loader_clause_J1 k zl ul
  else
    pimpl_loader_clause_J1 k zl ul
set_option maxHeartbeats 4000000 in
theorem cimpl_loader_clause {k : Nat} {ul : GLoader} {v6 : GTerm} {r : GLoader} (h : pimpl_loader_clause k ul v6 = some r) : FnO Tryz.prog 37 [.p (GLoader.q ul) [], .v (.agg (GTerm.q v6)) []] (.v (.tup []) []) [(0, .p (GLoader.q r) [])] := by
  refine FnO.o2 Tryz.func37 (rfl : Tryz.f37.body = some _) ?_
  intro w0 X0 Fin pv0 pb gt
  unfold pimpl_loader_clause at h
  apply Wc.seq
  refine Wc.r0 ⟨[tP 0 1000000, tP 3 3], [bC 3 (GTerm.q v6), bC 1000000 (GLoader.q ul)], []⟩ ?_
  apply Wc.seq
  obtain ⟨zl, h9, h⟩ := obind h
  refine Wc.draw hmix [{}, {}, {}, {}, {}, {}, { r := some (.v (.tup [.agg (GTerm.q zl.1), .bool zl.2]) []) }] [] [0, 3, 4] [3, 1000000] [] ⟨[tP 0 1000000, tP 3 3, tB 4 zl.2], [bC 3 (GTerm.q zl.1), bC 1000000 (GLoader.q ul)], []⟩ _ (by kernel_rfl) (fun X => by kernel_rfl) (.cons (cimpl_Expanded h9) .nil) ?_
  refine Wc.seqJ (fun st => st = ⟨[tP 0 1000000, tP 3 3, tB 4 zl.2], [bC 3 (GTerm.q zl.1), bC 1000000 (GLoader.q ul)], []⟩ ∧ pimpl_loader_clause_J1 k zl ul = some r) ?_ ?_
  · apply Wc.seq
    rcases oif h with ⟨h15, h⟩ | ⟨h15, h⟩
    · obtain ⟨u06, h16, h⟩ := obind h
      refine Wc.r2 [{}, { re := some (.bool true) }, {}, { r := some (.v (.bool u06) []) }] ⟨[tP 0 1000000, tP 3 3, tB 4 zl.2, tB 23 u06], [bC 3 (GTerm.q zl.1), bC 1000000 (GLoader.q ul)], []⟩ (.cons (congrArg AV.bool h15) (.cons (cimpl_isStruct h16) .nil)) ?_
      rcases oif h with ⟨h17, h⟩ | ⟨h17, h⟩
      · refine Wc.cT h17 ?_
        exact (onone h).elim
      · refine Wc.cF h17 ?_
        refine Wc.fx [] ⟨[tP 0 1000000, tP 3 3, tB 4 zl.2], [bC 3 (GTerm.q zl.1), bC 1000000 (GLoader.q ul)], []⟩ ?_
        refine Wc.skip ?_
        exact ⟨rfl, h⟩
    · refine Wc.r2 [{}, { re := some (.bool false) }] ⟨[tP 0 1000000, tP 3 3, tB 4 zl.2, tB 23 false], [bC 3 (GTerm.q zl.1), bC 1000000 (GLoader.q ul)], []⟩ (.cons (congrArg AV.bool h15) .nil) ?_
      refine Wc.cF rfl ?_
      refine Wc.fx [] ⟨[tP 0 1000000, tP 3 3, tB 4 zl.2], [bC 3 (GTerm.q zl.1), bC 1000000 (GLoader.q ul)], []⟩ ?_
      refine Wc.skip ?_
      exact ⟨rfl, h⟩
  · rintro st ⟨rfl, h⟩
    refine Wc.seqJ (fun st => st = ⟨[tP 0 1000000], [bC 1000000 (GLoader.q ul)], []⟩ ∧ pimpl_loader_clause_J2 k ul = some r) ?_ ?_
    · apply Wc.seq
      refine Wc.r0 ⟨[tP 0 1000000, tP 3 3, tB 29 zl.2], [bC 3 (GTerm.q zl.1), bC 1000000 (GLoader.q ul)], []⟩ ?_
      rcases oif h with ⟨h10, h⟩ | ⟨h10, h⟩
      · refine Wc.cT h10 ?_
        apply Wc.seq
        obtain ⟨u2i, h11, h⟩ := obind h
        refine Wc.draw hmix [{}, {}, {}, {}, {}, { r := some (.v (.tup [.agg (GClause.q u2i.1), .bool u2i.2]) []) }] [] [0, 5, 6] [5, 1000000] [] ⟨[tP 0 1000000, tP 5 5, tB 6 u2i.2], [bC 5 (GClause.q u2i.1), bC 1000000 (GLoader.q ul)], []⟩ _ (by kernel_rfl) (fun X => by kernel_rfl) (.cons (FnO.un (cimpl_ClauseOf h11)) .nil) ?_
        apply Wc.seq
        obtain ⟨u0d, h12, h⟩ := obind h
        refine Wc.draw hmix [{}, {}, {}, {}, {}, {}, { r := some (.v (.tup [.agg (GDb.q u0d.1), .bool u0d.2]) []) }] [] [0, 6, 7, 8] [7, 1000000] [] ⟨[tP 0 1000000, tB 6 u2i.2, tP 7 7, tB 8 u0d.2], [bC 7 (GDb.q u0d.1), bC 1000000 (GLoader.q ul)], []⟩ _ (by kernel_rfl) (fun X => by kernel_rfl) (.cons (FnO.un (cimpl_Added h12)) .nil) ?_
        refine Wc.seqJ (fun st => ∃ (zt : Bool), st = ⟨[tP 0 1000000, tP 7 7, tB 52 zt], [bC 7 (GDb.q u0d.1), bC 1000000 (GLoader.q ul)], []⟩ ∧ pimpl_loader_clause_J3 k u0d ul zt = some r) ?_ ?_
        · rcases oif h with ⟨h14, h⟩ | ⟨h14, h⟩
          · refine Wc.r2 [{}, { re := some (.bool true) }] ⟨[tP 0 1000000, tP 7 7, tB 52 u0d.2], [bC 7 (GDb.q u0d.1), bC 1000000 (GLoader.q ul)], []⟩ (.cons (congrArg AV.bool h14) .nil) ?_
            exact ⟨_, rfl, h⟩
          · refine Wc.r2 [{}, { re := some (.bool false) }] ⟨[tP 0 1000000, tP 7 7, tB 52 false], [bC 7 (GDb.q u0d.1), bC 1000000 (GLoader.q ul)], []⟩ (.cons (congrArg AV.bool h14) .nil) ?_
            exact ⟨_, rfl, h⟩
        · rintro st ⟨zt, rfl, h⟩
          rcases oif h with ⟨h13, h⟩ | ⟨h13, h⟩
          · refine Wc.cT h13 ?_
            apply Wc.seq
            refine Wc.r0 ⟨[], [bC 1000000 [.sl (List.map GClause.c u0d.1.gClauses), .sl (List.map cS u0d.1.gOpen), aI ul.gL.gBad, aI ul.gL.gMissing, aI ul.gL.gRefused, aI ul.gL.gRan, .sl (List.map GFile.c ul.gFiles), .str ul.gFile, aI ul.gDeep, .sl (List.map GChoice.c ul.gOpen)]], []⟩ ?_
            refine Wc.ret ?_
            obtain rfl := Option.some.inj h
            exact ⟨(by first | exact .inl rfl | exact .inr rfl), by kernel_rfl, by kernel_rfl⟩
          · refine Wc.cF h13 ?_
            refine Wc.fx [] ⟨[tP 0 1000000], [bC 1000000 (GLoader.q ul)], []⟩ ?_
            refine Wc.skip ?_
            exact ⟨rfl, h⟩
      · refine Wc.cF h10 ?_
        refine Wc.fx [] ⟨[tP 0 1000000], [bC 1000000 (GLoader.q ul)], []⟩ ?_
        refine Wc.skip ?_
        exact ⟨rfl, h⟩
    · rintro st ⟨rfl, h⟩
      refine Wc.r0 ⟨[], [bC 1000000 [.sl (List.map GClause.c ul.gL.gDb.gClauses), .sl (List.map cS ul.gL.gDb.gOpen), aI ul.gL.gBad, aI ul.gL.gMissing, aI (wr.i64 (ul.gL.gRefused + 1)), aI ul.gL.gRan, .sl (List.map GFile.c ul.gFiles), .str ul.gFile, aI ul.gDeep, .sl (List.map GChoice.c ul.gOpen)]], []⟩ ?_
      obtain rfl := Option.some.inj h
      exact ⟨(by first | exact .inl rfl | exact .inr rfl), by kernel_rfl, by kernel_rfl⟩

def pimpl_FileAt_L1 (k : Nat) (za : List GFile) (vh : ByteArray) : Nat → Int → Option (Out (ByteArray × Bool) Unit)
  | 0, _ => none
  | m + 1, un =>
    if (decide (un < (za.length : Int))) = true then
      (at' za un).bind fun u0w =>
      if (sEq u0w.gName vh) = true then
        some (.ret (u0w.gText, true))
      else
        pimpl_FileAt_L1 k za vh m (wr.i64 (un + 1))
    else
      some (.done ())
def pimpl_FileAt (k : Nat) (za : List GFile) (vh : ByteArray) : Option (ByteArray × Bool) :=
  (pimpl_FileAt_L1 k za vh k 0).bind fun out1 => match out1 with
  | .ret r => some r
  | .done () =>
    some ((bs []), false)
theorem cimpl_FileAt {k : Nat} {za : List GFile} {vh : ByteArray} {r : ByteArray × Bool} (h : pimpl_FileAt k za vh = some r) : FnO Tryz.prog 18 [.v (.sl (List.map GFile.c za)) [], .v (.str vh) []] (.v (.tup [.str r.1, .bool r.2]) []) [] := by
  refine FnO.o2 Tryz.func18 (rfl : Tryz.f18.body = some _) ?_
  intro w0 X0 Fin pv0 pb gt
  unfold pimpl_FileAt at h
  apply Wc.seq
  refine Wc.r0 ⟨[tV 0 (.sl (List.map GFile.c za)), tS 1 vh], [], []⟩ ?_
  apply Wc.seq
  apply Wc.seq
  refine Wc.r2 [{}, { v := some (aI (za.length : Int)) }] ⟨[tS 1 vh, tV 8 (.sl (List.map GFile.c za)), tI 9 (za.length : Int), tI 10 0], [], []⟩ (.cons (len_obl GFile.c za) .nil) ?_
  obtain ⟨out1, h1, h⟩ := obind h
  refine Wc.lastJ (fun st => out1 = .done () ∧ st = ⟨[], [], []⟩) ?_ ?_
  · refine Wc.block ?_
    refine Wc.loop (fun m st => ∃ (un : Int), st = ⟨[tS 1 vh, tV 8 (.sl (List.map GFile.c za)), tI 9 (za.length : Int), tI 10 un], [], []⟩ ∧ pimpl_FileAt_L1 k za vh m un = some out1) ?_ k ⟨_, rfl, h1⟩
    rintro m st ⟨un, rfl, h1⟩
    cases m with
    | zero => exact (onone h1).elim
    | succ m =>
      apply Wc.seq
      refine Wc.r0 ⟨[tS 1 vh, tV 8 (.sl (List.map GFile.c za)), tI 9 (za.length : Int), tI 10 un, tB 11 (decide (un < (za.length : Int)))], [], []⟩ ?_
      apply Wc.seq
      rcases oif h1 with ⟨h2, h1⟩ | ⟨h2, h1⟩
      · refine Wc.cT h2 ?_
        refine Wc.fx [] ⟨[tS 1 vh, tV 8 (.sl (List.map GFile.c za)), tI 9 (za.length : Int), tI 10 un], [], []⟩ ?_
        refine Wc.skip ?_
        apply Wc.seq
        refine Wc.block ?_
        apply Wc.seq
        obtain ⟨u0w, h3, h1⟩ := obind h1
        refine Wc.r2 [{ v := some (.vptr [.str u0w.gName, .str u0w.gText]) }] ⟨[tS 1 vh, tP 7 7, tV 8 (.sl (List.map GFile.c za)), tI 9 (za.length : Int), tI 10 un], [bC 7 [.str u0w.gName, .str u0w.gText]], []⟩ (.cons (at_obl (c := GFile.c) (GFile.c_eq u0w) GFile.c_len h3) (.cons (len_ok 2 [.str u0w.gName, .str u0w.gText]) .nil)) ?_
        apply Wc.seq
        refine Wc.r0 ⟨[tS 1 vh, tP 7 7, tV 8 (.sl (List.map GFile.c za)), tI 9 (za.length : Int), tI 10 un, tB 17 (sEq u0w.gName vh)], [bC 7 [.str u0w.gName, .str u0w.gText]], []⟩ ?_
        rcases oif h1 with ⟨h4, h1⟩ | ⟨h4, h1⟩
        · refine Wc.cT h4 ?_
          apply Wc.seq
          refine Wc.r0 ⟨[tS 4 u0w.gText, tB 5 true], [], []⟩ ?_
          refine Wc.ret ?_
          obtain rfl := Option.some.inj h1
          obtain rfl := Option.some.inj h
          exact ⟨.inl rfl, by kernel_rfl, by kernel_rfl⟩
        · refine Wc.cF h4 ?_
          refine Wc.fx [] ⟨[tS 1 vh, tV 8 (.sl (List.map GFile.c za)), tI 9 (za.length : Int), tI 10 un], [], []⟩ ?_
          refine Wc.skip ?_
          refine Wc.r0 ⟨[tS 1 vh, tV 8 (.sl (List.map GFile.c za)), tI 9 (za.length : Int), tI 10 (wr.i64 (un + 1))], [], []⟩ ?_
          exact ⟨_, Nat.lt_succ_self _, _, rfl, h1⟩
      · refine Wc.cF h2 ?_
        refine Wc.fx [] ⟨[], [], []⟩ ?_
        refine Wc.exit ?_
        obtain rfl := Option.some.inj h1
        exact ⟨rfl, rfl⟩
  · rintro st ⟨rfl, rfl⟩
    apply Wc.seq
    refine Wc.r0 ⟨[tS 4 (bs []), tB 5 false], [], []⟩ ?_
    obtain rfl := Option.some.inj h; exact Wc.ret dn

def pimpl_renamed_on1_pimpl_copyTerm_1_d_L1 (k : Nat) (rimpl_renamed_on1_pimpl_copyTerm_1_d : GTerm → Option GTerm) (u8 : GTerm) : Nat → Int → GTerm → Option (Out GTerm GTerm)
  | 0, _, _ => none
  | m + 1, ui, vp =>
    if (decide (ui < (u8.gKids.length : Int))) = true then
      (at' u8.gKids ui).bind fun v6 =>
      (rimpl_renamed_on1_pimpl_copyTerm_1_d v6).bind fun zy =>
      if vp.gKids.length + [zy].length ≤ 1073741824 then
        pimpl_renamed_on1_pimpl_copyTerm_1_d_L1 k rimpl_renamed_on1_pimpl_copyTerm_1_d u8 m (wr.i64 (ui + 1)) (GTerm.mk vp.gKind vp.gName vp.gNum (vp.gKids ++ [zy]))
      else none
    else
      some (.done vp)
mutual
def pimpl_renamed_on1_pimpl_copyTerm_1_d : Nat → GTerm → Option GTerm
  | 0, _ => none
  | k + 1, u8 =>
    if (u8.gKind == 1) = true then
      none
    else
      (pimpl_renamed_on1_pimpl_copyTerm_1_d_L1 k (pimpl_renamed_on1_pimpl_copyTerm_1_d k) u8 k 0 (GTerm.mk u8.gKind u8.gName u8.gNum [])).bind fun out1 => match out1 with
      | .ret r => some r
      | .done u3 =>
        some u3
end
theorem all_pimpl_renamed_on1_pimpl_copyTerm_1_d : ∀ k : Nat, (∀ {u8 : GTerm} {r : GTerm}, pimpl_renamed_on1_pimpl_copyTerm_1_d k u8 = some r → FnO Tryz.prog 102 [.v (.agg (GTerm.q u8)) [], .v (.func 103 []) []] (.v (.agg (GTerm.qx r)) (GTerm.h3_41t r)) []) := by
  intro k
  induction k with
  | zero =>
    · intro u8 r h
      exact (onone (by rw [pimpl_renamed_on1_pimpl_copyTerm_1_d] at h; exact h)).elim
  | succ k ih =>
    have ih_pimpl_renamed_on1_pimpl_copyTerm_1_d := @ih
    · intro u8 r h
      rw [pimpl_renamed_on1_pimpl_copyTerm_1_d] at h
      refine FnO.o2 Tryz.func102 (rfl : Tryz.f102.body = some _) ?_
      intro w0 X0 Fin pv0 pb gt
      apply Wc.seq
      refine Wc.r0 ⟨[tV 1 (.func 103 []), tP 2 2, tP 4 4], [bC 2 (GTerm.q u8), (4, .cells GTerm.z [(3, .app 41)])], []⟩ ?_
      apply Wc.seq
      refine Wc.r0 ⟨[tV 1 (.func 103 []), tP 2 2, tP 4 4, tP 5 5], [bC 2 (GTerm.q u8), (4, .cells GTerm.z [(3, .app 41)]), bC 5 (GTerm.q u8)], []⟩ ?_
      apply Wc.seq
      refine Wc.r0 ⟨[tV 1 (.func 103 []), tP 2 2, tP 4 4, tP 5 5], [bC 2 (GTerm.q u8), (4, .cells GTerm.z [(3, .app 41)]), (5, .cells [aI u8.gKind, .str u8.gName, aI u8.gNum, .sl (List.map GTerm.c [])] [(3, .app 41)])], []⟩ ?_
      apply Wc.seq
      apply Wc.seq
      refine Wc.r0 ⟨[tV 1 (.func 103 []), tP 2 2, tP 4 4, tP 5 5, tB 12 (u8.gKind == 1)], [bC 2 (GTerm.q u8), (4, .cells GTerm.z [(3, .app 41)]), (5, .cells [aI u8.gKind, .str u8.gName, aI u8.gNum, .sl (List.map GTerm.c [])] [(3, .app 41)])], []⟩ ?_
      rcases oif h with ⟨h9, h⟩ | ⟨h9, h⟩
      · refine Wc.cT h9 ?_
        exact (onone h).elim
      · refine Wc.cF h9 ?_
        refine Wc.fx [] ⟨[tV 1 (.func 103 []), tP 2 2, tP 4 4, tP 5 5], [bC 2 (GTerm.q u8), (4, .cells GTerm.z [(3, .app 41)]), (5, .cells [aI u8.gKind, .str u8.gName, aI u8.gNum, .sl (List.map GTerm.c [])] [(3, .app 41)])], []⟩ ?_
        refine Wc.skip ?_
        apply Wc.seq
        apply Wc.seq
        refine Wc.r2 [{}, {}, { v := some (aI (u8.gKids.length : Int)) }] ⟨[tV 1 (.func 103 []), tP 4 4, tP 5 5, tV 19 (.sl (List.map GTerm.c u8.gKids)), tI 20 (u8.gKids.length : Int), tI 21 0], [(4, .cells GTerm.z [(3, .app 41)]), (5, .cells [aI u8.gKind, .str u8.gName, aI u8.gNum, .sl (List.map GTerm.c [])] [(3, .app 41)])], []⟩ (.cons (len_obl GTerm.c u8.gKids) .nil) ?_
        obtain ⟨out1, h10, h⟩ := obind h
        refine Wc.lastJ (fun st => ∃ (u3 : GTerm), out1 = .done u3 ∧ st = ⟨[tP 4 4, tP 5 5], [(4, .cells [aI 0, .str (bs []), aI 0, .slx] [(3, .ex 41 true (List.map GTerm.c []))]), (5, .cells (GTerm.qx u3) (GTerm.h3_41t u3))], []⟩) ?_ ?_
        · refine Wc.block ?_
          refine Wc.fx [.ow (.b 4 3) true, .ow (.b 5 3) true] ⟨[tV 1 (.func 103 []), tP 4 4, tP 5 5, tV 19 (.sl (List.map GTerm.c u8.gKids)), tI 20 (u8.gKids.length : Int), tI 21 0], [(4, .cells [aI 0, .str (bs []), aI 0, .slx] [(3, .ex 41 true (List.map GTerm.c []))]), (5, .cells (GTerm.qx u8) [(3, .ex 41 true (List.map GTerm.c []))])], []⟩ ?_
          refine Wc.loop (fun m st => ∃ (ui : Int) (vp : GTerm), st = ⟨[tV 1 (.func 103 []), tP 4 4, tP 5 5, tV 19 (.sl (List.map GTerm.c u8.gKids)), tI 20 (u8.gKids.length : Int), tI 21 ui], [(4, .cells [aI 0, .str (bs []), aI 0, .slx] [(3, .ex 41 true (List.map GTerm.c []))]), (5, .cells (GTerm.qx vp) (GTerm.h3_41t vp))], []⟩ ∧ pimpl_renamed_on1_pimpl_copyTerm_1_d_L1 k (pimpl_renamed_on1_pimpl_copyTerm_1_d k) u8 m ui vp = some out1) ?_ k ⟨_, _, rfl, h10⟩
          rintro m st ⟨ui, vp, rfl, h10⟩
          cases m with
          | zero => exact (onone h10).elim
          | succ m =>
            apply Wc.seq
            refine Wc.r0 ⟨[tV 1 (.func 103 []), tP 4 4, tP 5 5, tV 19 (.sl (List.map GTerm.c u8.gKids)), tI 20 (u8.gKids.length : Int), tI 21 ui, tB 22 (decide (ui < (u8.gKids.length : Int)))], [(4, .cells [aI 0, .str (bs []), aI 0, .slx] [(3, .ex 41 true (List.map GTerm.c []))]), (5, .cells (GTerm.qx vp) (GTerm.h3_41t vp))], []⟩ ?_
            apply Wc.seq
            rcases oif h10 with ⟨h11, h10⟩ | ⟨h11, h10⟩
            · refine Wc.cT h11 ?_
              refine Wc.fx [] ⟨[tV 1 (.func 103 []), tP 4 4, tP 5 5, tV 19 (.sl (List.map GTerm.c u8.gKids)), tI 20 (u8.gKids.length : Int), tI 21 ui], [(4, .cells [aI 0, .str (bs []), aI 0, .slx] [(3, .ex 41 true (List.map GTerm.c []))]), (5, .cells (GTerm.qx vp) (GTerm.h3_41t vp))], []⟩ ?_
              refine Wc.skip ?_
              apply Wc.seq
              refine Wc.block ?_
              apply Wc.seq
              obtain ⟨v6, h12, h10⟩ := obind h10
              refine Wc.r2 [{ v := some (.vptr (GTerm.q v6)) }] ⟨[tV 1 (.func 103 []), tP 4 4, tP 5 5, tP 7 7, tV 19 (.sl (List.map GTerm.c u8.gKids)), tI 20 (u8.gKids.length : Int), tI 21 ui], [(4, .cells [aI 0, .str (bs []), aI 0, .slx] [(3, .ex 41 true (List.map GTerm.c []))]), (5, .cells (GTerm.qx vp) (GTerm.h3_41t vp)), bC 7 (GTerm.q v6)], []⟩ (.cons (at_obl (c := GTerm.c) (GTerm.c_eq v6) GTerm.c_len h12) (.cons (len_ok 4 (GTerm.q v6)) .nil)) ?_
              obtain ⟨zy, h13, h10⟩ := obind h10
              obtain ⟨h14, h10⟩ := oguard h10
              refine Wc.draw hmix [{}, { md := 1 }, {}, {}, { r := some (.v (.agg (GTerm.qx zy)) (GTerm.h3_41t zy)) }, { c := some (List.map GTerm.c [zy]), tk := [29], md := 2 }, { c := some (List.map GTerm.c (vp.gKids ++ [zy])), tk := [26, 30], md := 2 }, {}, { tk := [31] }] [] [1, 4, 5, 19, 20, 21] [4, 5] [] ⟨[tV 1 (.func 103 []), tP 4 4, tP 5 5, tV 19 (.sl (List.map GTerm.c u8.gKids)), tI 20 (u8.gKids.length : Int), tI 21 ui], [(4, .cells [aI 0, .str (bs []), aI 0, .slx] [(3, .ex 41 true (List.map GTerm.c []))]), (5, .cells (GTerm.qx vp) [(3, .ex 41 true (List.map GTerm.c (vp.gKids ++ [zy])))])], []⟩ _ (by kernel_rfl) (fun X => by kernel_rfl) (.cons (ih_pimpl_renamed_on1_pimpl_copyTerm_1_d h13) (.cons (cl_cons (c := GTerm.c) (x := zy) (GTerm.c_eq zy) (cl_nil GTerm.c)) (.cons (app_re2 GTerm.c vp.gKids [zy]) (.cons (app_obl2 (c := GTerm.c) (xs := vp.gKids) (ys := [zy]) GTerm.c_len h14) .nil)))) ?_
              refine Wc.r0 ⟨[tV 1 (.func 103 []), tP 4 4, tP 5 5, tV 19 (.sl (List.map GTerm.c u8.gKids)), tI 20 (u8.gKids.length : Int), tI 21 (wr.i64 (ui + 1))], [(4, .cells [aI 0, .str (bs []), aI 0, .slx] [(3, .ex 41 true (List.map GTerm.c []))]), (5, .cells (GTerm.qx vp) [(3, .ex 41 true (List.map GTerm.c (vp.gKids ++ [zy])))])], []⟩ ?_
              exact ⟨_, Nat.lt_succ_self _, _, _, rfl, h10⟩
            · refine Wc.cF h11 ?_
              refine Wc.fx [] ⟨[tP 4 4, tP 5 5], [(4, .cells [aI 0, .str (bs []), aI 0, .slx] [(3, .ex 41 true (List.map GTerm.c []))]), (5, .cells (GTerm.qx vp) (GTerm.h3_41t vp))], []⟩ ?_
              refine Wc.exit ?_
              obtain rfl := Option.some.inj h10
              exact ⟨_, rfl, rfl⟩
        · rintro st ⟨u3, rfl, rfl⟩
          apply Wc.seq
          refine Wc.r1 [{ md := 1 }, { tk := [34] }] ⟨[tP 4 4], [(4, .cells (GTerm.qx u3) (GTerm.h3_41t u3))], []⟩ ?_
          obtain rfl := Option.some.inj h; exact Wc.ret dn
theorem cimpl_renamed_on1_pimpl_copyTerm_1_d {k : Nat} {u8 : GTerm} {r : GTerm} (h : pimpl_renamed_on1_pimpl_copyTerm_1_d k u8 = some r) : FnO Tryz.prog 102 [.v (.agg (GTerm.q u8)) [], .v (.func 103 []) []] (.v (.agg (GTerm.qx r)) (GTerm.h3_41t r)) [] := (all_pimpl_renamed_on1_pimpl_copyTerm_1_d k) h

def pimpl_copyTerm_d (k : Nat) (up : GTerm) : Option GTerm :=
  (pimpl_renamed_on1_pimpl_copyTerm_1_d k up).bind fun z4 =>
  some z4
theorem cimpl_copyTerm_d {k : Nat} {up : GTerm} {r : GTerm} (h : pimpl_copyTerm_d k up = some r) : FnO Tryz.prog 69 [.v (.agg (GTerm.q up)) []] (.v (.agg (GTerm.qx r)) (GTerm.h3_41t r)) [] := by
  refine FnO.o2 Tryz.func69 (rfl : Tryz.f69.body = some _) ?_
  intro w0 X0 Fin pv0 pb gt
  unfold pimpl_copyTerm_d at h
  apply Wc.seq
  refine Wc.r0 ⟨[tP 1 1, tP 2 2], [bC 1 (GTerm.q up), (2, .cells GTerm.z [(3, .app 41)])], []⟩ ?_
  apply Wc.seq
  obtain ⟨z4, h4, h⟩ := obind h
  refine Wc.r2 [{}, { r := some (.v (.agg (GTerm.qx z4)) (GTerm.h3_41t z4)) }, { tk := [4] }] ⟨[tP 2 2], [(2, .cells (GTerm.qx z4) (GTerm.h3_41t z4))], []⟩ (.cons (cimpl_renamed_on1_pimpl_copyTerm_1_d h4) .nil) ?_
  obtain rfl := Option.some.inj h; exact Wc.ret dn

def pimpl_copyClause_d (k : Nat) (zr : GClause) : Option GClause :=
  (pimpl_copyTerm_d k zr.gHead).bind fun vz =>
  (pimpl_copyTerm_d k zr.gBody).bind fun vp =>
  some (GClause.mk vz vp zr.gFile)
theorem cimpl_copyClause_d {k : Nat} {zr : GClause} {r : GClause} (h : pimpl_copyClause_d k zr = some r) : FnO Tryz.prog 48 [.v (.agg (GClause.q zr)) []] (.v (.agg (GClause.qx r)) [(3, .ex 41 true (List.map GTerm.c r.gHead.gKids)), (7, .ex 41 true (List.map GTerm.c r.gBody.gKids))]) [] := by
  refine FnO.o2 Tryz.func48 (rfl : Tryz.f48.body = some _) ?_
  intro w0 X0 Fin pv0 pb gt
  unfold pimpl_copyClause_d at h
  apply Wc.seq
  refine Wc.r0 ⟨[tP 1 1, tP 2 2], [bC 1 (GClause.q zr), (2, .cells GClause.z [(3, .app 41), (7, .app 41)])], []⟩ ?_
  apply Wc.seq
  obtain ⟨vz, h7, h⟩ := obind h
  obtain ⟨vp, h8, h⟩ := obind h
  refine Wc.draw hmix [{}, {}, { r := some (.v (.agg (GTerm.qx vz)) (GTerm.h3_41t vz)) }, {}, {}, { r := some (.v (.agg (GTerm.qx vp)) (GTerm.h3_41t vp)) }, {}, {}, { tk := [5, 8] }, { tk := [11] }] [] [2] [2] [] ⟨[tP 2 2], [(2, .cells [aI vz.gKind, .str vz.gName, aI vz.gNum, .slx, aI vp.gKind, .str vp.gName, aI vp.gNum, .slx, .str zr.gFile] [(3, .ex 41 true (List.map GTerm.c vz.gKids)), (7, .ex 41 true (List.map GTerm.c vp.gKids))])], []⟩ _ (by kernel_rfl) (fun X => by kernel_rfl) (.cons (cimpl_copyTerm_d h7) (.cons (cimpl_copyTerm_d h8) .nil)) ?_
  obtain rfl := Option.some.inj h; exact Wc.ret dn

def pimpl_copyClauses_d_L1 (k : Nat) (z6 : List GClause) : Nat → (List GClause) → Int → Option (Out (List GClause) (List GClause))
  | 0, _, _ => none
  | m + 1, vb, u6 =>
    if (decide (u6 < (z6.length : Int))) = true then
      (at' z6 u6).bind fun zp =>
      (pimpl_copyClause_d k zp).bind fun u0x =>
      if vb.length + [u0x].length ≤ 1073741824 then
        pimpl_copyClauses_d_L1 k z6 m (vb ++ [u0x]) (wr.i64 (u6 + 1))
      else none
    else
      some (.done vb)
def pimpl_copyClauses_d (k : Nat) (z6 : List GClause) : Option (List GClause) :=
  (pimpl_copyClauses_d_L1 k z6 k [] 0).bind fun out1 => match out1 with
  | .ret r => some r
  | .done u14 =>
    some u14
theorem cimpl_copyClauses_d {k : Nat} {z6 : List GClause} {r : (List GClause)} (h : pimpl_copyClauses_d k z6 = some r) : FnO Tryz.prog 30 [.v (.sl (List.map GClause.c z6)) []] (.v (.slx) [(0, .ex 43 true (List.map GClause.c r))]) [] := by
  refine FnO.o2 Tryz.func30 (rfl : Tryz.f30.body = some _) ?_
  intro w0 X0 Fin pv0 pb gt
  unfold pimpl_copyClauses_d at h
  apply Wc.seq
  refine Wc.r0 ⟨[tV 0 (.sl (List.map GClause.c z6))], [], []⟩ ?_
  apply Wc.seq
  refine Wc.r0 ⟨[tV 0 (.sl (List.map GClause.c z6)), (3, (.v (.sl (List.map GClause.c [])), [(0, .app 43)]))], [], []⟩ ?_
  apply Wc.seq
  apply Wc.seq
  refine Wc.r2 [{}, { v := some (aI (z6.length : Int)) }] ⟨[(3, (.v (.sl (List.map GClause.c [])), [(0, .app 43)])), tV 6 (.sl (List.map GClause.c z6)), tI 7 (z6.length : Int), tI 8 0], [], []⟩ (.cons (len_obl GClause.c z6) .nil) ?_
  obtain ⟨out1, h8, h⟩ := obind h
  refine Wc.lastJ (fun st => ∃ (u14 : List GClause), out1 = .done u14 ∧ st = ⟨[(3, (.v (.slx), [(0, .ex 43 true (List.map GClause.c u14))]))], [], []⟩) ?_ ?_
  · refine Wc.block ?_
    refine Wc.fx [.ow (.t 3 0) true] ⟨[(3, (.v (.slx), [(0, .ex 43 true (List.map GClause.c []))])), tV 6 (.sl (List.map GClause.c z6)), tI 7 (z6.length : Int), tI 8 0], [], []⟩ ?_
    refine Wc.loop (fun m st => ∃ (vb : List GClause) (u6 : Int), st = ⟨[(3, (.v (.slx), [(0, .ex 43 true (List.map GClause.c vb))])), tV 6 (.sl (List.map GClause.c z6)), tI 7 (z6.length : Int), tI 8 u6], [], []⟩ ∧ pimpl_copyClauses_d_L1 k z6 m vb u6 = some out1) ?_ k ⟨_, _, rfl, h8⟩
    rintro m st ⟨vb, u6, rfl, h8⟩
    cases m with
    | zero => exact (onone h8).elim
    | succ m =>
      apply Wc.seq
      refine Wc.r0 ⟨[(3, (.v (.slx), [(0, .ex 43 true (List.map GClause.c vb))])), tV 6 (.sl (List.map GClause.c z6)), tI 7 (z6.length : Int), tI 8 u6, tB 9 (decide (u6 < (z6.length : Int)))], [], []⟩ ?_
      apply Wc.seq
      rcases oif h8 with ⟨h9, h8⟩ | ⟨h9, h8⟩
      · refine Wc.cT h9 ?_
        refine Wc.fx [] ⟨[(3, (.v (.slx), [(0, .ex 43 true (List.map GClause.c vb))])), tV 6 (.sl (List.map GClause.c z6)), tI 7 (z6.length : Int), tI 8 u6], [], []⟩ ?_
        refine Wc.skip ?_
        apply Wc.seq
        refine Wc.block ?_
        apply Wc.seq
        obtain ⟨zp, h10, h8⟩ := obind h8
        refine Wc.r2 [{ v := some (.vptr (GClause.q zp)) }] ⟨[(3, (.v (.slx), [(0, .ex 43 true (List.map GClause.c vb))])), tP 5 5, tV 6 (.sl (List.map GClause.c z6)), tI 7 (z6.length : Int), tI 8 u6], [bC 5 (GClause.q zp)], []⟩ (.cons (at_obl (c := GClause.c) (GClause.c_eq zp) GClause.c_len h10) (.cons (len_ok 9 (GClause.q zp)) .nil)) ?_
        obtain ⟨u0x, h11, h8⟩ := obind h8
        obtain ⟨h12, h8⟩ := oguard h8
        refine Wc.r2 [{ tk := [3] }, {}, { r := some (.v (.agg (GClause.qx u0x)) [(3, .ex 41 true (List.map GTerm.c u0x.gHead.gKids)), (7, .ex 41 true (List.map GTerm.c u0x.gBody.gKids))]) }, { c := some (List.map GClause.c [u0x]), tk := [14], md := 2 }, { c := some (List.map GClause.c (vb ++ [u0x])), tk := [12, 15], md := 2 }, { tk := [16] }] ⟨[(3, (.v (.slx), [(0, .ex 43 true (List.map GClause.c (vb ++ [u0x])))])), tV 6 (.sl (List.map GClause.c z6)), tI 7 (z6.length : Int), tI 8 u6], [], []⟩ (.cons (cimpl_copyClause_d h11) (.cons (cl_cons (c := GClause.c) (x := u0x) (GClause.c_eq u0x) (cl_nil GClause.c)) (.cons (app_re2 GClause.c vb [u0x]) (.cons (app_obl2 (c := GClause.c) (xs := vb) (ys := [u0x]) GClause.c_len h12) .nil)))) ?_
        refine Wc.r0 ⟨[(3, (.v (.slx), [(0, .ex 43 true (List.map GClause.c (vb ++ [u0x])))])), tV 6 (.sl (List.map GClause.c z6)), tI 7 (z6.length : Int), tI 8 (wr.i64 (u6 + 1))], [], []⟩ ?_
        exact ⟨_, Nat.lt_succ_self _, _, _, rfl, h8⟩
      · refine Wc.cF h9 ?_
        refine Wc.fx [] ⟨[(3, (.v (.slx), [(0, .ex 43 true (List.map GClause.c vb))]))], [], []⟩ ?_
        refine Wc.exit ?_
        obtain rfl := Option.some.inj h8
        exact ⟨_, rfl, rfl⟩
  · rintro st ⟨u14, rfl, rfl⟩
    apply Wc.seq
    refine Wc.r1 [{ tk := [3] }, { tk := [18] }] ⟨[(2, (.v (.slx), [(0, .ex 43 true (List.map GClause.c u14))]))], [], []⟩ ?_
    obtain rfl := Option.some.inj h; exact Wc.ret dn

def pimpl_copyDb_d (k : Nat) (v0 : GDb) : Option GDb :=
  (pimpl_copyClauses_d k v0.gClauses).bind fun u4j =>
  if ([] : List ByteArray).length + v0.gOpen.length ≤ 1073741824 then
    some (GDb.mk u4j v0.gOpen)
  else none
theorem cimpl_copyDb_d {k : Nat} {v0 : GDb} {r : GDb} (h : pimpl_copyDb_d k v0 = some r) : FnO Tryz.prog 19 [.v (.agg (GDb.q v0)) []] (.v (.agg [.slx, .slx]) [(0, .ex 43 true (List.map GClause.c r.gClauses)), (1, .ex 9 true (List.map cS r.gOpen))]) [] := by
  refine FnO.o2 Tryz.func19 (rfl : Tryz.f19.body = some _) ?_
  intro w0 X0 Fin pv0 pb gt
  unfold pimpl_copyDb_d at h
  apply Wc.seq
  refine Wc.r0 ⟨[tP 1 1, tP 2 2], [bC 1 (GDb.q v0), (2, .cells GDb.z [(0, .app 43), (1, .app 9)])], []⟩ ?_
  apply Wc.seq
  obtain ⟨u4j, h5, h⟩ := obind h
  obtain ⟨h6, h⟩ := oguard h
  refine Wc.draw hmix [{}, {}, { r := some (.v (.slx) [(0, .ex 43 true (List.map GClause.c u4j))]) }, {}, {}, { c := some (List.map cS v0.gOpen), md := 2 }, { tk := [5, 8] }, { tk := [9] }] [] [2] [2] [] ⟨[tP 2 2], [(2, .cells [.slx, .slx] [(0, .ex 43 true (List.map GClause.c u4j)), (1, .ex 9 true (List.map cS v0.gOpen))])], []⟩ _ (by kernel_rfl) (fun X => by kernel_rfl) (.cons (cimpl_copyClauses_d h5) (.cons (app_re0 cS v0.gOpen) (.cons (app_scal (c := cS) (ys := v0.gOpen) cS_scal) (.cons (app_obl2 (c := cS) (xs := []) (ys := v0.gOpen) cS_len h6) .nil)))) ?_
  obtain rfl := Option.some.inj h; exact Wc.ret dn

def pimpl_Wiped_1 (k : Nat) (z3 : GClause) (u13 : ByteArray) : Option Bool :=
  some (sEq z3.gFile u13)
theorem cimpl_Wiped_1 {k : Nat} {z3 : GClause} {u13 : ByteArray} {r : Bool} (h : pimpl_Wiped_1 k z3 u13 = some r) : FnO Tryz.prog 39 [.v (.agg (GClause.q z3)) [], .v (.vptr [.str u13]) []] (.v (.bool r) []) [] := by
  refine FnO.o2 Tryz.func39 (rfl : Tryz.f39.body = some _) ?_
  intro w0 X0 Fin pv0 pb gt
  unfold pimpl_Wiped_1 at h
  apply Wc.seq
  refine Wc.r0 ⟨[tV 1 (.vptr [.str u13]), tP 2 2], [bC 2 (GClause.q z3)], []⟩ ?_
  apply Wc.seq
  refine Wc.r2 [] ⟨[tB 3 (sEq z3.gFile u13)], [], []⟩ (.cons (len_ok 1 [.str u13]) .nil) ?_
  obtain rfl := Option.some.inj h; exact Wc.ret dn

def pslices_DeleteFunc___impl_Clause_impl_Clause__on1_pimpl_Wiped_1_d (k : Nat) (l : List GClause) (y0 : ByteArray) : Option (List GClause) :=
  if l.all (fun x => (pimpl_Wiped_1 k x y0).isSome) = true then some (l.filter fun x => !((pimpl_Wiped_1 k x y0).getD false)) else none
theorem cslices_DeleteFunc___impl_Clause_impl_Clause__on1_pimpl_Wiped_1_d {k : Nat} {l : List GClause} {y0 : ByteArray} {r : List GClause} (h : pslices_DeleteFunc___impl_Clause_impl_Clause__on1_pimpl_Wiped_1_d k l y0 = some r) : FnO Tryz.prog 38 [.v .slx [(0, .ex 43 true (List.map GClause.c l))], .v (.func 39 [.vptr [.str y0]]) []] (.v (.slx) [(0, .ex 43 true (List.map GClause.c r))]) [] := by
  obtain ⟨h1, h⟩ := oguard h
  obtain rfl := Option.some.inj h
  refine delfunc_O df_roads (by kernel_rfl) (by decide) (l := l) (cf := GClause.c) GClause.c_len (g := 39) (caps := [.vptr [.str y0]]) (pr := fun x => (pimpl_Wiped_1 k x y0).getD false) (fun args w => Tryz.call39 args w) (fun x hx => ?_)
  have hs := List.all_eq_true.1 h1 x hx
  obtain ⟨q, hq⟩ := Option.isSome_iff_exists.1 hs
  have e : (pimpl_Wiped_1 k x y0).getD false = q := by rw [hq]; rfl
  show FnO Tryz.prog 39 _ (.v (.bool ((pimpl_Wiped_1 k x y0).getD false)) []) []
  rw [e]
  exact cimpl_Wiped_1 hq

def pimpl_Wiped_d (k : Nat) (v0 : GDb) (vo : ByteArray) : Option GDb :=
  (pimpl_copyDb_d k v0).bind fun vl =>
  (pslices_DeleteFunc___impl_Clause_impl_Clause__on1_pimpl_Wiped_1_d k vl.gClauses vo).bind fun u3x =>
  some (GDb.mk u3x vl.gOpen)
theorem cimpl_Wiped_d {k : Nat} {v0 : GDb} {vo : ByteArray} {r : GDb} (h : pimpl_Wiped_d k v0 vo = some r) : FnO Tryz.prog 21 [.v (.agg (GDb.q v0)) [], .v (.str vo) []] (.v (.agg [.slx, .slx]) [(0, .ex 43 true (List.map GClause.c r.gClauses)), (1, .ex 9 true (List.map cS r.gOpen))]) [] := by
  refine FnO.o2 Tryz.func21 (rfl : Tryz.f21.body = some _) ?_
  intro w0 X0 Fin pv0 pb gt
  unfold pimpl_Wiped_d at h
  apply Wc.seq
  refine Wc.r0 ⟨[tP 2 2, tP 3 3, tP 4 4], [bC 2 (GDb.q v0), bC 3 [.str vo], (4, .cells GDb.z [(0, .app 43), (1, .app 9)])], []⟩ ?_
  apply Wc.seq
  obtain ⟨vl, h5, h⟩ := obind h
  refine Wc.r2 [{}, { r := some (.v (.agg [.slx, .slx]) [(0, .ex 43 true (List.map GClause.c vl.gClauses)), (1, .ex 9 true (List.map cS vl.gOpen))]) }, {}, { tk := [7] }] ⟨[tP 3 3, tP 4 4, tP 5 5], [bC 3 [.str vo], (4, .cells GDb.z [(0, .app 43), (1, .app 9)]), (5, .cells [.slx, .slx] [(0, .ex 43 true (List.map GClause.c vl.gClauses)), (1, .ex 9 true (List.map cS vl.gOpen))])], []⟩ (.cons (cimpl_copyDb_d h5) .nil) ?_
  apply Wc.seq
  refine Wc.freeze 3 ⟨[tV 3 (.vptr [.str vo]), tP 4 4, tP 5 5], [(4, .cells GDb.z [(0, .app 43), (1, .app 9)]), (5, .cells [.slx, .slx] [(0, .ex 43 true (List.map GClause.c vl.gClauses)), (1, .ex 9 true (List.map cS vl.gOpen))])], []⟩ (by kernel_rfl) ?_
  obtain ⟨u3x, h6, h⟩ := obind h
  refine Wc.r3 [{}, { md := 1 }, {}, { tk := [9], r := some (.v (.slx) [(0, .ex 43 true (List.map GClause.c u3x))]) }, {}, { tk := [11] }] [.so 5] ⟨[tP 4 4, tP 5 5], [(4, .cells GDb.z [(0, .app 43), (1, .app 9)]), (5, .cells [.slx, .slx] [(0, .ex 43 true (List.map GClause.c u3x)), (1, .ex 9 true (List.map cS vl.gOpen))])], []⟩ (.cons (cslices_DeleteFunc___impl_Clause_impl_Clause__on1_pimpl_Wiped_1_d h6) .nil) ?_
  apply Wc.seq
  refine Wc.r1 [{ md := 1 }, { tk := [13] }] ⟨[tP 4 4], [(4, .cells [.slx, .slx] [(0, .ex 43 true (List.map GClause.c u3x)), (1, .ex 9 true (List.map cS vl.gOpen))])], []⟩ ?_
  obtain rfl := Option.some.inj h; exact Wc.ret dn

def pimpl_LoadText_J3 (k : Nat) (bk_ : Int → GLoader → Option (Out GLoaded GLoader)) (v1 : GTerm × (List ByteArray) × Int × Bool) (u0j : Bool) (u2j : GLoader) : Option (Out GLoaded GLoader) :=
  if u0j = true then
    bk_ v1.2.2.1 u2j
  else
    (pimpl_isStruct k v1.1 (bs [58, 45]) 1).bind fun u4k =>
    if u4k = true then
      none
    else
      (pimpl_loader_clause k u2j v1.1).bind fun u4l =>
      bk_ v1.2.2.1 u4l
def pimpl_LoadText_J2 (k : Nat) (bk_ : Int → GLoader → Option (Out GLoaded GLoader)) (v1 : GTerm × (List ByteArray) × Int × Bool) (z1 : Bool) (u2w : GLoader) : Option (Out GLoaded GLoader) :=
  if z1 = true then
    none
  else
    if (!v1.2.2.2) = true then
      pimpl_LoadText_J3 k (bk_) v1 true u2w
    else
      (pimpl_loader_condition k u2w v1.1).bind fun u29 =>
      if u29.2 = true then
        pimpl_LoadText_J3 k (bk_) v1 true u29.1
      else
        (pimpl_loader_passed k u29.1).bind fun u2x =>
        pimpl_LoadText_J3 k (bk_) v1 u2x.2 u2x.1
def pimpl_LoadText_L1 (k : Nat) (vu : (List GSign) × Bool) : Nat → Int → GLoader → Option (Out GLoaded GLoader)
  | 0, _, _ => none
  | m + 1, ut, u15 =>
    if (decide (ut < (vu.1.length : Int))) = true then
      (pimpl_ReadSigns k vu.1 ut).bind fun v1 =>
      if (!v1.2.2.2) = true then
        (pimpl_loader_passed k u15).bind fun u2y =>
        pimpl_LoadText_J2 k (pimpl_LoadText_L1 k vu m) v1 (!u2y.2) u2y.1
      else
        pimpl_LoadText_J2 k (pimpl_LoadText_L1 k vu m) v1 false u15
    else
      some (.done u15)
def pimpl_LoadText_L4 (k : Nat) (vi : GLoader) : Nat → Int → Option (Out GLoaded Unit)
  | 0, _ => none
  | m + 1, u0y =>
    if (decide (u0y < (vi.gOpen.length : Int))) = true then
      (at' vi.gOpen u0y).bind fun u2z =>
      if (!u2z.gDead) = true then
        none
      else
        pimpl_LoadText_L4 k vi m (wr.i64 (u0y + 1))
    else
      some (.done ())
def pimpl_LoadText (k : Nat) (vx : GLoaded) (u1y : List GFile) (u1z : ByteArray) (u1b : ByteArray) (vt : Int) : Option GLoaded :=
  (pimpl_copyDb k vx.gDb).bind fun vc =>
  (pimpl_SignsOf k u1b).bind fun vu =>
  (pimpl_LoadText_L1 k vu k 0 (GLoader.mk (GLoaded.mk vc vx.gBad vx.gMissing vx.gRefused vx.gRan) u1y u1z vt [])).bind fun out1 => match out1 with
  | .ret r => some r
  | .done vi =>
    (pimpl_LoadText_L4 k vi k 0).bind fun out4 => match out4 with
    | .ret r => some r
    | .done () =>
      some vi.gL
set_option maxHeartbeats 4000000 in
theorem cimpl_LoadText {k : Nat} {vx : GLoaded} {u1y : List GFile} {u1z : ByteArray} {u1b : ByteArray} {vt : Int} {r : GLoaded} (h : pimpl_LoadText k vx u1y u1z u1b vt = some r) : FnO Tryz.prog 20 [.v (.agg (GLoaded.q vx)) [], .v (.sl (List.map GFile.c u1y)) [], .v (.str u1z) [], .v (.str u1b) [], .v (aI vt) []] (.v (.agg (GLoaded.q r)) []) [] := by
  refine FnO.o2 Tryz.func20 (rfl : Tryz.f20.body = some _) ?_
  intro w0 X0 Fin pv0 pb gt
  unfold pimpl_LoadText at h
  apply Wc.seq
  refine Wc.r0 ⟨[tV 1 (.sl (List.map GFile.c u1y)), tS 2 u1z, tS 3 u1b, tI 4 vt, tP 5 5, tP 10 10], [bC 5 (GLoaded.q vx), (10, .cells GLoaded.z [(0, .app 43), (1, .app 9)])], []⟩ ?_
  apply Wc.seq
  refine Wc.r1 [{}, {}, {}, {}, {}, { tk := [25] }] ⟨[tS 3 u1b, tP 5 5, tP 10 10, tP 11 26], [bC 5 (GLoaded.q vx), (10, .cells GLoaded.z [(0, .app 43), (1, .app 9)]), (26, .cells [.sl (List.map GClause.c vx.gDb.gClauses), .sl (List.map cS vx.gDb.gOpen), aI vx.gBad, aI vx.gMissing, aI vx.gRefused, aI vx.gRan, .sl (List.map GFile.c u1y), .str u1z, aI vt, .sl (List.map GChoice.c [])] [(9, .app 83)])], []⟩ ?_
  apply Wc.seq
  obtain ⟨vc, h8, h⟩ := obind h
  refine Wc.r3 [{}, {}, {}, { r := some (.v (.agg (GDb.q vc)) [(0, .app 43), (1, .app 9)]) }, {}, {}, {}, { tk := [30] }] [.so 26] ⟨[tS 3 u1b, tP 10 10, tP 11 26], [(10, .cells GLoaded.z [(0, .app 43), (1, .app 9)]), (26, .cells [.sl (List.map GClause.c vc.gClauses), .sl (List.map cS vc.gOpen), aI vx.gBad, aI vx.gMissing, aI vx.gRefused, aI vx.gRan, .sl (List.map GFile.c u1y), .str u1z, aI vt, .sl (List.map GChoice.c [])] [(0, .app 43), (1, .app 9), (9, .app 83)])], []⟩ (.cons (cimpl_copyDb h8) .nil) ?_
  apply Wc.seq
  obtain ⟨vu, h9, h⟩ := obind h
  refine Wc.r2 [{}, { r := some (.v (.tup [.sl (List.map GSign.c vu.1), .bool vu.2]) [(0, .app 95)]) }, { tk := [36] }, { tk := [34] }, {}, { tk := [37] }] ⟨[tP 10 10, tP 11 26, (12, (.v (.sl (List.map GSign.c vu.1)), [(0, .app 95)]))], [(10, .cells GLoaded.z [(0, .app 43), (1, .app 9)]), (26, .cells [.sl (List.map GClause.c vc.gClauses), .sl (List.map cS vc.gOpen), aI vx.gBad, aI vx.gMissing, aI vx.gRefused, aI vx.gRan, .sl (List.map GFile.c u1y), .str u1z, aI vt, .sl (List.map GChoice.c [])] [(0, .app 43), (1, .app 9), (9, .app 83)])], []⟩ (.cons (cimpl_SignsOf h9) .nil) ?_
  apply Wc.seq
  apply Wc.seq
  refine Wc.r0 ⟨[tP 10 10, tP 11 26, (12, (.v (.sl (List.map GSign.c vu.1)), [(0, .app 95)])), tI 14 0], [(10, .cells GLoaded.z [(0, .app 43), (1, .app 9)]), (26, .cells [.sl (List.map GClause.c vc.gClauses), .sl (List.map cS vc.gOpen), aI vx.gBad, aI vx.gMissing, aI vx.gRefused, aI vx.gRan, .sl (List.map GFile.c u1y), .str u1z, aI vt, .sl (List.map GChoice.c [])] [(0, .app 43), (1, .app 9), (9, .app 83)])], []⟩ ?_
  obtain ⟨out1, h10, h⟩ := obind h
  refine Wc.lastJ (fun st => ∃ (vi : GLoader), out1 = .done vi ∧ st = ⟨[tP 10 10, tP 11 26], [(10, .cells GLoaded.z [(0, .app 43), (1, .app 9)]), bC 26 (GLoader.q vi)], []⟩) ?_ ?_
  · refine Wc.block ?_
    refine Wc.fx [.un (.b 26 0), .un (.b 26 1), .un (.b 26 9)] ⟨[tP 10 10, tP 11 26, (12, (.v (.sl (List.map GSign.c vu.1)), [(0, .app 95)])), tI 14 0], [(10, .cells GLoaded.z [(0, .app 43), (1, .app 9)]), bC 26 [.sl (List.map GClause.c vc.gClauses), .sl (List.map cS vc.gOpen), aI vx.gBad, aI vx.gMissing, aI vx.gRefused, aI vx.gRan, .sl (List.map GFile.c u1y), .str u1z, aI vt, .sl (List.map GChoice.c [])]], []⟩ ?_
    refine Wc.loop (fun m st => ∃ (ut : Int) (u15 : GLoader), st = ⟨[tP 10 10, tP 11 26, (12, (.v (.sl (List.map GSign.c vu.1)), [(0, .app 95)])), tI 14 ut], [(10, .cells GLoaded.z [(0, .app 43), (1, .app 9)]), bC 26 (GLoader.q u15)], []⟩ ∧ pimpl_LoadText_L1 k vu m ut u15 = some out1) ?_ k ⟨_, _, rfl, h10⟩
    rintro m st ⟨ut, u15, rfl, h10⟩
    cases m with
    | zero => exact (onone h10).elim
    | succ m =>
      apply Wc.seq
      apply Wc.seq
      refine Wc.r2 [{}, {}, { v := some (aI (vu.1.length : Int)) }] ⟨[tP 10 10, tP 11 26, (12, (.v (.sl (List.map GSign.c vu.1)), [(0, .app 95)])), tI 14 ut, tB 42 (decide (ut < (vu.1.length : Int)))], [(10, .cells GLoaded.z [(0, .app 43), (1, .app 9)]), bC 26 (GLoader.q u15)], []⟩ (.cons (len_obl GSign.c vu.1) .nil) ?_
      rcases oif h10 with ⟨h11, h10⟩ | ⟨h11, h10⟩
      · refine Wc.cT h11 ?_
        refine Wc.fx [] ⟨[tP 10 10, tP 11 26, (12, (.v (.sl (List.map GSign.c vu.1)), [(0, .app 95)])), tI 14 ut], [(10, .cells GLoaded.z [(0, .app 43), (1, .app 9)]), bC 26 (GLoader.q u15)], []⟩ ?_
        refine Wc.skip ?_
        refine Wc.block ?_
        apply Wc.seq
        obtain ⟨v1, h12, h10⟩ := obind h10
        refine Wc.r2 [{}, {}, { r := some (.v (.tup [.agg (GTerm.q v1.1), .sl (List.map cS v1.2.1), aI v1.2.2.1, .bool v1.2.2.2]) []) }] ⟨[tP 10 10, tP 11 26, (12, (.v (.sl (List.map GSign.c vu.1)), [(0, .app 95)])), tP 15 15, tI 17 v1.2.2.1, tB 18 v1.2.2.2], [(10, .cells GLoaded.z [(0, .app 43), (1, .app 9)]), bC 15 (GTerm.q v1.1), bC 26 (GLoader.q u15)], []⟩ (.cons (cimpl_ReadSigns h12) .nil) ?_
        apply Wc.seq
        refine Wc.r0 ⟨[tP 10 10, tP 11 26, (12, (.v (.sl (List.map GSign.c vu.1)), [(0, .app 95)])), tI 14 v1.2.2.1, tP 15 15, tB 18 v1.2.2.2], [(10, .cells GLoaded.z [(0, .app 43), (1, .app 9)]), bC 15 (GTerm.q v1.1), bC 26 (GLoader.q u15)], []⟩ ?_
        refine Wc.block ?_
        refine Wc.seqJ (fun st => ∃ (z1 : Bool) (u2w : GLoader), st = ⟨[tP 10 10, tP 11 26, (12, (.v (.sl (List.map GSign.c vu.1)), [(0, .app 95)])), tI 14 v1.2.2.1, tP 15 15, tB 18 v1.2.2.2, tB 55 z1], [(10, .cells GLoaded.z [(0, .app 43), (1, .app 9)]), bC 15 (GTerm.q v1.1), bC 26 (GLoader.q u2w)], []⟩ ∧ pimpl_LoadText_J2 k (pimpl_LoadText_L1 k vu m) v1 z1 u2w = some out1) ?_ ?_
        · rcases oif h10 with ⟨h22, h10⟩ | ⟨h22, h10⟩
          · obtain ⟨u2y, h23, h10⟩ := obind h10
            refine Wc.r2 [{}, {}, { re := some (.bool true) }, {}, { r := some (.v (.bool u2y.2) []), outs := [(0, .p (GLoader.q u2y.1) [])] }] ⟨[tP 10 10, tP 11 26, (12, (.v (.sl (List.map GSign.c vu.1)), [(0, .app 95)])), tI 14 v1.2.2.1, tP 15 15, tB 18 v1.2.2.2, tB 55 (!u2y.2)], [(10, .cells GLoaded.z [(0, .app 43), (1, .app 9)]), bC 15 (GTerm.q v1.1), bC 26 (GLoader.q u2y.1)], []⟩ (.cons (congrArg AV.bool h22) (.cons (cimpl_loader_passed h23) .nil)) ?_
            exact ⟨_, _, rfl, h10⟩
          · refine Wc.r2 [{}, {}, { re := some (.bool false) }] ⟨[tP 10 10, tP 11 26, (12, (.v (.sl (List.map GSign.c vu.1)), [(0, .app 95)])), tI 14 v1.2.2.1, tP 15 15, tB 18 v1.2.2.2, tB 55 false], [(10, .cells GLoaded.z [(0, .app 43), (1, .app 9)]), bC 15 (GTerm.q v1.1), bC 26 (GLoader.q u15)], []⟩ (.cons (congrArg AV.bool h22) .nil) ?_
            exact ⟨_, _, rfl, h10⟩
        · rintro st ⟨z1, u2w, rfl, h10⟩
          rcases oif h10 with ⟨h13, h10⟩ | ⟨h13, h10⟩
          · refine Wc.cT h13 ?_
            exact (onone h10).elim
          · refine Wc.cF h13 ?_
            refine Wc.seqJ (fun st => ∃ (u0j : Bool) (u2j : GLoader), st = ⟨[tP 10 10, tP 11 26, (12, (.v (.sl (List.map GSign.c vu.1)), [(0, .app 95)])), tI 14 v1.2.2.1, tP 15 15, tB 72 u0j], [(10, .cells GLoaded.z [(0, .app 43), (1, .app 9)]), bC 15 (GTerm.q v1.1), bC 26 (GLoader.q u2j)], []⟩ ∧ pimpl_LoadText_J3 k (pimpl_LoadText_L1 k vu m) v1 u0j u2j = some out1) ?_ ?_
            · rcases oif h10 with ⟨h18, h10⟩ | ⟨h18, h10⟩
              · refine Wc.r2 [{}, {}, { re := some (.bool true) }] ⟨[tP 10 10, tP 11 26, (12, (.v (.sl (List.map GSign.c vu.1)), [(0, .app 95)])), tI 14 v1.2.2.1, tP 15 15, tB 72 true], [(10, .cells GLoaded.z [(0, .app 43), (1, .app 9)]), bC 15 (GTerm.q v1.1), bC 26 (GLoader.q u2w)], []⟩ (.cons (congrArg AV.bool h18) .nil) ?_
                exact ⟨_, _, rfl, h10⟩
              · obtain ⟨u29, h19, h10⟩ := obind h10
                rcases oif h10 with ⟨h20, h10⟩ | ⟨h20, h10⟩
                · refine Wc.r2 [{}, {}, { re := some (.bool false) }, {}, {}, { r := some (.v (.bool u29.2) []), outs := [(0, .p (GLoader.q u29.1) [])] }, {}, { re := some (.bool true) }] ⟨[tP 10 10, tP 11 26, (12, (.v (.sl (List.map GSign.c vu.1)), [(0, .app 95)])), tI 14 v1.2.2.1, tP 15 15, tB 72 true], [(10, .cells GLoaded.z [(0, .app 43), (1, .app 9)]), bC 15 (GTerm.q v1.1), bC 26 (GLoader.q u29.1)], []⟩ (.cons (congrArg AV.bool h18) (.cons (cimpl_loader_condition h19) (.cons (congrArg AV.bool h20) .nil))) ?_
                  exact ⟨_, _, rfl, h10⟩
                · obtain ⟨u2x, h21, h10⟩ := obind h10
                  refine Wc.r2 [{}, {}, { re := some (.bool false) }, {}, {}, { r := some (.v (.bool u29.2) []), outs := [(0, .p (GLoader.q u29.1) [])] }, {}, { re := some (.bool false) }, {}, { r := some (.v (.bool u2x.2) []), outs := [(0, .p (GLoader.q u2x.1) [])] }] ⟨[tP 10 10, tP 11 26, (12, (.v (.sl (List.map GSign.c vu.1)), [(0, .app 95)])), tI 14 v1.2.2.1, tP 15 15, tB 72 u2x.2], [(10, .cells GLoaded.z [(0, .app 43), (1, .app 9)]), bC 15 (GTerm.q v1.1), bC 26 (GLoader.q u2x.1)], []⟩ (.cons (congrArg AV.bool h18) (.cons (cimpl_loader_condition h19) (.cons (congrArg AV.bool h20) (.cons (cimpl_loader_passed h21) .nil)))) ?_
                  exact ⟨_, _, rfl, h10⟩
            · rintro st ⟨u0j, u2j, rfl, h10⟩
              rcases oif h10 with ⟨h14, h10⟩ | ⟨h14, h10⟩
              · refine Wc.cT h14 ?_
                refine Wc.fx [] ⟨[tP 10 10, tP 11 26, (12, (.v (.sl (List.map GSign.c vu.1)), [(0, .app 95)])), tI 14 v1.2.2.1], [(10, .cells GLoaded.z [(0, .app 43), (1, .app 9)]), bC 26 (GLoader.q u2j)], []⟩ ?_
                refine Wc.skip ?_
                exact ⟨_, Nat.lt_succ_self _, _, _, rfl, h10⟩
              · refine Wc.cF h14 ?_
                apply Wc.seq
                obtain ⟨u4k, h15, h10⟩ := obind h10
                refine Wc.r2 [{}, { r := some (.v (.bool u4k) []) }] ⟨[tP 10 10, tP 11 26, (12, (.v (.sl (List.map GSign.c vu.1)), [(0, .app 95)])), tI 14 v1.2.2.1, tP 15 15, tB 84 u4k], [(10, .cells GLoaded.z [(0, .app 43), (1, .app 9)]), bC 15 (GTerm.q v1.1), bC 26 (GLoader.q u2j)], []⟩ (.cons (cimpl_isStruct h15) .nil) ?_
                rcases oif h10 with ⟨h16, h10⟩ | ⟨h16, h10⟩
                · refine Wc.cT h16 ?_
                  exact (onone h10).elim
                · refine Wc.cF h16 ?_
                  obtain ⟨u4l, h17, h10⟩ := obind h10
                  refine Wc.r2 [{}, {}, { r := some (.v (.tup []) []), outs := [(0, .p (GLoader.q u4l) [])] }] ⟨[tP 10 10, tP 11 26, (12, (.v (.sl (List.map GSign.c vu.1)), [(0, .app 95)])), tI 14 v1.2.2.1], [(10, .cells GLoaded.z [(0, .app 43), (1, .app 9)]), bC 26 (GLoader.q u4l)], []⟩ (.cons (cimpl_loader_clause h17) .nil) ?_
                  exact ⟨_, Nat.lt_succ_self _, _, _, rfl, h10⟩
      · refine Wc.cF h11 ?_
        refine Wc.fx [] ⟨[tP 10 10, tP 11 26], [(10, .cells GLoaded.z [(0, .app 43), (1, .app 9)]), bC 26 (GLoader.q u15)], []⟩ ?_
        refine Wc.exit ?_
        obtain rfl := Option.some.inj h10
        exact ⟨_, rfl, rfl⟩
  · rintro st ⟨vi, rfl, rfl⟩
    apply Wc.seq
    apply Wc.seq
    refine Wc.r2 [{}, {}, {}, {}, { v := some (aI (vi.gOpen.length : Int)) }] ⟨[tP 10 10, tP 11 26, tV 96 (.sl (List.map GChoice.c vi.gOpen)), tI 97 (vi.gOpen.length : Int), tI 98 0], [(10, .cells GLoaded.z [(0, .app 43), (1, .app 9)]), bC 26 (GLoader.q vi)], []⟩ (.cons (len_obl GChoice.c vi.gOpen) .nil) ?_
    obtain ⟨out4, h24, h⟩ := obind h
    refine Wc.lastJ (fun st => out4 = .done () ∧ st = ⟨[tP 10 10, tP 11 26], [(10, .cells GLoaded.z [(0, .app 43), (1, .app 9)]), bC 26 (GLoader.q vi)], []⟩) ?_ ?_
    · refine Wc.block ?_
      refine Wc.loop (fun m st => ∃ (u0y : Int), st = ⟨[tP 10 10, tP 11 26, tV 96 (.sl (List.map GChoice.c vi.gOpen)), tI 97 (vi.gOpen.length : Int), tI 98 u0y], [(10, .cells GLoaded.z [(0, .app 43), (1, .app 9)]), bC 26 (GLoader.q vi)], []⟩ ∧ pimpl_LoadText_L4 k vi m u0y = some out4) ?_ k ⟨_, rfl, h24⟩
      rintro m st ⟨u0y, rfl, h24⟩
      cases m with
      | zero => exact (onone h24).elim
      | succ m =>
        apply Wc.seq
        refine Wc.r0 ⟨[tP 10 10, tP 11 26, tV 96 (.sl (List.map GChoice.c vi.gOpen)), tI 97 (vi.gOpen.length : Int), tI 98 u0y, tB 99 (decide (u0y < (vi.gOpen.length : Int)))], [(10, .cells GLoaded.z [(0, .app 43), (1, .app 9)]), bC 26 (GLoader.q vi)], []⟩ ?_
        apply Wc.seq
        rcases oif h24 with ⟨h25, h24⟩ | ⟨h25, h24⟩
        · refine Wc.cT h25 ?_
          refine Wc.fx [] ⟨[tP 10 10, tP 11 26, tV 96 (.sl (List.map GChoice.c vi.gOpen)), tI 97 (vi.gOpen.length : Int), tI 98 u0y], [(10, .cells GLoaded.z [(0, .app 43), (1, .app 9)]), bC 26 (GLoader.q vi)], []⟩ ?_
          refine Wc.skip ?_
          apply Wc.seq
          refine Wc.block ?_
          apply Wc.seq
          obtain ⟨u2z, h26, h24⟩ := obind h24
          refine Wc.r2 [{ v := some (.vptr (GChoice.q u2z)) }] ⟨[tP 10 10, tP 11 26, tP 20 20, tV 96 (.sl (List.map GChoice.c vi.gOpen)), tI 97 (vi.gOpen.length : Int), tI 98 u0y], [(10, .cells GLoaded.z [(0, .app 43), (1, .app 9)]), bC 20 (GChoice.q u2z), bC 26 (GLoader.q vi)], []⟩ (.cons (at_obl (c := GChoice.c) (GChoice.c_eq u2z) GChoice.c_len h26) (.cons (len_ok 3 (GChoice.q u2z)) .nil)) ?_
          apply Wc.seq
          refine Wc.r0 ⟨[tP 10 10, tP 11 26, tV 96 (.sl (List.map GChoice.c vi.gOpen)), tI 97 (vi.gOpen.length : Int), tI 98 u0y, tB 104 (!u2z.gDead)], [(10, .cells GLoaded.z [(0, .app 43), (1, .app 9)]), bC 26 (GLoader.q vi)], []⟩ ?_
          rcases oif h24 with ⟨h27, h24⟩ | ⟨h27, h24⟩
          · refine Wc.cT h27 ?_
            exact (onone h24).elim
          · refine Wc.cF h27 ?_
            refine Wc.fx [] ⟨[tP 10 10, tP 11 26, tV 96 (.sl (List.map GChoice.c vi.gOpen)), tI 97 (vi.gOpen.length : Int), tI 98 u0y], [(10, .cells GLoaded.z [(0, .app 43), (1, .app 9)]), bC 26 (GLoader.q vi)], []⟩ ?_
            refine Wc.skip ?_
            refine Wc.r0 ⟨[tP 10 10, tP 11 26, tV 96 (.sl (List.map GChoice.c vi.gOpen)), tI 97 (vi.gOpen.length : Int), tI 98 (wr.i64 (u0y + 1))], [(10, .cells GLoaded.z [(0, .app 43), (1, .app 9)]), bC 26 (GLoader.q vi)], []⟩ ?_
            exact ⟨_, Nat.lt_succ_self _, _, rfl, h24⟩
        · refine Wc.cF h25 ?_
          refine Wc.fx [] ⟨[tP 10 10, tP 11 26], [(10, .cells GLoaded.z [(0, .app 43), (1, .app 9)]), bC 26 (GLoader.q vi)], []⟩ ?_
          refine Wc.exit ?_
          obtain rfl := Option.some.inj h24
          exact ⟨rfl, rfl⟩
    · rintro st ⟨rfl, rfl⟩
      apply Wc.seq
      refine Wc.r0 ⟨[tP 10 10], [bC 10 (GLoaded.q vi.gL)], []⟩ ?_
      obtain rfl := Option.some.inj h; exact Wc.ret dn

def pspec_l01Figure (k : Nat) (u5 : Int) : Option Int :=
  if (decide (u5 < 10)) = true then
    some (wr.u8 (wr.i64 (48 + u5)))
  else
    some (wr.u8 (wr.i64 ((wr.i64 (97 + u5)) - 10)))
theorem cspec_l01Figure {k : Nat} {u5 : Int} {r : Int} (h : pspec_l01Figure k u5 = some r) : FnO Tryz.prog 16 [.v (aI u5) []] (.v (.int .u8 r) []) [] := by
  refine FnO.o2 Tryz.func16 (rfl : Tryz.f16.body = some _) ?_
  intro w0 X0 Fin pv0 pb gt
  unfold pspec_l01Figure at h
  apply Wc.seq
  refine Wc.r0 ⟨[tI 0 u5], [], []⟩ ?_
  apply Wc.seq
  apply Wc.seq
  refine Wc.r0 ⟨[tI 0 u5, tB 4 (decide (u5 < 10))], [], []⟩ ?_
  rcases oif h with ⟨h6, h⟩ | ⟨h6, h⟩
  · refine Wc.cT h6 ?_
    apply Wc.seq
    refine Wc.r0 ⟨[tV 2 (.int .u8 (wr.u8 (wr.i64 (48 + u5))))], [], []⟩ ?_
    obtain rfl := Option.some.inj h; exact Wc.ret dn
  · refine Wc.cF h6 ?_
    refine Wc.fx [] ⟨[tI 0 u5], [], []⟩ ?_
    refine Wc.skip ?_
    apply Wc.seq
    refine Wc.r0 ⟨[tV 2 (.int .u8 (wr.u8 (wr.i64 ((wr.i64 (97 + u5)) - 10))))], [], []⟩ ?_
    obtain rfl := Option.some.inj h; exact Wc.ret dn

def pspec_Decimal_L1 (k : Nat) : Nat → Int → ByteArray → Option (Out ByteArray ByteArray)
  | 0, _, _ => none
  | m + 1, ua, zd =>
    if (ua != 0) = true then
      if (10 : Int) ≠ 0 then
        if (decide ((Int.tmod ua 10) < 0)) = true then
          none
        else
          (pspec_l01Figure k (Int.tmod ua 10)).bind fun un =>
          if sumOk (strOfNums [un]) zd then
            if (10 : Int) ≠ 0 then
              pspec_Decimal_L1 k m (wr.i64 (Int.tdiv ua 10)) ((strOfNums [un]) ++ zd)
            else none
          else none
      else none
    else
      some (.done zd)
def pspec_Decimal (k : Nat) (z0 : Int) : Option ByteArray :=
  if (z0 == 0) = true then
    some (bs [48])
  else
    (pspec_Decimal_L1 k k z0 (bs [])).bind fun out1 => match out1 with
    | .ret r => some r
    | .done vh =>
      if (decide (z0 < 0)) = true then
        none
      else
        some vh
theorem cspec_Decimal {k : Nat} {z0 : Int} {r : ByteArray} (h : pspec_Decimal k z0 = some r) : FnO Tryz.prog 7 [.v (aI z0) []] (.v (.str r) []) [] := by
  refine FnO.o2 Tryz.func7 (rfl : Tryz.f7.body = some _) ?_
  intro w0 X0 Fin pv0 pb gt
  unfold pspec_Decimal at h
  apply Wc.seq
  refine Wc.r0 ⟨[tI 0 z0], [], []⟩ ?_
  apply Wc.seq
  apply Wc.seq
  refine Wc.r0 ⟨[tI 0 z0, tB 7 (z0 == 0)], [], []⟩ ?_
  rcases oif h with ⟨h2, h⟩ | ⟨h2, h⟩
  · refine Wc.cT h2 ?_
    apply Wc.seq
    refine Wc.r0 ⟨[tS 2 (bs [48])], [], []⟩ ?_
    obtain rfl := Option.some.inj h; exact Wc.ret dn
  · refine Wc.cF h2 ?_
    refine Wc.fx [] ⟨[tI 0 z0], [], []⟩ ?_
    refine Wc.skip ?_
    apply Wc.seq
    refine Wc.r0 ⟨[tI 0 z0, tB 3 (decide (z0 < 0))], [], []⟩ ?_
    apply Wc.seq
    refine Wc.r0 ⟨[tI 0 z0, tB 3 (decide (z0 < 0)), tS 4 (bs [])], [], []⟩ ?_
    obtain ⟨out1, h3, h⟩ := obind h
    refine Wc.seqJ (fun st => ∃ (vh : ByteArray), out1 = .done vh ∧ st = ⟨[tB 3 (decide (z0 < 0)), tS 4 vh], [], []⟩) ?_ ?_
    · refine Wc.block ?_
      refine Wc.loop (fun m st => ∃ (ua : Int) (zd : ByteArray), st = ⟨[tI 0 ua, tB 3 (decide (z0 < 0)), tS 4 zd], [], []⟩ ∧ pspec_Decimal_L1 k m ua zd = some out1) ?_ k ⟨_, _, rfl, h3⟩
      rintro m st ⟨ua, zd, rfl, h3⟩
      cases m with
      | zero => exact (onone h3).elim
      | succ m =>
        apply Wc.seq
        apply Wc.seq
        refine Wc.r0 ⟨[tI 0 ua, tB 3 (decide (z0 < 0)), tS 4 zd, tB 11 (ua != 0)], [], []⟩ ?_
        rcases oif h3 with ⟨h4, h3⟩ | ⟨h4, h3⟩
        · refine Wc.cT h4 ?_
          refine Wc.fx [] ⟨[tI 0 ua, tB 3 (decide (z0 < 0)), tS 4 zd], [], []⟩ ?_
          refine Wc.skip ?_
          refine Wc.block ?_
          apply Wc.seq
          obtain ⟨h5, h3⟩ := oguard h3
          refine Wc.r2 [] ⟨[tI 0 ua, tB 3 (decide (z0 < 0)), tS 4 zd, tI 5 (Int.tmod ua 10)], [], []⟩ (.cons h5 .nil) ?_
          apply Wc.seq
          apply Wc.seq
          refine Wc.r0 ⟨[tI 0 ua, tB 3 (decide (z0 < 0)), tS 4 zd, tI 5 (Int.tmod ua 10), tB 15 (decide ((Int.tmod ua 10) < 0))], [], []⟩ ?_
          rcases oif h3 with ⟨h6, h3⟩ | ⟨h6, h3⟩
          · refine Wc.cT h6 ?_
            exact (onone h3).elim
          · refine Wc.cF h6 ?_
            refine Wc.fx [] ⟨[tI 0 ua, tB 3 (decide (z0 < 0)), tS 4 zd, tI 5 (Int.tmod ua 10)], [], []⟩ ?_
            refine Wc.skip ?_
            apply Wc.seq
            obtain ⟨un, h7, h3⟩ := obind h3
            obtain ⟨h8, h3⟩ := oguard h3
            refine Wc.r2 [{}, { r := some (.v (.int .u8 un) []) }, { c := some (List.map cI.u8 [un]) }, { v := some (.str (strOfNums [un])) }] ⟨[tI 0 ua, tB 3 (decide (z0 < 0)), tS 4 ((strOfNums [un]) ++ zd)], [], []⟩ (.cons (cspec_l01Figure h7) (.cons (cl_cons (c := cI.u8) (x := un) rfl (cl_nil cI.u8)) (.cons (bytes_obl [un]) (.cons h8 .nil)))) ?_
            obtain ⟨h9, h3⟩ := oguard h3
            refine Wc.r2 [] ⟨[tI 0 (wr.i64 (Int.tdiv ua 10)), tB 3 (decide (z0 < 0)), tS 4 ((strOfNums [un]) ++ zd)], [], []⟩ (.cons h9 .nil) ?_
            exact ⟨_, Nat.lt_succ_self _, _, _, rfl, h3⟩
        · refine Wc.cF h4 ?_
          refine Wc.fx [] ⟨[tB 3 (decide (z0 < 0)), tS 4 zd], [], []⟩ ?_
          refine Wc.exit ?_
          obtain rfl := Option.some.inj h3
          exact ⟨_, rfl, rfl⟩
    · rintro st ⟨vh, rfl, rfl⟩
      apply Wc.seq
      apply Wc.seq
      refine Wc.r0 ⟨[tS 4 vh, tB 26 (decide (z0 < 0))], [], []⟩ ?_
      rcases oif h with ⟨h10, h⟩ | ⟨h10, h⟩
      · refine Wc.cT h10 ?_
        exact (onone h).elim
      · refine Wc.cF h10 ?_
        refine Wc.fx [] ⟨[tS 4 vh], [], []⟩ ?_
        refine Wc.skip ?_
        apply Wc.seq
        refine Wc.r0 ⟨[tS 2 vh], [], []⟩ ?_
        obtain rfl := Option.some.inj h; exact Wc.ret dn

def pspec_PredOf_J1 (k : Nat) (uy : GTerm) : Option ByteArray :=
  if sumOk uy.gName (bs [47]) then
    (pspec_Decimal k (uy.gKids.length : Int)).bind fun uv =>
    if sumOk (uy.gName ++ (bs [47])) uv then
      some ((uy.gName ++ (bs [47])) ++ uv)
    else none
  else none
def pspec_PredOf (k : Nat) (uy : GTerm) : Option ByteArray :=
  if (uy.gKind != 2) = true then
    if (uy.gKind != 4) = true then
      none
    else
      pspec_PredOf_J1 k uy
  else
    pspec_PredOf_J1 k uy
theorem cspec_PredOf {k : Nat} {uy : GTerm} {r : ByteArray} (h : pspec_PredOf k uy = some r) : FnO Tryz.prog 40 [.v (.agg (GTerm.q uy)) []] (.v (.str r) []) [] := by
  refine FnO.o2 Tryz.func40 (rfl : Tryz.f40.body = some _) ?_
  intro w0 X0 Fin pv0 pb gt
  unfold pspec_PredOf at h
  apply Wc.seq
  refine Wc.r0 ⟨[tP 1 1], [bC 1 (GTerm.q uy)], []⟩ ?_
  refine Wc.seqJ (fun st => st = ⟨[tP 1 1], [bC 1 (GTerm.q uy)], []⟩ ∧ pspec_PredOf_J1 k uy = some r) ?_ ?_
  · apply Wc.seq
    rcases oif h with ⟨h6, h⟩ | ⟨h6, h⟩
    · refine Wc.r2 [{}, {}, {}, { re := some (.bool true) }] ⟨[tP 1 1, tB 10 (uy.gKind != 4)], [bC 1 (GTerm.q uy)], []⟩ (.cons (congrArg AV.bool h6) .nil) ?_
      rcases oif h with ⟨h7, h⟩ | ⟨h7, h⟩
      · refine Wc.cT h7 ?_
        exact (onone h).elim
      · refine Wc.cF h7 ?_
        refine Wc.fx [] ⟨[tP 1 1], [bC 1 (GTerm.q uy)], []⟩ ?_
        refine Wc.skip ?_
        exact ⟨rfl, h⟩
    · refine Wc.r2 [{}, {}, {}, { re := some (.bool false) }] ⟨[tP 1 1, tB 10 false], [bC 1 (GTerm.q uy)], []⟩ (.cons (congrArg AV.bool h6) .nil) ?_
      refine Wc.cF rfl ?_
      refine Wc.fx [] ⟨[tP 1 1], [bC 1 (GTerm.q uy)], []⟩ ?_
      refine Wc.skip ?_
      exact ⟨rfl, h⟩
  · rintro st ⟨rfl, h⟩
    apply Wc.seq
    obtain ⟨h3, h⟩ := oguard h
    obtain ⟨uv, h4, h⟩ := obind h
    obtain ⟨h5, h⟩ := oguard h
    refine Wc.draw hmix [{}, {}, {}, {}, {}, { v := some (aI (uy.gKids.length : Int)) }, { r := some (.v (.str uv) []) }] [] [2] [] [] ⟨[tS 2 ((uy.gName ++ (bs [47])) ++ uv)], [], []⟩ _ (by kernel_rfl) (fun X => by kernel_rfl) (.cons h3 (.cons (len_obl GTerm.c uy.gKids) (.cons (cspec_Decimal h4) (.cons h5 .nil)))) ?_
    obtain rfl := Option.some.inj h; exact Wc.ret dn

def pspec_l34Terms_L1 (k : Nat) (rspec_l34Term : GTerm → Option GTerm) (rspec_l34Terms : (List GTerm) → Option (List GTerm)) (zm : List GTerm) : Nat → (List GTerm) → Int → Option (Out (List GTerm) (List GTerm))
  | 0, _, _ => none
  | m + 1, u0o, v3 =>
    if (decide (v3 < (zm.length : Int))) = true then
      (at' zm v3).bind fun u20 =>
      (rspec_l34Term u20).bind fun u16 =>
      if u0o.length + [u16].length ≤ 1073741824 then
        pspec_l34Terms_L1 k rspec_l34Term rspec_l34Terms zm m (u0o ++ [u16]) (wr.i64 (v3 + 1))
      else none
    else
      some (.done u0o)
mutual
def pspec_l34Term : Nat → GTerm → Option GTerm
  | 0, _ => none
  | k + 1, zn =>
    (pspec_l34Terms k zn.gKids).bind fun u3y =>
    some (GTerm.mk zn.gKind zn.gName zn.gNum u3y)
def pspec_l34Terms : Nat → (List GTerm) → Option (List GTerm)
  | 0, _ => none
  | k + 1, zm =>
    (pspec_l34Terms_L1 k (pspec_l34Term k) (pspec_l34Terms k) zm k [] 0).bind fun out1 => match out1 with
    | .ret r => some r
    | .done u3d =>
      some u3d
end
theorem all_pspec_l34Term : ∀ k : Nat, (∀ {zn : GTerm} {r : GTerm}, pspec_l34Term k zn = some r → FnO Tryz.prog 43 [.v (.agg (GTerm.q zn)) []] (.v (.agg (GTerm.q r)) [(3, .app 41)]) []) ∧
    (∀ {zm : List GTerm} {r : (List GTerm)}, pspec_l34Terms k zm = some r → FnO Tryz.prog 68 [.v (.sl (List.map GTerm.c zm)) []] (.v (.sl (List.map GTerm.c r)) [(0, .app 41)]) []) := by
  intro k
  induction k with
  | zero =>
    refine ⟨?_, ?_⟩
    · intro zn r h
      exact (onone (by rw [pspec_l34Term] at h; exact h)).elim
    · intro zm r h
      exact (onone (by rw [pspec_l34Terms] at h; exact h)).elim
  | succ k ih =>
    obtain ⟨ih_pspec_l34Term, ih_pspec_l34Terms⟩ := ih
    refine ⟨?_, ?_⟩
    · intro zn r h
      rw [pspec_l34Term] at h
      refine FnO.o2 Tryz.func43 (rfl : Tryz.f43.body = some _) ?_
      intro w0 X0 Fin pv0 pb gt
      apply Wc.seq
      refine Wc.r0 ⟨[tP 1 1, tP 2 2], [bC 1 (GTerm.q zn), (2, .cells GTerm.z [(3, .app 41)])], []⟩ ?_
      apply Wc.seq
      obtain ⟨u3y, h13, h⟩ := obind h
      refine Wc.r2 [{}, {}, { r := some (.v (.sl (List.map GTerm.c u3y)) [(0, .app 41)]) }, {}, { tk := [5] }] ⟨[tP 1 1, tP 2 2], [(1, .cells [aI zn.gKind, .str zn.gName, aI zn.gNum, .sl (List.map GTerm.c u3y)] [(3, .app 41)]), (2, .cells GTerm.z [(3, .app 41)])], []⟩ (.cons (ih_pspec_l34Terms h13) .nil) ?_
      apply Wc.seq
      refine Wc.r1 [{ md := 1 }, { tk := [7] }] ⟨[tP 2 2], [(2, .cells [aI zn.gKind, .str zn.gName, aI zn.gNum, .sl (List.map GTerm.c u3y)] [(3, .app 41)])], []⟩ ?_
      obtain rfl := Option.some.inj h; exact Wc.ret dn
    · intro zm r h
      rw [pspec_l34Terms] at h
      refine FnO.o2 Tryz.func68 (rfl : Tryz.f68.body = some _) ?_
      intro w0 X0 Fin pv0 pb gt
      apply Wc.seq
      refine Wc.r0 ⟨[tV 0 (.sl (List.map GTerm.c zm))], [], []⟩ ?_
      apply Wc.seq
      refine Wc.r2 [{ c := some (List.map GTerm.c []) }, { tk := [5] }] ⟨[tV 0 (.sl (List.map GTerm.c zm)), (3, (.v (.sl (List.map GTerm.c [])), [(0, .app 41)]))], [], []⟩ (.cons (cl_nil GTerm.c) .nil) ?_
      apply Wc.seq
      apply Wc.seq
      refine Wc.r0 ⟨[tV 0 (.sl (List.map GTerm.c zm)), (3, (.v (.sl (List.map GTerm.c [])), [(0, .app 41)])), tI 4 0], [], []⟩ ?_
      obtain ⟨out1, h14, h⟩ := obind h
      refine Wc.lastJ (fun st => ∃ (u3d : List GTerm), out1 = .done u3d ∧ st = ⟨[(3, (.v (.sl (List.map GTerm.c u3d)), [(0, .app 41)]))], [], []⟩) ?_ ?_
      · refine Wc.block ?_
        refine Wc.loop (fun m st => ∃ (u0o : List GTerm) (v3 : Int), st = ⟨[tV 0 (.sl (List.map GTerm.c zm)), (3, (.v (.sl (List.map GTerm.c u0o)), [(0, .app 41)])), tI 4 v3], [], []⟩ ∧ pspec_l34Terms_L1 k (pspec_l34Term k) (pspec_l34Terms k) zm m u0o v3 = some out1) ?_ k ⟨_, _, rfl, h14⟩
        rintro m st ⟨u0o, v3, rfl, h14⟩
        cases m with
        | zero => exact (onone h14).elim
        | succ m =>
          apply Wc.seq
          apply Wc.seq
          refine Wc.r2 [{}, {}, { v := some (aI (zm.length : Int)) }] ⟨[tV 0 (.sl (List.map GTerm.c zm)), (3, (.v (.sl (List.map GTerm.c u0o)), [(0, .app 41)])), tI 4 v3, tB 9 (decide (v3 < (zm.length : Int)))], [], []⟩ (.cons (len_obl GTerm.c zm) .nil) ?_
          rcases oif h14 with ⟨h15, h14⟩ | ⟨h15, h14⟩
          · refine Wc.cT h15 ?_
            refine Wc.fx [] ⟨[tV 0 (.sl (List.map GTerm.c zm)), (3, (.v (.sl (List.map GTerm.c u0o)), [(0, .app 41)])), tI 4 v3], [], []⟩ ?_
            refine Wc.skip ?_
            apply Wc.seq
            refine Wc.block ?_
            obtain ⟨u20, h16, h14⟩ := obind h14
            obtain ⟨u16, h17, h14⟩ := obind h14
            obtain ⟨h18, h14⟩ := oguard h14
            refine Wc.r2 [{ tk := [3] }, {}, {}, { v := some (.vptr (GTerm.q u20)) }, {}, { r := some (.v (.agg (GTerm.q u16)) [(3, .app 41)]) }, { c := some (List.map GTerm.c [u16]) }, { c := some (List.map GTerm.c (u0o ++ [u16])), tk := [12] }, { tk := [19] }] ⟨[tV 0 (.sl (List.map GTerm.c zm)), (3, (.v (.sl (List.map GTerm.c (u0o ++ [u16]))), [(0, .app 41)])), tI 4 v3], [], []⟩ (.cons (at_obl (c := GTerm.c) (GTerm.c_eq u20) GTerm.c_len h16) (.cons (len_ok 4 (GTerm.q u20)) (.cons (ih_pspec_l34Term h17) (.cons (cl_cons (c := GTerm.c) (x := u16) (GTerm.c_eq u16) (cl_nil GTerm.c)) (.cons (app_re2 GTerm.c u0o [u16]) (.cons (app_leaf (c := GTerm.c) (ys := [u16]) GTerm.c_leaf) (.cons (app_obl2 (c := GTerm.c) (xs := u0o) (ys := [u16]) GTerm.c_len h18) .nil))))))) ?_
            refine Wc.r0 ⟨[tV 0 (.sl (List.map GTerm.c zm)), (3, (.v (.sl (List.map GTerm.c (u0o ++ [u16]))), [(0, .app 41)])), tI 4 (wr.i64 (v3 + 1))], [], []⟩ ?_
            exact ⟨_, Nat.lt_succ_self _, _, _, rfl, h14⟩
          · refine Wc.cF h15 ?_
            refine Wc.fx [] ⟨[(3, (.v (.sl (List.map GTerm.c u0o)), [(0, .app 41)]))], [], []⟩ ?_
            refine Wc.exit ?_
            obtain rfl := Option.some.inj h14
            exact ⟨_, rfl, rfl⟩
      · rintro st ⟨u3d, rfl, rfl⟩
        apply Wc.seq
        refine Wc.r1 [{ tk := [3] }, { tk := [20] }] ⟨[(2, (.v (.sl (List.map GTerm.c u3d)), [(0, .app 41)]))], [], []⟩ ?_
        obtain rfl := Option.some.inj h; exact Wc.ret dn
theorem cspec_l34Term {k : Nat} {zn : GTerm} {r : GTerm} (h : pspec_l34Term k zn = some r) : FnO Tryz.prog 43 [.v (.agg (GTerm.q zn)) []] (.v (.agg (GTerm.q r)) [(3, .app 41)]) [] := (all_pspec_l34Term k).1 h
theorem cspec_l34Terms {k : Nat} {zm : List GTerm} {r : (List GTerm)} (h : pspec_l34Terms k zm = some r) : FnO Tryz.prog 68 [.v (.sl (List.map GTerm.c zm)) []] (.v (.sl (List.map GTerm.c r)) [(0, .app 41)]) [] := (all_pspec_l34Term k).2 h

def pspec_l34Clause (k : Nat) (z3 : GClause) : Option GClause :=
  (pspec_l34Term k z3.gHead).bind fun z4 =>
  (pspec_l34Term k z3.gBody).bind fun ux =>
  some (GClause.mk z4 ux z3.gFile)
theorem cspec_l34Clause {k : Nat} {z3 : GClause} {r : GClause} (h : pspec_l34Clause k z3 = some r) : FnO Tryz.prog 41 [.v (.agg (GClause.q z3)) []] (.v (.agg (GClause.q r)) [(3, .app 41), (7, .app 41)]) [] := by
  refine FnO.o2 Tryz.func41 (rfl : Tryz.f41.body = some _) ?_
  intro w0 X0 Fin pv0 pb gt
  unfold pspec_l34Clause at h
  apply Wc.seq
  refine Wc.r0 ⟨[tP 1 1, tP 2 2], [bC 1 (GClause.q z3), (2, .cells GClause.z [(3, .app 41), (7, .app 41)])], []⟩ ?_
  apply Wc.seq
  obtain ⟨z4, h5, h⟩ := obind h
  refine Wc.r2 [{}, {}, { r := some (.v (.agg (GTerm.q z4)) [(3, .app 41)]) }, {}, { tk := [5] }] ⟨[tP 1 1, tP 2 2], [(1, .cells [aI z4.gKind, .str z4.gName, aI z4.gNum, .sl (List.map GTerm.c z4.gKids), aI z3.gBody.gKind, .str z3.gBody.gName, aI z3.gBody.gNum, .sl (List.map GTerm.c z3.gBody.gKids), .str z3.gFile] [(3, .app 41)]), (2, .cells GClause.z [(3, .app 41), (7, .app 41)])], []⟩ (.cons (cspec_l34Term h5) .nil) ?_
  apply Wc.seq
  obtain ⟨ux, h6, h⟩ := obind h
  refine Wc.r2 [{}, {}, { r := some (.v (.agg (GTerm.q ux)) [(3, .app 41)]) }, {}, { tk := [9] }] ⟨[tP 1 1, tP 2 2], [(1, .cells [aI z4.gKind, .str z4.gName, aI z4.gNum, .sl (List.map GTerm.c z4.gKids), aI ux.gKind, .str ux.gName, aI ux.gNum, .sl (List.map GTerm.c ux.gKids), .str z3.gFile] [(3, .app 41), (7, .app 41)]), (2, .cells GClause.z [(3, .app 41), (7, .app 41)])], []⟩ (.cons (cspec_l34Term h6) .nil) ?_
  apply Wc.seq
  refine Wc.r1 [{ md := 1 }, { tk := [11] }] ⟨[tP 2 2], [(2, .cells [aI z4.gKind, .str z4.gName, aI z4.gNum, .sl (List.map GTerm.c z4.gKids), aI ux.gKind, .str ux.gName, aI ux.gNum, .sl (List.map GTerm.c ux.gKids), .str z3.gFile] [(3, .app 41), (7, .app 41)])], []⟩ ?_
  obtain rfl := Option.some.inj h; exact Wc.ret dn

def pspec_l08ClausesOfRaw_L1 (k : Nat) (vl : GDb) (zh : ByteArray) : Nat → (List GClause) → Int → Option (Out (List GClause) (List GClause))
  | 0, _, _ => none
  | m + 1, vb, u6 =>
    if (decide (u6 < (vl.gClauses.length : Int))) = true then
      (at' vl.gClauses u6).bind fun zp =>
      (pspec_PredOf k zp.gHead).bind fun u1b =>
      if (sEq u1b zh) = true then
        (at' vl.gClauses u6).bind fun u0p =>
        if vb.length + [u0p].length ≤ 1073741824 then
          pspec_l08ClausesOfRaw_L1 k vl zh m (vb ++ [u0p]) (wr.i64 (u6 + 1))
        else none
      else
        pspec_l08ClausesOfRaw_L1 k vl zh m vb (wr.i64 (u6 + 1))
    else
      some (.done vb)
def pspec_l08ClausesOfRaw (k : Nat) (vl : GDb) (zh : ByteArray) : Option (List GClause) :=
  (pspec_l08ClausesOfRaw_L1 k vl zh k [] 0).bind fun out1 => match out1 with
  | .ret r => some r
  | .done u14 =>
    some u14
theorem cspec_l08ClausesOfRaw {k : Nat} {vl : GDb} {zh : ByteArray} {r : (List GClause)} (h : pspec_l08ClausesOfRaw k vl zh = some r) : FnO Tryz.prog 22 [.v (.agg (GDb.q vl)) [], .v (.str zh) []] (.v (.sl (List.map GClause.c r)) [(0, .app 43)]) [] := by
  refine FnO.o2 Tryz.func22 (rfl : Tryz.f22.body = some _) ?_
  intro w0 X0 Fin pv0 pb gt
  unfold pspec_l08ClausesOfRaw at h
  apply Wc.seq
  refine Wc.r0 ⟨[tS 1 zh, tP 2 2], [bC 2 (GDb.q vl)], []⟩ ?_
  apply Wc.seq
  refine Wc.r2 [{ c := some (List.map GClause.c []) }, { tk := [7] }] ⟨[tS 1 zh, tP 2 2, (5, (.v (.sl (List.map GClause.c [])), [(0, .app 43)]))], [bC 2 (GDb.q vl)], []⟩ (.cons (cl_nil GClause.c) .nil) ?_
  apply Wc.seq
  apply Wc.seq
  refine Wc.r0 ⟨[tS 1 zh, tP 2 2, (5, (.v (.sl (List.map GClause.c [])), [(0, .app 43)])), tI 6 0], [bC 2 (GDb.q vl)], []⟩ ?_
  obtain ⟨out1, h8, h⟩ := obind h
  refine Wc.lastJ (fun st => ∃ (u14 : List GClause), out1 = .done u14 ∧ st = ⟨[(5, (.v (.sl (List.map GClause.c u14)), [(0, .app 43)]))], [], []⟩) ?_ ?_
  · refine Wc.block ?_
    refine Wc.loop (fun m st => ∃ (vb : List GClause) (u6 : Int), st = ⟨[tS 1 zh, tP 2 2, (5, (.v (.sl (List.map GClause.c vb)), [(0, .app 43)])), tI 6 u6], [bC 2 (GDb.q vl)], []⟩ ∧ pspec_l08ClausesOfRaw_L1 k vl zh m vb u6 = some out1) ?_ k ⟨_, _, rfl, h8⟩
    rintro m st ⟨vb, u6, rfl, h8⟩
    cases m with
    | zero => exact (onone h8).elim
    | succ m =>
      apply Wc.seq
      apply Wc.seq
      refine Wc.r2 [{}, {}, {}, { v := some (aI (vl.gClauses.length : Int)) }] ⟨[tS 1 zh, tP 2 2, (5, (.v (.sl (List.map GClause.c vb)), [(0, .app 43)])), tI 6 u6, tB 12 (decide (u6 < (vl.gClauses.length : Int)))], [bC 2 (GDb.q vl)], []⟩ (.cons (len_obl GClause.c vl.gClauses) .nil) ?_
      rcases oif h8 with ⟨h9, h8⟩ | ⟨h9, h8⟩
      · refine Wc.cT h9 ?_
        refine Wc.fx [] ⟨[tS 1 zh, tP 2 2, (5, (.v (.sl (List.map GClause.c vb)), [(0, .app 43)])), tI 6 u6], [bC 2 (GDb.q vl)], []⟩ ?_
        refine Wc.skip ?_
        apply Wc.seq
        refine Wc.block ?_
        apply Wc.seq
        obtain ⟨zp, h10, h8⟩ := obind h8
        obtain ⟨u1b, h11, h8⟩ := obind h8
        refine Wc.r2 [{}, {}, {}, { v := some (.vptr (GClause.q zp)) }, {}, {}, { r := some (.v (.str u1b) []) }] ⟨[tS 1 zh, tP 2 2, (5, (.v (.sl (List.map GClause.c vb)), [(0, .app 43)])), tI 6 u6, tB 23 (sEq u1b zh)], [bC 2 (GDb.q vl)], []⟩ (.cons (at_obl (c := GClause.c) (GClause.c_eq zp) GClause.c_len h10) (.cons (len_ok 4 (GClause.q zp)) (.cons (cspec_PredOf h11) .nil))) ?_
        rcases oif h8 with ⟨h12, h8⟩ | ⟨h12, h8⟩
        · refine Wc.cT h12 ?_
          obtain ⟨u0p, h13, h8⟩ := obind h8
          obtain ⟨h14, h8⟩ := oguard h8
          refine Wc.r2 [{ tk := [5] }, {}, {}, {}, { v := some (.vptr (GClause.q u0p)) }, {}, { c := some (List.map GClause.c [u0p]) }, { c := some (List.map GClause.c (vb ++ [u0p])), tk := [24] }, { tk := [31] }] ⟨[tS 1 zh, tP 2 2, (5, (.v (.sl (List.map GClause.c (vb ++ [u0p]))), [(0, .app 43)])), tI 6 u6], [bC 2 (GDb.q vl)], []⟩ (.cons (at_obl (c := GClause.c) (GClause.c_eq u0p) GClause.c_len h13) (.cons (len_ok 9 (GClause.q u0p)) (.cons (cl_cons (c := GClause.c) (x := u0p) (GClause.c_eq u0p) (cl_nil GClause.c)) (.cons (app_re2 GClause.c vb [u0p]) (.cons (app_leaf (c := GClause.c) (ys := [u0p]) GClause.c_leaf) (.cons (app_obl2 (c := GClause.c) (xs := vb) (ys := [u0p]) GClause.c_len h14) .nil)))))) ?_
          refine Wc.r0 ⟨[tS 1 zh, tP 2 2, (5, (.v (.sl (List.map GClause.c (vb ++ [u0p]))), [(0, .app 43)])), tI 6 (wr.i64 (u6 + 1))], [bC 2 (GDb.q vl)], []⟩ ?_
          exact ⟨_, Nat.lt_succ_self _, _, _, rfl, h8⟩
        · refine Wc.cF h12 ?_
          refine Wc.fx [] ⟨[tS 1 zh, tP 2 2, (5, (.v (.sl (List.map GClause.c vb)), [(0, .app 43)])), tI 6 u6], [bC 2 (GDb.q vl)], []⟩ ?_
          refine Wc.skip ?_
          refine Wc.r0 ⟨[tS 1 zh, tP 2 2, (5, (.v (.sl (List.map GClause.c vb)), [(0, .app 43)])), tI 6 (wr.i64 (u6 + 1))], [bC 2 (GDb.q vl)], []⟩ ?_
          exact ⟨_, Nat.lt_succ_self _, _, _, rfl, h8⟩
      · refine Wc.cF h9 ?_
        refine Wc.fx [] ⟨[(5, (.v (.sl (List.map GClause.c vb)), [(0, .app 43)]))], [], []⟩ ?_
        refine Wc.exit ?_
        obtain rfl := Option.some.inj h8
        exact ⟨_, rfl, rfl⟩
  · rintro st ⟨u14, rfl, rfl⟩
    apply Wc.seq
    refine Wc.r1 [{ tk := [5] }, { tk := [32] }] ⟨[(4, (.v (.sl (List.map GClause.c u14)), [(0, .app 43)]))], [], []⟩ ?_
    obtain rfl := Option.some.inj h; exact Wc.ret dn

def pspec_l34Clauses_L1 (k : Nat) (u02 : List GClause) : Nat → (List GClause) → Int → Option (Out (List GClause) (List GClause))
  | 0, _, _ => none
  | m + 1, zs, u0 =>
    if (decide (u0 < (u02.length : Int))) = true then
      (at' u02 u0).bind fun u3z =>
      (pspec_l34Clause k u3z).bind fun u17 =>
      if zs.length + [u17].length ≤ 1073741824 then
        pspec_l34Clauses_L1 k u02 m (zs ++ [u17]) (wr.i64 (u0 + 1))
      else none
    else
      some (.done zs)
def pspec_l34Clauses (k : Nat) (u02 : List GClause) : Option (List GClause) :=
  (pspec_l34Clauses_L1 k u02 k [] 0).bind fun out1 => match out1 with
  | .ret r => some r
  | .done vb =>
    some vb
theorem cspec_l34Clauses {k : Nat} {u02 : List GClause} {r : (List GClause)} (h : pspec_l34Clauses k u02 = some r) : FnO Tryz.prog 23 [.v (.sl (List.map GClause.c u02)) []] (.v (.sl (List.map GClause.c r)) [(0, .app 43)]) [] := by
  refine FnO.o2 Tryz.func23 (rfl : Tryz.f23.body = some _) ?_
  intro w0 X0 Fin pv0 pb gt
  unfold pspec_l34Clauses at h
  apply Wc.seq
  refine Wc.r0 ⟨[tV 0 (.sl (List.map GClause.c u02))], [], []⟩ ?_
  apply Wc.seq
  refine Wc.r2 [{ c := some (List.map GClause.c []) }, { tk := [5] }] ⟨[tV 0 (.sl (List.map GClause.c u02)), (3, (.v (.sl (List.map GClause.c [])), [(0, .app 43)]))], [], []⟩ (.cons (cl_nil GClause.c) .nil) ?_
  apply Wc.seq
  apply Wc.seq
  refine Wc.r0 ⟨[tV 0 (.sl (List.map GClause.c u02)), (3, (.v (.sl (List.map GClause.c [])), [(0, .app 43)])), tI 4 0], [], []⟩ ?_
  obtain ⟨out1, h7, h⟩ := obind h
  refine Wc.lastJ (fun st => ∃ (vb : List GClause), out1 = .done vb ∧ st = ⟨[(3, (.v (.sl (List.map GClause.c vb)), [(0, .app 43)]))], [], []⟩) ?_ ?_
  · refine Wc.block ?_
    refine Wc.loop (fun m st => ∃ (zs : List GClause) (u0 : Int), st = ⟨[tV 0 (.sl (List.map GClause.c u02)), (3, (.v (.sl (List.map GClause.c zs)), [(0, .app 43)])), tI 4 u0], [], []⟩ ∧ pspec_l34Clauses_L1 k u02 m zs u0 = some out1) ?_ k ⟨_, _, rfl, h7⟩
    rintro m st ⟨zs, u0, rfl, h7⟩
    cases m with
    | zero => exact (onone h7).elim
    | succ m =>
      apply Wc.seq
      apply Wc.seq
      refine Wc.r2 [{}, {}, { v := some (aI (u02.length : Int)) }] ⟨[tV 0 (.sl (List.map GClause.c u02)), (3, (.v (.sl (List.map GClause.c zs)), [(0, .app 43)])), tI 4 u0, tB 9 (decide (u0 < (u02.length : Int)))], [], []⟩ (.cons (len_obl GClause.c u02) .nil) ?_
      rcases oif h7 with ⟨h8, h7⟩ | ⟨h8, h7⟩
      · refine Wc.cT h8 ?_
        refine Wc.fx [] ⟨[tV 0 (.sl (List.map GClause.c u02)), (3, (.v (.sl (List.map GClause.c zs)), [(0, .app 43)])), tI 4 u0], [], []⟩ ?_
        refine Wc.skip ?_
        apply Wc.seq
        refine Wc.block ?_
        obtain ⟨u3z, h9, h7⟩ := obind h7
        obtain ⟨u17, h10, h7⟩ := obind h7
        obtain ⟨h11, h7⟩ := oguard h7
        refine Wc.r2 [{ tk := [3] }, {}, {}, { v := some (.vptr (GClause.q u3z)) }, {}, { r := some (.v (.agg (GClause.q u17)) [(3, .app 41), (7, .app 41)]) }, { c := some (List.map GClause.c [u17]) }, { c := some (List.map GClause.c (zs ++ [u17])), tk := [12] }, { tk := [19] }] ⟨[tV 0 (.sl (List.map GClause.c u02)), (3, (.v (.sl (List.map GClause.c (zs ++ [u17]))), [(0, .app 43)])), tI 4 u0], [], []⟩ (.cons (at_obl (c := GClause.c) (GClause.c_eq u3z) GClause.c_len h9) (.cons (len_ok 9 (GClause.q u3z)) (.cons (cspec_l34Clause h10) (.cons (cl_cons (c := GClause.c) (x := u17) (GClause.c_eq u17) (cl_nil GClause.c)) (.cons (app_re2 GClause.c zs [u17]) (.cons (app_leaf (c := GClause.c) (ys := [u17]) GClause.c_leaf) (.cons (app_obl2 (c := GClause.c) (xs := zs) (ys := [u17]) GClause.c_len h11) .nil))))))) ?_
        refine Wc.r0 ⟨[tV 0 (.sl (List.map GClause.c u02)), (3, (.v (.sl (List.map GClause.c (zs ++ [u17]))), [(0, .app 43)])), tI 4 (wr.i64 (u0 + 1))], [], []⟩ ?_
        exact ⟨_, Nat.lt_succ_self _, _, _, rfl, h7⟩
      · refine Wc.cF h8 ?_
        refine Wc.fx [] ⟨[(3, (.v (.sl (List.map GClause.c zs)), [(0, .app 43)]))], [], []⟩ ?_
        refine Wc.exit ?_
        obtain rfl := Option.some.inj h7
        exact ⟨_, rfl, rfl⟩
  · rintro st ⟨vb, rfl, rfl⟩
    apply Wc.seq
    refine Wc.r1 [{ tk := [3] }, { tk := [20] }] ⟨[(2, (.v (.sl (List.map GClause.c vb)), [(0, .app 43)]))], [], []⟩ ?_
    obtain rfl := Option.some.inj h; exact Wc.ret dn

def pspec_l03Two (k : Nat) (vh : ByteArray) (uy : GTerm) (u0f : GTerm) : Option GTerm :=
  some (GTerm.mk 4 vh 0 [uy, u0f])
theorem cspec_l03Two {k : Nat} {vh : ByteArray} {uy : GTerm} {u0f : GTerm} {r : GTerm} (h : pspec_l03Two k vh uy u0f = some r) : FnO Tryz.prog 67 [.v (.str vh) [], .v (.agg (GTerm.q uy)) [], .v (.agg (GTerm.q u0f)) []] (.v (.agg (GTerm.q r)) [(3, .app 41)]) [] := by
  refine FnO.o2 Tryz.func67 (rfl : Tryz.f67.body = some _) ?_
  intro w0 X0 Fin pv0 pb gt
  unfold pspec_l03Two at h
  apply Wc.seq
  refine Wc.r0 ⟨[tS 0 vh, tP 4 4, tP 5 5, tP 6 6], [bC 4 (GTerm.q uy), bC 5 (GTerm.q u0f), (6, .cells GTerm.z [(3, .app 41)])], []⟩ ?_
  apply Wc.seq
  refine Wc.r2 [{}, {}, {}, { c := some (List.map GTerm.c [uy, u0f]) }, { tk := [10] }, { tk := [11] }] ⟨[tP 6 6], [(6, .cells [aI 4, .str vh, aI 0, .sl (List.map GTerm.c [uy, u0f])] [(3, .app 41)])], []⟩ (.cons (cl_cons (c := GTerm.c) (x := uy) (GTerm.c_eq uy) (cl_cons (c := GTerm.c) (x := u0f) (GTerm.c_eq u0f) (cl_nil GTerm.c))) .nil) ?_
  obtain rfl := Option.some.inj h; exact Wc.ret dn

def pspec_l08ClauseTermRaw (k : Nat) (u3e : GClause) : Option GTerm :=
  (pspec_l03Two k (bs [58, 45]) u3e.gHead u3e.gBody).bind fun v8 =>
  some v8
theorem cspec_l08ClauseTermRaw {k : Nat} {u3e : GClause} {r : GTerm} (h : pspec_l08ClauseTermRaw k u3e = some r) : FnO Tryz.prog 42 [.v (.agg (GClause.q u3e)) []] (.v (.agg (GTerm.q r)) [(3, .app 41)]) [] := by
  refine FnO.o2 Tryz.func42 (rfl : Tryz.f42.body = some _) ?_
  intro w0 X0 Fin pv0 pb gt
  unfold pspec_l08ClauseTermRaw at h
  apply Wc.seq
  refine Wc.r0 ⟨[tP 1 1, tP 2 2], [bC 1 (GClause.q u3e), (2, .cells GTerm.z [(3, .app 41)])], []⟩ ?_
  apply Wc.seq
  obtain ⟨v8, h2, h⟩ := obind h
  refine Wc.r2 [{}, {}, {}, {}, { r := some (.v (.agg (GTerm.q v8)) [(3, .app 41)]) }, { tk := [7] }] ⟨[tP 2 2], [(2, .cells (GTerm.q v8) [(3, .app 41)])], []⟩ (.cons (cspec_l03Two h2) .nil) ?_
  obtain rfl := Option.some.inj h; exact Wc.ret dn

def plaws_sameTexts_L1 (k : Nat) (zi : List ByteArray) (zu : List ByteArray) : Nat → Int → Option (Out Bool Unit)
  | 0, _ => none
  | m + 1, u5 =>
    if (decide (u5 < (zi.length : Int))) = true then
      (at' zi u5).bind fun vw =>
      (at' zu u5).bind fun uv =>
      if (!(sEq vw uv)) = true then
        some (.ret false)
      else
        plaws_sameTexts_L1 k zi zu m (wr.i64 (u5 + 1))
    else
      some (.done ())
def plaws_sameTexts (k : Nat) (zi : List ByteArray) (zu : List ByteArray) : Option Bool :=
  if ((zi.length : Int) != (zu.length : Int)) = true then
    some false
  else
    (plaws_sameTexts_L1 k zi zu k 0).bind fun out1 => match out1 with
    | .ret r => some r
    | .done () =>
      some true
theorem claws_sameTexts {k : Nat} {zi : List ByteArray} {zu : List ByteArray} {r : Bool} (h : plaws_sameTexts k zi zu = some r) : FnO Tryz.prog 24 [.v (.sl (List.map cS zi)) [], .v (.sl (List.map cS zu)) []] (.v (.bool r) []) [] := by
  refine FnO.o2 Tryz.func24 (rfl : Tryz.f24.body = some _) ?_
  intro w0 X0 Fin pv0 pb gt
  unfold plaws_sameTexts at h
  apply Wc.seq
  refine Wc.r0 ⟨[tV 0 (.sl (List.map cS zi)), tV 1 (.sl (List.map cS zu))], [], []⟩ ?_
  apply Wc.seq
  apply Wc.seq
  refine Wc.r2 [{}, { v := some (aI (zi.length : Int)) }, {}, { v := some (aI (zu.length : Int)) }] ⟨[tV 0 (.sl (List.map cS zi)), tV 1 (.sl (List.map cS zu)), tB 10 ((zi.length : Int) != (zu.length : Int))], [], []⟩ (.cons (len_obl cS zi) (.cons (len_obl cS zu) .nil)) ?_
  rcases oif h with ⟨h2, h⟩ | ⟨h2, h⟩
  · refine Wc.cT h2 ?_
    apply Wc.seq
    refine Wc.r0 ⟨[tB 4 false], [], []⟩ ?_
    obtain rfl := Option.some.inj h; exact Wc.ret dn
  · refine Wc.cF h2 ?_
    refine Wc.fx [] ⟨[tV 0 (.sl (List.map cS zi)), tV 1 (.sl (List.map cS zu))], [], []⟩ ?_
    refine Wc.skip ?_
    apply Wc.seq
    apply Wc.seq
    refine Wc.r0 ⟨[tV 0 (.sl (List.map cS zi)), tV 1 (.sl (List.map cS zu)), tI 5 0], [], []⟩ ?_
    obtain ⟨out1, h3, h⟩ := obind h
    refine Wc.lastJ (fun st => out1 = .done () ∧ st = ⟨[], [], []⟩) ?_ ?_
    · refine Wc.block ?_
      refine Wc.loop (fun m st => ∃ (u5 : Int), st = ⟨[tV 0 (.sl (List.map cS zi)), tV 1 (.sl (List.map cS zu)), tI 5 u5], [], []⟩ ∧ plaws_sameTexts_L1 k zi zu m u5 = some out1) ?_ k ⟨_, rfl, h3⟩
      rintro m st ⟨u5, rfl, h3⟩
      cases m with
      | zero => exact (onone h3).elim
      | succ m =>
        apply Wc.seq
        apply Wc.seq
        refine Wc.r2 [{}, {}, { v := some (aI (zi.length : Int)) }] ⟨[tV 0 (.sl (List.map cS zi)), tV 1 (.sl (List.map cS zu)), tI 5 u5, tB 14 (decide (u5 < (zi.length : Int)))], [], []⟩ (.cons (len_obl cS zi) .nil) ?_
        rcases oif h3 with ⟨h4, h3⟩ | ⟨h4, h3⟩
        · refine Wc.cT h4 ?_
          refine Wc.fx [] ⟨[tV 0 (.sl (List.map cS zi)), tV 1 (.sl (List.map cS zu)), tI 5 u5], [], []⟩ ?_
          refine Wc.skip ?_
          apply Wc.seq
          refine Wc.block ?_
          apply Wc.seq
          obtain ⟨vw, h5, h3⟩ := obind h3
          obtain ⟨uv, h6, h3⟩ := obind h3
          refine Wc.draw hmix [{}, {}, { v := some (.vptr [.str vw]) }, {}, {}, {}, { v := some (.vptr [.str uv]) }] [] [0, 1, 5, 25] [] [] ⟨[tV 0 (.sl (List.map cS zi)), tV 1 (.sl (List.map cS zu)), tI 5 u5, tB 25 (!(sEq vw uv))], [], []⟩ _ (by kernel_rfl) (fun X => by kernel_rfl) (.cons (at_obl (c := cS) rfl cS_len h5) (.cons (len_ok 1 [.str vw]) (.cons (at_obl (c := cS) rfl cS_len h6) (.cons (len_ok 1 [.str uv]) .nil)))) ?_
          rcases oif h3 with ⟨h7, h3⟩ | ⟨h7, h3⟩
          · refine Wc.cT h7 ?_
            apply Wc.seq
            refine Wc.r0 ⟨[tB 4 false], [], []⟩ ?_
            refine Wc.ret ?_
            obtain rfl := Option.some.inj h3
            obtain rfl := Option.some.inj h
            exact ⟨.inl rfl, by kernel_rfl, by kernel_rfl⟩
          · refine Wc.cF h7 ?_
            refine Wc.fx [] ⟨[tV 0 (.sl (List.map cS zi)), tV 1 (.sl (List.map cS zu)), tI 5 u5], [], []⟩ ?_
            refine Wc.skip ?_
            refine Wc.r0 ⟨[tV 0 (.sl (List.map cS zi)), tV 1 (.sl (List.map cS zu)), tI 5 (wr.i64 (u5 + 1))], [], []⟩ ?_
            exact ⟨_, Nat.lt_succ_self _, _, rfl, h3⟩
        · refine Wc.cF h4 ?_
          refine Wc.fx [] ⟨[], [], []⟩ ?_
          refine Wc.exit ?_
          obtain rfl := Option.some.inj h3
          exact ⟨rfl, rfl⟩
    · rintro st ⟨rfl, rfl⟩
      apply Wc.seq
      refine Wc.r0 ⟨[tB 4 true], [], []⟩ ?_
      obtain rfl := Option.some.inj h; exact Wc.ret dn

def pspec_ClauseTerm (k : Nat) (u40 : GClause) : Option GTerm :=
  (pspec_l08ClauseTermRaw k u40).bind fun ux =>
  (pspec_l34Term k ux).bind fun u1g =>
  some u1g
theorem cspec_ClauseTerm {k : Nat} {u40 : GClause} {r : GTerm} (h : pspec_ClauseTerm k u40 = some r) : FnO Tryz.prog 26 [.v (.agg (GClause.q u40)) []] (.v (.agg (GTerm.q r)) [(3, .app 41)]) [] := by
  refine FnO.o2 Tryz.func26 (rfl : Tryz.f26.body = some _) ?_
  intro w0 X0 Fin pv0 pb gt
  unfold pspec_ClauseTerm at h
  apply Wc.seq
  refine Wc.r0 ⟨[tP 1 1, tP 2 2], [bC 1 (GClause.q u40), (2, .cells GTerm.z [(3, .app 41)])], []⟩ ?_
  apply Wc.seq
  obtain ⟨ux, h8, h⟩ := obind h
  refine Wc.r2 [{}, { r := some (.v (.agg (GTerm.q ux)) [(3, .app 41)]) }, {}, { tk := [5] }] ⟨[tP 2 2, tP 3 3], [(2, .cells GTerm.z [(3, .app 41)]), (3, .cells (GTerm.q ux) [(3, .app 41)])], []⟩ (.cons (cspec_l08ClauseTermRaw h8) .nil) ?_
  apply Wc.seq
  obtain ⟨u1g, h9, h⟩ := obind h
  refine Wc.r2 [{}, { r := some (.v (.agg (GTerm.q u1g)) [(3, .app 41)]) }, { tk := [7] }] ⟨[tP 2 2], [(2, .cells (GTerm.q u1g) [(3, .app 41)])], []⟩ (.cons (cspec_l34Term h9) .nil) ?_
  obtain rfl := Option.some.inj h; exact Wc.ret dn

def pspec_SameTerm_L1 (k : Nat) (rspec_SameTerm : GTerm → GTerm → Option Bool) (u3 : GTerm) (v6 : GTerm) : Nat → Int → Option (Out Bool Unit)
  | 0, _ => none
  | m + 1, vd =>
    if (decide (vd < (u3.gKids.length : Int))) = true then
      (at' u3.gKids vd).bind fun zn =>
      (at' v6.gKids vd).bind fun u41 =>
      (rspec_SameTerm zn u41).bind fun zt =>
      if (!zt) = true then
        none
      else
        pspec_SameTerm_L1 k rspec_SameTerm u3 v6 m (wr.i64 (vd + 1))
    else
      some (.done ())
mutual
def pspec_SameTerm : Nat → GTerm → GTerm → Option Bool
  | 0, _, _ => none
  | k + 1, u3, v6 =>
    if (u3.gKind != v6.gKind) = true then
      none
    else
      if (!(sEq u3.gName v6.gName)) = true then
        none
      else
        if (u3.gNum != v6.gNum) = true then
          none
        else
          if ((u3.gKids.length : Int) != (v6.gKids.length : Int)) = true then
            none
          else
            (pspec_SameTerm_L1 k (pspec_SameTerm k) u3 v6 k 0).bind fun out1 => match out1 with
            | .ret r => some r
            | .done () =>
              some true
end
theorem all_pspec_SameTerm : ∀ k : Nat, (∀ {u3 : GTerm} {v6 : GTerm} {r : Bool}, pspec_SameTerm k u3 v6 = some r → FnO Tryz.prog 25 [.v (.agg (GTerm.q u3)) [], .v (.agg (GTerm.q v6)) []] (.v (.bool r) []) []) := by
  intro k
  induction k with
  | zero =>
    · intro u3 v6 r h
      exact (onone (by rw [pspec_SameTerm] at h; exact h)).elim
  | succ k ih =>
    have ih_pspec_SameTerm := @ih
    · intro u3 v6 r h
      rw [pspec_SameTerm] at h
      refine FnO.o2 Tryz.func25 (rfl : Tryz.f25.body = some _) ?_
      intro w0 X0 Fin pv0 pb gt
      apply Wc.seq
      refine Wc.r0 ⟨[tP 2 2, tP 3 3], [bC 2 (GTerm.q u3), bC 3 (GTerm.q v6)], []⟩ ?_
      apply Wc.seq
      apply Wc.seq
      rcases oif h with ⟨h13, h⟩ | ⟨h13, h⟩
      · refine Wc.r2 [{}, {}, {}, {}, {}, { re := some (.bool true) }] ⟨[tP 2 2, tP 3 3, tB 33 true], [bC 2 (GTerm.q u3), bC 3 (GTerm.q v6)], []⟩ (.cons (congrArg AV.bool h13) .nil) ?_
        refine Wc.cT rfl ?_
        exact (onone h).elim
      · rcases oif h with ⟨h14, h⟩ | ⟨h14, h⟩
        · refine Wc.r2 [{}, {}, {}, {}, {}, { re := some (.bool false) }, {}, {}, {}, {}, {}, {}, { re := some (.bool true) }] ⟨[tP 2 2, tP 3 3, tB 33 true], [bC 2 (GTerm.q u3), bC 3 (GTerm.q v6)], []⟩ (.cons (congrArg AV.bool h13) (.cons (congrArg AV.bool h14) .nil)) ?_
          refine Wc.cT rfl ?_
          exact (onone h).elim
        · rcases oif h with ⟨h15, h⟩ | ⟨h15, h⟩
          · refine Wc.r2 [{}, {}, {}, {}, {}, { re := some (.bool false) }, {}, {}, {}, {}, {}, {}, { re := some (.bool false) }, {}, {}, {}, {}, {}, {}, { re := some (.bool true) }] ⟨[tP 2 2, tP 3 3, tB 33 true], [bC 2 (GTerm.q u3), bC 3 (GTerm.q v6)], []⟩ (.cons (congrArg AV.bool h13) (.cons (congrArg AV.bool h14) (.cons (congrArg AV.bool h15) .nil))) ?_
            refine Wc.cT rfl ?_
            exact (onone h).elim
          · refine Wc.r2 [{}, {}, {}, {}, {}, { re := some (.bool false) }, {}, {}, {}, {}, {}, {}, { re := some (.bool false) }, {}, {}, {}, {}, {}, {}, { re := some (.bool false) }, {}, {}, { v := some (aI (u3.gKids.length : Int)) }, {}, {}, { v := some (aI (v6.gKids.length : Int)) }] ⟨[tP 2 2, tP 3 3, tB 33 ((u3.gKids.length : Int) != (v6.gKids.length : Int))], [bC 2 (GTerm.q u3), bC 3 (GTerm.q v6)], []⟩ (.cons (congrArg AV.bool h13) (.cons (congrArg AV.bool h14) (.cons (congrArg AV.bool h15) (.cons (len_obl GTerm.c u3.gKids) (.cons (len_obl GTerm.c v6.gKids) .nil))))) ?_
            rcases oif h with ⟨h16, h⟩ | ⟨h16, h⟩
            · refine Wc.cT h16 ?_
              exact (onone h).elim
            · refine Wc.cF h16 ?_
              refine Wc.fx [] ⟨[tP 2 2, tP 3 3], [bC 2 (GTerm.q u3), bC 3 (GTerm.q v6)], []⟩ ?_
              refine Wc.skip ?_
              apply Wc.seq
              apply Wc.seq
              refine Wc.r0 ⟨[tP 2 2, tP 3 3, tI 5 0], [bC 2 (GTerm.q u3), bC 3 (GTerm.q v6)], []⟩ ?_
              obtain ⟨out1, h17, h⟩ := obind h
              refine Wc.lastJ (fun st => out1 = .done () ∧ st = ⟨[], [], []⟩) ?_ ?_
              · refine Wc.block ?_
                refine Wc.loop (fun m st => ∃ (vd : Int), st = ⟨[tP 2 2, tP 3 3, tI 5 vd], [bC 2 (GTerm.q u3), bC 3 (GTerm.q v6)], []⟩ ∧ pspec_SameTerm_L1 k (pspec_SameTerm k) u3 v6 m vd = some out1) ?_ k ⟨_, rfl, h17⟩
                rintro m st ⟨vd, rfl, h17⟩
                cases m with
                | zero => exact (onone h17).elim
                | succ m =>
                  apply Wc.seq
                  apply Wc.seq
                  refine Wc.r2 [{}, {}, {}, { v := some (aI (u3.gKids.length : Int)) }] ⟨[tP 2 2, tP 3 3, tI 5 vd, tB 38 (decide (vd < (u3.gKids.length : Int)))], [bC 2 (GTerm.q u3), bC 3 (GTerm.q v6)], []⟩ (.cons (len_obl GTerm.c u3.gKids) .nil) ?_
                  rcases oif h17 with ⟨h18, h17⟩ | ⟨h18, h17⟩
                  · refine Wc.cT h18 ?_
                    refine Wc.fx [] ⟨[tP 2 2, tP 3 3, tI 5 vd], [bC 2 (GTerm.q u3), bC 3 (GTerm.q v6)], []⟩ ?_
                    refine Wc.skip ?_
                    apply Wc.seq
                    refine Wc.block ?_
                    apply Wc.seq
                    obtain ⟨zn, h19, h17⟩ := obind h17
                    obtain ⟨u41, h20, h17⟩ := obind h17
                    obtain ⟨zt, h21, h17⟩ := obind h17
                    refine Wc.draw hmix [{}, {}, {}, { v := some (.vptr (GTerm.q zn)) }, {}, {}, {}, {}, { v := some (.vptr (GTerm.q u41)) }, {}, { r := some (.v (.bool zt) []) }] [] [2, 3, 5, 52] [2, 3] [] ⟨[tP 2 2, tP 3 3, tI 5 vd, tB 52 (!zt)], [bC 2 (GTerm.q u3), bC 3 (GTerm.q v6)], []⟩ _ (by kernel_rfl) (fun X => by kernel_rfl) (.cons (at_obl (c := GTerm.c) (GTerm.c_eq zn) GTerm.c_len h19) (.cons (len_ok 4 (GTerm.q zn)) (.cons (at_obl (c := GTerm.c) (GTerm.c_eq u41) GTerm.c_len h20) (.cons (len_ok 4 (GTerm.q u41)) (.cons (ih_pspec_SameTerm h21) .nil))))) ?_
                    rcases oif h17 with ⟨h22, h17⟩ | ⟨h22, h17⟩
                    · refine Wc.cT h22 ?_
                      exact (onone h17).elim
                    · refine Wc.cF h22 ?_
                      refine Wc.fx [] ⟨[tP 2 2, tP 3 3, tI 5 vd], [bC 2 (GTerm.q u3), bC 3 (GTerm.q v6)], []⟩ ?_
                      refine Wc.skip ?_
                      refine Wc.r0 ⟨[tP 2 2, tP 3 3, tI 5 (wr.i64 (vd + 1))], [bC 2 (GTerm.q u3), bC 3 (GTerm.q v6)], []⟩ ?_
                      exact ⟨_, Nat.lt_succ_self _, _, rfl, h17⟩
                  · refine Wc.cF h18 ?_
                    refine Wc.fx [] ⟨[], [], []⟩ ?_
                    refine Wc.exit ?_
                    obtain rfl := Option.some.inj h17
                    exact ⟨rfl, rfl⟩
              · rintro st ⟨rfl, rfl⟩
                apply Wc.seq
                refine Wc.r0 ⟨[tB 4 true], [], []⟩ ?_
                obtain rfl := Option.some.inj h; exact Wc.ret dn
theorem cspec_SameTerm {k : Nat} {u3 : GTerm} {v6 : GTerm} {r : Bool} (h : pspec_SameTerm k u3 v6 = some r) : FnO Tryz.prog 25 [.v (.agg (GTerm.q u3)) [], .v (.agg (GTerm.q v6)) []] (.v (.bool r) []) [] := (all_pspec_SameTerm k) h

def plaws_big (k : Nat) (ve : List Int) : Option Bool :=
  some (decide ((ve.length : Int) > 1048576))
theorem claws_big {k : Nat} {ve : List Int} {r : Bool} (h : plaws_big k ve = some r) : FnO Tryz.prog 4 [.v (.sl (List.map cI.u8 ve)) []] (.v (.bool r) []) [] := by
  refine FnO.o2 Tryz.func4 (rfl : Tryz.f4.body = some _) ?_
  intro w0 X0 Fin pv0 pb gt
  unfold plaws_big at h
  apply Wc.seq
  refine Wc.r0 ⟨[tV 0 (.sl (List.map cI.u8 ve))], [], []⟩ ?_
  apply Wc.seq
  refine Wc.r2 [{}, { v := some (aI (ve.length : Int)) }] ⟨[tB 2 (decide ((ve.length : Int) > 1048576))], [], []⟩ (.cons (len_obl cI.u8 ve) .nil) ?_
  obtain rfl := Option.some.inj h; exact Wc.ret dn

def pspec_DrawFiles (k : Nat) (u42 : List Int) : Option (List GFile) :=
  (pspec_l01New k u42).bind fun u4s =>
  (pspec_l16Files k u4s).bind fun u43 =>
  some u43.2
theorem cspec_DrawFiles {k : Nat} {u42 : List Int} {r : (List GFile)} (h : pspec_DrawFiles k u42 = some r) : FnO Tryz.prog 5 [.v (.sl (List.map cI.u8 u42)) []] (.v (.sl (List.map GFile.c r)) []) [] := by
  refine FnO.o2 Tryz.func5 (rfl : Tryz.f5.body = some _) ?_
  intro w0 X0 Fin pv0 pb gt
  unfold pspec_DrawFiles at h
  apply Wc.seq
  refine Wc.r0 ⟨[tV 0 (.sl (List.map cI.u8 u42))], [], []⟩ ?_
  apply Wc.seq
  obtain ⟨u4s, h3, h⟩ := obind h
  obtain ⟨u43, h4, h⟩ := obind h
  refine Wc.r2 [{}, { r := some (.p (GL01Cur.q u4s) []) }, { r := some (.v (.sl (List.map GFile.c u43.2)) []), outs := [(0, .p (GL01Cur.q u43.1) [])] }] ⟨[tV 2 (.sl (List.map GFile.c u43.2))], [], []⟩ (.cons (cspec_l01New h3) (.cons (cspec_l16Files h4) .nil)) ?_
  obtain rfl := Option.some.inj h; exact Wc.ret dn

def pspec_DrawPlaces_L1 (k : Nat) : Nat → (List Int) → Int → GL01Cur → Option (Out (List Int) (List Int))
  | 0, _, _, _ => none
  | m + 1, u0q, uf, u0z =>
    if (decide (uf < 12)) = true then
      (pspec_l01Below k u0z 10000).bind fun zg =>
      if u0q.length + [zg.2].length ≤ 1073741824 then
        pspec_DrawPlaces_L1 k m (u0q ++ [zg.2]) (wr.i64 (uf + 1)) zg.1
      else none
    else
      some (.done u0q)
def pspec_DrawPlaces (k : Nat) (u44 : List Int) : Option (List Int) :=
  (pspec_l01New k u44).bind fun vy =>
  (pspec_l01Byte k vy).bind fun u30 =>
  (pspec_DrawPlaces_L1 k k [] 0 u30.1).bind fun out1 => match out1 with
  | .ret r => some r
  | .done u3f =>
    some u3f
theorem cspec_DrawPlaces {k : Nat} {u44 : List Int} {r : (List Int)} (h : pspec_DrawPlaces k u44 = some r) : FnO Tryz.prog 6 [.v (.sl (List.map cI.u8 u44)) []] (.v (.sl (List.map cI.i64 r)) [(0, .app 3)]) [] := by
  refine FnO.o2 Tryz.func6 (rfl : Tryz.f6.body = some _) ?_
  intro w0 X0 Fin pv0 pb gt
  unfold pspec_DrawPlaces at h
  apply Wc.seq
  refine Wc.r0 ⟨[tV 0 (.sl (List.map cI.u8 u44))], [], []⟩ ?_
  apply Wc.seq
  obtain ⟨vy, h10, h⟩ := obind h
  refine Wc.r2 [{}, { r := some (.p (GL01Cur.q vy) []) }] ⟨[tP 3 7], [bC 7 (GL01Cur.q vy)], []⟩ (.cons (cspec_l01New h10) .nil) ?_
  apply Wc.seq
  obtain ⟨u30, h11, h⟩ := obind h
  refine Wc.r2 [{}, { r := some (.v (aI u30.2) []), outs := [(0, .p (GL01Cur.q u30.1) [])] }] ⟨[tP 3 7], [bC 7 (GL01Cur.q u30.1)], []⟩ (.cons (cspec_l01Byte h11) .nil) ?_
  apply Wc.seq
  refine Wc.r2 [{ c := some (List.map cI.i64 []) }, { tk := [10] }] ⟨[tP 3 7, (4, (.v (.sl (List.map cI.i64 [])), [(0, .app 3)]))], [bC 7 (GL01Cur.q u30.1)], []⟩ (.cons (cl_nil cI.i64) .nil) ?_
  apply Wc.seq
  apply Wc.seq
  refine Wc.r0 ⟨[tP 3 7, (4, (.v (.sl (List.map cI.i64 [])), [(0, .app 3)])), tI 5 0], [bC 7 (GL01Cur.q u30.1)], []⟩ ?_
  obtain ⟨out1, h12, h⟩ := obind h
  refine Wc.lastJ (fun st => ∃ (u3f : List Int), out1 = .done u3f ∧ st = ⟨[(4, (.v (.sl (List.map cI.i64 u3f)), [(0, .app 3)]))], [], []⟩) ?_ ?_
  · refine Wc.block ?_
    refine Wc.loop (fun m st => ∃ (u0q : List Int) (uf : Int) (u0z : GL01Cur), st = ⟨[tP 3 7, (4, (.v (.sl (List.map cI.i64 u0q)), [(0, .app 3)])), tI 5 uf], [bC 7 (GL01Cur.q u0z)], []⟩ ∧ pspec_DrawPlaces_L1 k m u0q uf u0z = some out1) ?_ k ⟨_, _, _, rfl, h12⟩
    rintro m st ⟨u0q, uf, u0z, rfl, h12⟩
    cases m with
    | zero => exact (onone h12).elim
    | succ m =>
      apply Wc.seq
      apply Wc.seq
      refine Wc.r0 ⟨[tP 3 7, (4, (.v (.sl (List.map cI.i64 u0q)), [(0, .app 3)])), tI 5 uf, tB 12 (decide (uf < 12))], [bC 7 (GL01Cur.q u0z)], []⟩ ?_
      rcases oif h12 with ⟨h13, h12⟩ | ⟨h13, h12⟩
      · refine Wc.cT h13 ?_
        refine Wc.fx [] ⟨[tP 3 7, (4, (.v (.sl (List.map cI.i64 u0q)), [(0, .app 3)])), tI 5 uf], [bC 7 (GL01Cur.q u0z)], []⟩ ?_
        refine Wc.skip ?_
        apply Wc.seq
        refine Wc.block ?_
        obtain ⟨zg, h14, h12⟩ := obind h12
        obtain ⟨h15, h12⟩ := oguard h12
        refine Wc.r2 [{ tk := [4] }, {}, { r := some (.v (aI zg.2) []), outs := [(0, .p (GL01Cur.q zg.1) [])] }, { c := some (List.map cI.i64 [zg.2]) }, { c := some (List.map cI.i64 (u0q ++ [zg.2])), tk := [15] }, { tk := [19] }] ⟨[tP 3 7, (4, (.v (.sl (List.map cI.i64 (u0q ++ [zg.2]))), [(0, .app 3)])), tI 5 uf], [bC 7 (GL01Cur.q zg.1)], []⟩ (.cons (cspec_l01Below h14) (.cons (cl_cons (c := cI.i64) (x := zg.2) rfl (cl_nil cI.i64)) (.cons (app_re2 cI.i64 u0q [zg.2]) (.cons (app_leaf (c := cI.i64) (ys := [zg.2]) cI.i64_leaf) (.cons (app_obl2 (c := cI.i64) (xs := u0q) (ys := [zg.2]) cI.i64_len h15) .nil))))) ?_
        refine Wc.r0 ⟨[tP 3 7, (4, (.v (.sl (List.map cI.i64 (u0q ++ [zg.2]))), [(0, .app 3)])), tI 5 (wr.i64 (uf + 1))], [bC 7 (GL01Cur.q zg.1)], []⟩ ?_
        exact ⟨_, Nat.lt_succ_self _, _, _, _, rfl, h12⟩
      · refine Wc.cF h13 ?_
        refine Wc.fx [] ⟨[(4, (.v (.sl (List.map cI.i64 u0q)), [(0, .app 3)]))], [], []⟩ ?_
        refine Wc.exit ?_
        obtain rfl := Option.some.inj h12
        exact ⟨_, rfl, rfl⟩
  · rintro st ⟨u3f, rfl, rfl⟩
    apply Wc.seq
    refine Wc.r1 [{ tk := [4] }, { tk := [20] }] ⟨[(2, (.v (.sl (List.map cI.i64 u3f)), [(0, .app 3)]))], [], []⟩ ?_
    obtain rfl := Option.some.inj h; exact Wc.ret dn

def pimpl_Consult (k : Nat) (ze : GDb) (u2a : List GFile) (u0c : ByteArray) : Option GLoaded :=
  (pimpl_FileAt k u2a u0c).bind fun u21 =>
  if (!u21.2) = true then
    none
  else
    (pimpl_Wiped_d k ze u0c).bind fun u4m =>
    (pimpl_LoadText k (GLoaded.mk u4m 0 0 0 0) u2a u0c u21.1 0).bind fun u4n =>
    some u4n
theorem cimpl_Consult {k : Nat} {ze : GDb} {u2a : List GFile} {u0c : ByteArray} {r : GLoaded} (h : pimpl_Consult k ze u2a u0c = some r) : FnO Tryz.prog 9 [.v (.agg (GDb.q ze)) [], .v (.sl (List.map GFile.c u2a)) [], .v (.str u0c) []] (.v (.agg (GLoaded.q r)) []) [] := by
  refine FnO.o2 Tryz.func9 (rfl : Tryz.f9.body = some _) ?_
  intro w0 X0 Fin pv0 pb gt
  unfold pimpl_Consult at h
  apply Wc.seq
  refine Wc.r0 ⟨[tV 1 (.sl (List.map GFile.c u2a)), tS 2 u0c, tP 3 3, tP 6 6], [bC 3 (GDb.q ze), (6, .cells GLoaded.z [(0, .app 43), (1, .app 9)])], []⟩ ?_
  apply Wc.seq
  obtain ⟨u21, h16, h⟩ := obind h
  refine Wc.r2 [{}, {}, { r := some (.v (.tup [.str u21.1, .bool u21.2]) []) }] ⟨[tV 1 (.sl (List.map GFile.c u2a)), tS 2 u0c, tP 3 3, tP 6 6, tS 7 u21.1, tB 8 u21.2], [bC 3 (GDb.q ze), (6, .cells GLoaded.z [(0, .app 43), (1, .app 9)])], []⟩ (.cons (cimpl_FileAt h16) .nil) ?_
  apply Wc.seq
  apply Wc.seq
  refine Wc.r0 ⟨[tV 1 (.sl (List.map GFile.c u2a)), tS 2 u0c, tP 3 3, tP 6 6, tS 7 u21.1, tB 16 (!u21.2)], [bC 3 (GDb.q ze), (6, .cells GLoaded.z [(0, .app 43), (1, .app 9)])], []⟩ ?_
  rcases oif h with ⟨h17, h⟩ | ⟨h17, h⟩
  · refine Wc.cT h17 ?_
    exact (onone h).elim
  · refine Wc.cF h17 ?_
    refine Wc.fx [] ⟨[tV 1 (.sl (List.map GFile.c u2a)), tS 2 u0c, tP 3 3, tP 6 6, tS 7 u21.1], [bC 3 (GDb.q ze), (6, .cells GLoaded.z [(0, .app 43), (1, .app 9)])], []⟩ ?_
    refine Wc.skip ?_
    apply Wc.seq
    obtain ⟨u4m, h18, h⟩ := obind h
    obtain ⟨u4n, h19, h⟩ := obind h
    refine Wc.r2 [{}, {}, { r := some (.v (.agg [.slx, .slx]) [(0, .ex 43 true (List.map GClause.c u4m.gClauses)), (1, .ex 9 true (List.map cS u4m.gOpen))]) }, { tk := [22] }, { fx := [.sh (.t 23 0), .sh (.t 23 1)] }, {}, {}, { r := some (.v (.agg (GLoaded.q u4n)) []) }] ⟨[tP 6 6], [bC 6 (GLoaded.q u4n)], []⟩ (.cons (cimpl_Wiped_d h18) (.cons (cimpl_LoadText h19) .nil)) ?_
    obtain rfl := Option.some.inj h; exact Wc.ret dn

def pspec_ClausesOf (k : Nat) (u45 : GDb) (u46 : ByteArray) : Option (List GClause) :=
  (pspec_l08ClausesOfRaw k u45 u46).bind fun u4o =>
  (pspec_l34Clauses k u4o).bind fun u4p =>
  some u4p
theorem cspec_ClausesOf {k : Nat} {u45 : GDb} {u46 : ByteArray} {r : (List GClause)} (h : pspec_ClausesOf k u45 u46 = some r) : FnO Tryz.prog 10 [.v (.agg (GDb.q u45)) [], .v (.str u46) []] (.v (.sl (List.map GClause.c r)) [(0, .app 43)]) [] := by
  refine FnO.o2 Tryz.func10 (rfl : Tryz.f10.body = some _) ?_
  intro w0 X0 Fin pv0 pb gt
  unfold pspec_ClausesOf at h
  apply Wc.seq
  refine Wc.r0 ⟨[tS 1 u46, tP 2 2], [bC 2 (GDb.q u45)], []⟩ ?_
  apply Wc.seq
  obtain ⟨u4o, h20, h⟩ := obind h
  refine Wc.r2 [{}, {}, { r := some (.v (.sl (List.map GClause.c u4o)) [(0, .app 43)]) }, { tk := [8] }] ⟨[(5, (.v (.sl (List.map GClause.c u4o)), [(0, .app 43)]))], [], []⟩ (.cons (cspec_l08ClausesOfRaw h20) .nil) ?_
  apply Wc.seq
  obtain ⟨u4p, h21, h⟩ := obind h
  refine Wc.r2 [{ tk := [5] }, { r := some (.v (.sl (List.map GClause.c u4p)) [(0, .app 43)]) }, { tk := [10] }] ⟨[(4, (.v (.sl (List.map GClause.c u4p)), [(0, .app 43)]))], [], []⟩ (.cons (cspec_l34Clauses h21) .nil) ?_
  obtain rfl := Option.some.inj h; exact Wc.ret dn

def plaws_sameDb_L1 (k : Nat) (vc : GDb) (zf : GDb) : Nat → Int → Option (Out Bool Unit)
  | 0, _ => none
  | m + 1, v3 =>
    if (decide (v3 < (vc.gClauses.length : Int))) = true then
      (at' vc.gClauses v3).bind fun u2k =>
      (pspec_ClauseTerm k u2k).bind fun u20 =>
      (at' zf.gClauses v3).bind fun u2l =>
      (pspec_ClauseTerm k u2l).bind fun u4q =>
      (pspec_SameTerm k u20 u4q).bind fun u0j =>
      if (!u0j) = true then
        some (.ret false)
      else
        (at' vc.gClauses v3).bind fun u3g =>
        (at' zf.gClauses v3).bind fun u3h =>
        if (!(sEq u3g.gFile u3h.gFile)) = true then
          some (.ret false)
        else
          plaws_sameDb_L1 k vc zf m (wr.i64 (v3 + 1))
    else
      some (.done ())
def plaws_sameDb (k : Nat) (vc : GDb) (zf : GDb) : Option Bool :=
  if ((vc.gClauses.length : Int) != (zf.gClauses.length : Int)) = true then
    some false
  else
    (plaws_sameTexts k vc.gOpen zf.gOpen).bind fun u06 =>
    if (!u06) = true then
      some false
    else
      (plaws_sameDb_L1 k vc zf k 0).bind fun out1 => match out1 with
      | .ret r => some r
      | .done () =>
        some true
set_option maxHeartbeats 4000000 in
theorem claws_sameDb {k : Nat} {vc : GDb} {zf : GDb} {r : Bool} (h : plaws_sameDb k vc zf = some r) : FnO Tryz.prog 11 [.v (.agg (GDb.q vc)) [], .v (.agg (GDb.q zf)) []] (.v (.bool r) []) [] := by
  refine FnO.o2 Tryz.func11 (rfl : Tryz.f11.body = some _) ?_
  intro w0 X0 Fin pv0 pb gt
  unfold plaws_sameDb at h
  apply Wc.seq
  refine Wc.r0 ⟨[tP 2 2, tP 3 3], [bC 2 (GDb.q vc), bC 3 (GDb.q zf)], []⟩ ?_
  apply Wc.seq
  apply Wc.seq
  rcases oif h with ⟨h28, h⟩ | ⟨h28, h⟩
  · refine Wc.r2 [{}, {}, { v := some (aI (vc.gClauses.length : Int)) }, {}, {}, { v := some (aI (zf.gClauses.length : Int)) }, {}, { re := some (.bool true) }] ⟨[tP 2 2, tP 3 3, tB 20 true], [bC 2 (GDb.q vc), bC 3 (GDb.q zf)], []⟩ (.cons (len_obl GClause.c vc.gClauses) (.cons (len_obl GClause.c zf.gClauses) (.cons (congrArg AV.bool h28) .nil))) ?_
    refine Wc.cT rfl ?_
    apply Wc.seq
    refine Wc.r0 ⟨[tB 4 false], [], []⟩ ?_
    obtain rfl := Option.some.inj h; exact Wc.ret dn
  · obtain ⟨u06, h29, h⟩ := obind h
    refine Wc.r2 [{}, {}, { v := some (aI (vc.gClauses.length : Int)) }, {}, {}, { v := some (aI (zf.gClauses.length : Int)) }, {}, { re := some (.bool false) }, {}, {}, {}, {}, { r := some (.v (.bool u06) []) }] ⟨[tP 2 2, tP 3 3, tB 20 (!u06)], [bC 2 (GDb.q vc), bC 3 (GDb.q zf)], []⟩ (.cons (len_obl GClause.c vc.gClauses) (.cons (len_obl GClause.c zf.gClauses) (.cons (congrArg AV.bool h28) (.cons (claws_sameTexts h29) .nil)))) ?_
    rcases oif h with ⟨h30, h⟩ | ⟨h30, h⟩
    · refine Wc.cT h30 ?_
      apply Wc.seq
      refine Wc.r0 ⟨[tB 4 false], [], []⟩ ?_
      obtain rfl := Option.some.inj h; exact Wc.ret dn
    · refine Wc.cF h30 ?_
      refine Wc.fx [] ⟨[tP 2 2, tP 3 3], [bC 2 (GDb.q vc), bC 3 (GDb.q zf)], []⟩ ?_
      refine Wc.skip ?_
      apply Wc.seq
      apply Wc.seq
      refine Wc.r0 ⟨[tP 2 2, tP 3 3, tI 5 0], [bC 2 (GDb.q vc), bC 3 (GDb.q zf)], []⟩ ?_
      obtain ⟨out1, h31, h⟩ := obind h
      refine Wc.lastJ (fun st => out1 = .done () ∧ st = ⟨[], [], []⟩) ?_ ?_
      · refine Wc.block ?_
        refine Wc.loop (fun m st => ∃ (v3 : Int), st = ⟨[tP 2 2, tP 3 3, tI 5 v3], [bC 2 (GDb.q vc), bC 3 (GDb.q zf)], []⟩ ∧ plaws_sameDb_L1 k vc zf m v3 = some out1) ?_ k ⟨_, rfl, h31⟩
        rintro m st ⟨v3, rfl, h31⟩
        cases m with
        | zero => exact (onone h31).elim
        | succ m =>
          apply Wc.seq
          apply Wc.seq
          refine Wc.r2 [{}, {}, {}, { v := some (aI (vc.gClauses.length : Int)) }] ⟨[tP 2 2, tP 3 3, tI 5 v3, tB 25 (decide (v3 < (vc.gClauses.length : Int)))], [bC 2 (GDb.q vc), bC 3 (GDb.q zf)], []⟩ (.cons (len_obl GClause.c vc.gClauses) .nil) ?_
          rcases oif h31 with ⟨h32, h31⟩ | ⟨h32, h31⟩
          · refine Wc.cT h32 ?_
            refine Wc.fx [] ⟨[tP 2 2, tP 3 3, tI 5 v3], [bC 2 (GDb.q vc), bC 3 (GDb.q zf)], []⟩ ?_
            refine Wc.skip ?_
            apply Wc.seq
            refine Wc.block ?_
            apply Wc.seq
            obtain ⟨u2k, h33, h31⟩ := obind h31
            obtain ⟨u20, h34, h31⟩ := obind h31
            obtain ⟨u2l, h35, h31⟩ := obind h31
            obtain ⟨u4q, h36, h31⟩ := obind h31
            obtain ⟨u0j, h37, h31⟩ := obind h31
            rcases oif h31 with ⟨h38, h31⟩ | ⟨h38, h31⟩
            · refine Wc.draw hmix [{}, {}, {}, { v := some (.vptr (GClause.q u2k)) }, {}, { r := some (.v (.agg (GTerm.q u20)) [(3, .app 41)]) }, {}, {}, {}, { v := some (.vptr (GClause.q u2l)) }, {}, { r := some (.v (.agg (GTerm.q u4q)) [(3, .app 41)]) }, { r := some (.v (.bool u0j) []) }, {}, { re := some (.bool true) }] [] [2, 3, 5, 56] [2, 3] [] ⟨[tP 2 2, tP 3 3, tI 5 v3, tB 56 true], [bC 2 (GDb.q vc), bC 3 (GDb.q zf)], []⟩ _ (by kernel_rfl) (fun X => by kernel_rfl) (.cons (at_obl (c := GClause.c) (GClause.c_eq u2k) GClause.c_len h33) (.cons (len_ok 9 (GClause.q u2k)) (.cons (cspec_ClauseTerm h34) (.cons (at_obl (c := GClause.c) (GClause.c_eq u2l) GClause.c_len h35) (.cons (len_ok 9 (GClause.q u2l)) (.cons (cspec_ClauseTerm h36) (.cons (cspec_SameTerm h37) (.cons (congrArg AV.bool h38) .nil)))))))) ?_
              refine Wc.cT rfl ?_
              apply Wc.seq
              refine Wc.r0 ⟨[tB 4 false], [], []⟩ ?_
              refine Wc.ret ?_
              obtain rfl := Option.some.inj h31
              obtain rfl := Option.some.inj h
              exact ⟨.inl rfl, by kernel_rfl, by kernel_rfl⟩
            · obtain ⟨u3g, h39, h31⟩ := obind h31
              obtain ⟨u3h, h40, h31⟩ := obind h31
              refine Wc.draw hmix [{}, {}, {}, { v := some (.vptr (GClause.q u2k)) }, {}, { r := some (.v (.agg (GTerm.q u20)) [(3, .app 41)]) }, {}, {}, {}, { v := some (.vptr (GClause.q u2l)) }, {}, { r := some (.v (.agg (GTerm.q u4q)) [(3, .app 41)]) }, { r := some (.v (.bool u0j) []) }, {}, { re := some (.bool false) }, {}, {}, {}, { v := some (.vptr (GClause.q u3g)) }, {}, {}, {}, {}, {}, { v := some (.vptr (GClause.q u3h)) }] [] [2, 3, 5, 56] [2, 3] [] ⟨[tP 2 2, tP 3 3, tI 5 v3, tB 56 (!(sEq u3g.gFile u3h.gFile))], [bC 2 (GDb.q vc), bC 3 (GDb.q zf)], []⟩ _ (by kernel_rfl) (fun X => by kernel_rfl) (.cons (at_obl (c := GClause.c) (GClause.c_eq u2k) GClause.c_len h33) (.cons (len_ok 9 (GClause.q u2k)) (.cons (cspec_ClauseTerm h34) (.cons (at_obl (c := GClause.c) (GClause.c_eq u2l) GClause.c_len h35) (.cons (len_ok 9 (GClause.q u2l)) (.cons (cspec_ClauseTerm h36) (.cons (cspec_SameTerm h37) (.cons (congrArg AV.bool h38) (.cons (at_obl (c := GClause.c) (GClause.c_eq u3g) GClause.c_len h39) (.cons (len_ok 1 [.str u3g.gFile]) (.cons (at_obl (c := GClause.c) (GClause.c_eq u3h) GClause.c_len h40) (.cons (len_ok 1 [.str u3h.gFile]) .nil)))))))))))) ?_
              rcases oif h31 with ⟨h41, h31⟩ | ⟨h41, h31⟩
              · refine Wc.cT h41 ?_
                apply Wc.seq
                refine Wc.r0 ⟨[tB 4 false], [], []⟩ ?_
                refine Wc.ret ?_
                obtain rfl := Option.some.inj h31
                obtain rfl := Option.some.inj h
                exact ⟨.inl rfl, by kernel_rfl, by kernel_rfl⟩
              · refine Wc.cF h41 ?_
                refine Wc.fx [] ⟨[tP 2 2, tP 3 3, tI 5 v3], [bC 2 (GDb.q vc), bC 3 (GDb.q zf)], []⟩ ?_
                refine Wc.skip ?_
                refine Wc.r0 ⟨[tP 2 2, tP 3 3, tI 5 (wr.i64 (v3 + 1))], [bC 2 (GDb.q vc), bC 3 (GDb.q zf)], []⟩ ?_
                exact ⟨_, Nat.lt_succ_self _, _, rfl, h31⟩
          · refine Wc.cF h32 ?_
            refine Wc.fx [] ⟨[], [], []⟩ ?_
            refine Wc.exit ?_
            obtain rfl := Option.some.inj h31
            exact ⟨rfl, rfl⟩
      · rintro st ⟨rfl, rfl⟩
        apply Wc.seq
        refine Wc.r0 ⟨[tB 4 true], [], []⟩ ?_
        obtain rfl := Option.some.inj h; exact Wc.ret dn

def plaws_FnLoadsAgain_L1 (k : Nat) (u5 : Int) (vm : (List Int)) : Nat → ByteArray → Int → Option (Out Bool ByteArray)
  | 0, _, _ => none
  | m + 1, vw, vj =>
    if (decide (vj < (wr.i64 (1 + (Int.tmod u5 5))))) = true then
      if sumOk vw (bs [102, 97, 99, 116, 40]) then
        (at' vm (wr.i64 (vj + 1))).bind fun u07 =>
        if (100 : Int) ≠ 0 then
          (pspec_Decimal k (Int.tmod u07 100)).bind fun vo =>
          if sumOk (vw ++ (bs [102, 97, 99, 116, 40])) vo then
            if sumOk ((vw ++ (bs [102, 97, 99, 116, 40])) ++ vo) (bs [41, 46, 10]) then
              plaws_FnLoadsAgain_L1 k u5 vm m (((vw ++ (bs [102, 97, 99, 116, 40])) ++ vo) ++ (bs [41, 46, 10])) (wr.i64 (vj + 1))
            else none
          else none
        else none
      else none
    else
      some (.done vw)
def plaws_FnLoadsAgain_L2 (k : Nat) (u5 : Int) (zz : (List GClause)) (vm : (List Int)) : Nat → Int → Option (Out Bool Unit)
  | 0, _ => none
  | m + 1, uc =>
    if (decide (uc < (wr.i64 (1 + (Int.tmod u5 5))))) = true then
      if ((zz.length : Int) != (wr.i64 (1 + (Int.tmod u5 5)))) = true then
        some (.ret false)
      else
        (at' zz uc).bind fun zp =>
        (at' zp.gHead.gKids 0).bind fun zy =>
        (at' vm (wr.i64 (uc + 1))).bind fun vt =>
        if (100 : Int) ≠ 0 then
          if (zy.gNum != (Int.tmod vt 100)) = true then
            some (.ret false)
          else
            plaws_FnLoadsAgain_L2 k u5 zz vm m (wr.i64 (uc + 1))
        else none
    else
      some (.done ())
def plaws_FnLoadsAgain (k : Nat) (u22 : List Int) : Option Bool :=
  (plaws_big k u22).bind fun u4r =>
  if u4r = true then
    some true
  else
    (pspec_DrawFiles k u22).bind fun u0r =>
    (pspec_DrawPlaces k u22).bind fun vm =>
    (at' vm 0).bind fun u5 =>
    if (5 : Int) ≠ 0 then
      (plaws_FnLoadsAgain_L1 k u5 vm k (bs []) 0).bind fun out1 => match out1 with
      | .ret r => some r
      | .done ub =>
        (pspec_Stored k u0r (bs [102, 97, 99, 116, 115]) ub).bind fun zv =>
        (pimpl_Consult k (GDb.mk [] []) zv.1 (bs [102, 97, 99, 116, 115])).bind fun zj =>
        (pimpl_Consult k zj.gDb zv.1 (bs [102, 97, 99, 116, 115])).bind fun u0s =>
        (pspec_ClausesOf k zj.gDb (bs [102, 97, 99, 116, 47, 49])).bind fun zz =>
        (plaws_FnLoadsAgain_L2 k u5 zz vm k 0).bind fun out2 => match out2 with
        | .ret r => some r
        | .done () =>
          if zv.2 = true then
            (plaws_sameDb k zj.gDb u0s.gDb).bind fun z8 =>
            if z8 = true then
              if (zj.gBad == 0) = true then
                if (zj.gRefused == 0) = true then
                  if ((zj.gDb.gClauses.length : Int) == (wr.i64 (1 + (Int.tmod u5 5)))) = true then
                    (at' zj.gDb.gClauses 0).bind fun u3i =>
                    some (sEq u3i.gFile (bs [102, 97, 99, 116, 115]))
                  else
                    some false
                else
                  some false
              else
                some false
            else
              some false
          else
            some false
    else none
set_option maxHeartbeats 4000000 in
theorem claws_FnLoadsAgain {k : Nat} {u22 : List Int} {r : Bool} (h : plaws_FnLoadsAgain k u22 = some r) : FnO Tryz.prog 3 [.v (.sl (List.map cI.u8 u22)) []] (.v (.bool r) []) [] := by
  refine FnO.o2 Tryz.func3 (rfl : Tryz.f3.body = some _) ?_
  intro w0 X0 Fin pv0 pb gt
  unfold plaws_FnLoadsAgain at h
  apply Wc.seq
  refine Wc.r0 ⟨[tV 0 (.sl (List.map cI.u8 u22))], [], []⟩ ?_
  apply Wc.seq
  apply Wc.seq
  obtain ⟨u4r, h1, h⟩ := obind h
  refine Wc.r2 [{}, { r := some (.v (.bool u4r) []) }] ⟨[tV 0 (.sl (List.map cI.u8 u22)), tB 15 u4r], [], []⟩ (.cons (claws_big h1) .nil) ?_
  rcases oif h with ⟨h2, h⟩ | ⟨h2, h⟩
  · refine Wc.cT h2 ?_
    apply Wc.seq
    refine Wc.r0 ⟨[tB 2 true], [], []⟩ ?_
    obtain rfl := Option.some.inj h; exact Wc.ret dn
  · refine Wc.cF h2 ?_
    refine Wc.fx [] ⟨[tV 0 (.sl (List.map cI.u8 u22))], [], []⟩ ?_
    refine Wc.skip ?_
    apply Wc.seq
    obtain ⟨u0r, h3, h⟩ := obind h
    refine Wc.r2 [{}, { r := some (.v (.sl (List.map GFile.c u0r)) []) }] ⟨[tV 0 (.sl (List.map cI.u8 u22)), tV 3 (.sl (List.map GFile.c u0r))], [], []⟩ (.cons (cspec_DrawFiles h3) .nil) ?_
    apply Wc.seq
    obtain ⟨vm, h4, h⟩ := obind h
    refine Wc.r2 [{}, { r := some (.v (.sl (List.map cI.i64 vm)) [(0, .app 3)]) }, { tk := [19] }] ⟨[tV 3 (.sl (List.map GFile.c u0r)), (4, (.v (.sl (List.map cI.i64 vm)), [(0, .app 3)]))], [], []⟩ (.cons (cspec_DrawPlaces h4) .nil) ?_
    apply Wc.seq
    obtain ⟨u5, h5, h⟩ := obind h
    obtain ⟨h6, h⟩ := oguard h
    refine Wc.r2 [{}, { v := some (.vptr [aI u5]) }] ⟨[tV 3 (.sl (List.map GFile.c u0r)), (4, (.v (.sl (List.map cI.i64 vm)), [(0, .app 3)])), tI 5 (wr.i64 (1 + (Int.tmod u5 5)))], [], []⟩ (.cons (at_obl (c := cI.i64) rfl cI.i64_len h5) (.cons (len_ok 1 [aI u5]) (.cons h6 .nil))) ?_
    apply Wc.seq
    refine Wc.r0 ⟨[tV 3 (.sl (List.map GFile.c u0r)), (4, (.v (.sl (List.map cI.i64 vm)), [(0, .app 3)])), tI 5 (wr.i64 (1 + (Int.tmod u5 5))), tS 6 (bs [])], [], []⟩ ?_
    apply Wc.seq
    apply Wc.seq
    refine Wc.r0 ⟨[tV 3 (.sl (List.map GFile.c u0r)), (4, (.v (.sl (List.map cI.i64 vm)), [(0, .app 3)])), tI 5 (wr.i64 (1 + (Int.tmod u5 5))), tS 6 (bs []), tI 7 0], [], []⟩ ?_
    obtain ⟨out1, h7, h⟩ := obind h
    refine Wc.lastJ (fun st => ∃ (ub : ByteArray), out1 = .done ub ∧ st = ⟨[tV 3 (.sl (List.map GFile.c u0r)), (4, (.v (.sl (List.map cI.i64 vm)), [(0, .app 3)])), tI 5 (wr.i64 (1 + (Int.tmod u5 5))), tS 6 ub], [], []⟩) ?_ ?_
    · refine Wc.block ?_
      refine Wc.loop (fun m st => ∃ (vw : ByteArray) (vj : Int), st = ⟨[tV 3 (.sl (List.map GFile.c u0r)), (4, (.v (.sl (List.map cI.i64 vm)), [(0, .app 3)])), tI 5 (wr.i64 (1 + (Int.tmod u5 5))), tS 6 vw, tI 7 vj], [], []⟩ ∧ plaws_FnLoadsAgain_L1 k u5 vm m vw vj = some out1) ?_ k ⟨_, _, rfl, h7⟩
      rintro m st ⟨vw, vj, rfl, h7⟩
      cases m with
      | zero => exact (onone h7).elim
      | succ m =>
        apply Wc.seq
        apply Wc.seq
        refine Wc.r0 ⟨[tV 3 (.sl (List.map GFile.c u0r)), (4, (.v (.sl (List.map cI.i64 vm)), [(0, .app 3)])), tI 5 (wr.i64 (1 + (Int.tmod u5 5))), tS 6 vw, tI 7 vj, tB 27 (decide (vj < (wr.i64 (1 + (Int.tmod u5 5)))))], [], []⟩ ?_
        rcases oif h7 with ⟨h8, h7⟩ | ⟨h8, h7⟩
        · refine Wc.cT h8 ?_
          refine Wc.fx [] ⟨[tV 3 (.sl (List.map GFile.c u0r)), (4, (.v (.sl (List.map cI.i64 vm)), [(0, .app 3)])), tI 5 (wr.i64 (1 + (Int.tmod u5 5))), tS 6 vw, tI 7 vj], [], []⟩ ?_
          refine Wc.skip ?_
          apply Wc.seq
          refine Wc.block ?_
          obtain ⟨h9, h7⟩ := oguard h7
          obtain ⟨u07, h10, h7⟩ := obind h7
          obtain ⟨h11, h7⟩ := oguard h7
          obtain ⟨vo, h12, h7⟩ := obind h7
          obtain ⟨h13, h7⟩ := oguard h7
          obtain ⟨h14, h7⟩ := oguard h7
          refine Wc.r2 [{}, {}, {}, {}, {}, { v := some (.vptr [aI u07]) }, {}, {}, { r := some (.v (.str vo) []) }] ⟨[tV 3 (.sl (List.map GFile.c u0r)), (4, (.v (.sl (List.map cI.i64 vm)), [(0, .app 3)])), tI 5 (wr.i64 (1 + (Int.tmod u5 5))), tS 6 (((vw ++ (bs [102, 97, 99, 116, 40])) ++ vo) ++ (bs [41, 46, 10])), tI 7 vj], [], []⟩ (.cons h9 (.cons (at_obl (c := cI.i64) rfl cI.i64_len h10) (.cons (len_ok 1 [aI u07]) (.cons h11 (.cons (cspec_Decimal h12) (.cons h13 (.cons h14 .nil))))))) ?_
          refine Wc.r0 ⟨[tV 3 (.sl (List.map GFile.c u0r)), (4, (.v (.sl (List.map cI.i64 vm)), [(0, .app 3)])), tI 5 (wr.i64 (1 + (Int.tmod u5 5))), tS 6 (((vw ++ (bs [102, 97, 99, 116, 40])) ++ vo) ++ (bs [41, 46, 10])), tI 7 (wr.i64 (vj + 1))], [], []⟩ ?_
          exact ⟨_, Nat.lt_succ_self _, _, _, rfl, h7⟩
        · refine Wc.cF h8 ?_
          refine Wc.fx [] ⟨[tV 3 (.sl (List.map GFile.c u0r)), (4, (.v (.sl (List.map cI.i64 vm)), [(0, .app 3)])), tI 5 (wr.i64 (1 + (Int.tmod u5 5))), tS 6 vw], [], []⟩ ?_
          refine Wc.exit ?_
          obtain rfl := Option.some.inj h7
          exact ⟨_, rfl, rfl⟩
    · rintro st ⟨ub, rfl, rfl⟩
      apply Wc.seq
      obtain ⟨zv, h15, h⟩ := obind h
      refine Wc.r2 [{}, {}, { r := some (.v (.tup [.sl (List.map GFile.c zv.1), .bool zv.2]) [(0, .app 52)]) }, { tk := [44] }, { tk := [41] }, {}, { tk := [45] }] ⟨[(4, (.v (.sl (List.map cI.i64 vm)), [(0, .app 3)])), tI 5 (wr.i64 (1 + (Int.tmod u5 5))), (8, (.v (.sl (List.map GFile.c zv.1)), [(0, .app 52)])), tB 9 zv.2], [], []⟩ (.cons (cspec_Stored h15) .nil) ?_
      apply Wc.seq
      obtain ⟨zj, h16, h⟩ := obind h
      refine Wc.r2 [{}, {}, { r := some (.v (.agg (GLoaded.q zj)) []) }] ⟨[(4, (.v (.sl (List.map cI.i64 vm)), [(0, .app 3)])), tI 5 (wr.i64 (1 + (Int.tmod u5 5))), (8, (.v (.sl (List.map GFile.c zv.1)), [(0, .app 52)])), tB 9 zv.2, tP 10 10], [bC 10 (GLoaded.q zj)], []⟩ (.cons (cimpl_Consult h16) .nil) ?_
      apply Wc.seq
      obtain ⟨u0s, h17, h⟩ := obind h
      refine Wc.r2 [{}, {}, { tk := [8] }, { r := some (.v (.agg (GLoaded.q u0s)) []) }] ⟨[(4, (.v (.sl (List.map cI.i64 vm)), [(0, .app 3)])), tI 5 (wr.i64 (1 + (Int.tmod u5 5))), tB 9 zv.2, tP 10 10, tP 11 11], [bC 10 (GLoaded.q zj), bC 11 (GLoaded.q u0s)], []⟩ (.cons (cimpl_Consult h17) .nil) ?_
      apply Wc.seq
      obtain ⟨zz, h18, h⟩ := obind h
      refine Wc.r2 [{}, {}, { r := some (.v (.sl (List.map GClause.c zz)) [(0, .app 43)]) }, { tk := [56] }] ⟨[(4, (.v (.sl (List.map cI.i64 vm)), [(0, .app 3)])), tI 5 (wr.i64 (1 + (Int.tmod u5 5))), tB 9 zv.2, tP 10 10, tP 11 11, (12, (.v (.sl (List.map GClause.c zz)), [(0, .app 43)]))], [bC 10 (GLoaded.q zj), bC 11 (GLoaded.q u0s)], []⟩ (.cons (cspec_ClausesOf h18) .nil) ?_
      apply Wc.seq
      apply Wc.seq
      refine Wc.r0 ⟨[(4, (.v (.sl (List.map cI.i64 vm)), [(0, .app 3)])), tI 5 (wr.i64 (1 + (Int.tmod u5 5))), tB 9 zv.2, tP 10 10, tP 11 11, (12, (.v (.sl (List.map GClause.c zz)), [(0, .app 43)])), tI 13 0], [bC 10 (GLoaded.q zj), bC 11 (GLoaded.q u0s)], []⟩ ?_
      obtain ⟨out2, h19, h⟩ := obind h
      refine Wc.lastJ (fun st => out2 = .done () ∧ st = ⟨[tI 5 (wr.i64 (1 + (Int.tmod u5 5))), tB 9 zv.2, tP 10 10, tP 11 11], [bC 10 (GLoaded.q zj), bC 11 (GLoaded.q u0s)], []⟩) ?_ ?_
      · refine Wc.block ?_
        refine Wc.loop (fun m st => ∃ (uc : Int), st = ⟨[(4, (.v (.sl (List.map cI.i64 vm)), [(0, .app 3)])), tI 5 (wr.i64 (1 + (Int.tmod u5 5))), tB 9 zv.2, tP 10 10, tP 11 11, (12, (.v (.sl (List.map GClause.c zz)), [(0, .app 43)])), tI 13 uc], [bC 10 (GLoaded.q zj), bC 11 (GLoaded.q u0s)], []⟩ ∧ plaws_FnLoadsAgain_L2 k u5 zz vm m uc = some out2) ?_ k ⟨_, rfl, h19⟩
        rintro m st ⟨uc, rfl, h19⟩
        cases m with
        | zero => exact (onone h19).elim
        | succ m =>
          apply Wc.seq
          apply Wc.seq
          refine Wc.r0 ⟨[(4, (.v (.sl (List.map cI.i64 vm)), [(0, .app 3)])), tI 5 (wr.i64 (1 + (Int.tmod u5 5))), tB 9 zv.2, tP 10 10, tP 11 11, (12, (.v (.sl (List.map GClause.c zz)), [(0, .app 43)])), tI 13 uc, tB 59 (decide (uc < (wr.i64 (1 + (Int.tmod u5 5)))))], [bC 10 (GLoaded.q zj), bC 11 (GLoaded.q u0s)], []⟩ ?_
          rcases oif h19 with ⟨h20, h19⟩ | ⟨h20, h19⟩
          · refine Wc.cT h20 ?_
            refine Wc.fx [] ⟨[(4, (.v (.sl (List.map cI.i64 vm)), [(0, .app 3)])), tI 5 (wr.i64 (1 + (Int.tmod u5 5))), tB 9 zv.2, tP 10 10, tP 11 11, (12, (.v (.sl (List.map GClause.c zz)), [(0, .app 43)])), tI 13 uc], [bC 10 (GLoaded.q zj), bC 11 (GLoaded.q u0s)], []⟩ ?_
            refine Wc.skip ?_
            apply Wc.seq
            refine Wc.block ?_
            apply Wc.seq
            rcases oif h19 with ⟨h21, h19⟩ | ⟨h21, h19⟩
            · refine Wc.draw hmix [{}, { v := some (aI (zz.length : Int)) }, {}, {}, { re := some (.bool true) }] [] [4, 5, 9, 10, 11, 12, 13, 83] [10, 11] [] ⟨[(4, (.v (.sl (List.map cI.i64 vm)), [(0, .app 3)])), tI 5 (wr.i64 (1 + (Int.tmod u5 5))), tB 9 zv.2, tP 10 10, tP 11 11, (12, (.v (.sl (List.map GClause.c zz)), [(0, .app 43)])), tI 13 uc, tB 83 true], [bC 10 (GLoaded.q zj), bC 11 (GLoaded.q u0s)], []⟩ _ (by kernel_rfl) (fun X => by kernel_rfl) (.cons (len_obl GClause.c zz) (.cons (congrArg AV.bool h21) .nil)) ?_
              refine Wc.cT rfl ?_
              apply Wc.seq
              refine Wc.r0 ⟨[tB 2 false], [], []⟩ ?_
              refine Wc.ret ?_
              obtain rfl := Option.some.inj h19
              obtain rfl := Option.some.inj h
              exact ⟨.inl rfl, by kernel_rfl, by kernel_rfl⟩
            · obtain ⟨zp, h22, h19⟩ := obind h19
              obtain ⟨zy, h23, h19⟩ := obind h19
              obtain ⟨vt, h24, h19⟩ := obind h19
              obtain ⟨h25, h19⟩ := oguard h19
              refine Wc.draw hmix [{}, { v := some (aI (zz.length : Int)) }, {}, {}, { re := some (.bool false) }, {}, {}, { v := some (.vptr (GClause.q zp)) }, {}, {}, {}, { v := some (.vptr (GTerm.q zy)) }, {}, {}, {}, {}, {}, { v := some (.vptr [aI vt]) }] [] [4, 5, 9, 10, 11, 12, 13, 83] [10, 11] [] ⟨[(4, (.v (.sl (List.map cI.i64 vm)), [(0, .app 3)])), tI 5 (wr.i64 (1 + (Int.tmod u5 5))), tB 9 zv.2, tP 10 10, tP 11 11, (12, (.v (.sl (List.map GClause.c zz)), [(0, .app 43)])), tI 13 uc, tB 83 (zy.gNum != (Int.tmod vt 100))], [bC 10 (GLoaded.q zj), bC 11 (GLoaded.q u0s)], []⟩ _ (by kernel_rfl) (fun X => by kernel_rfl) (.cons (len_obl GClause.c zz) (.cons (congrArg AV.bool h21) (.cons (at_obl (c := GClause.c) (GClause.c_eq zp) GClause.c_len h22) (.cons (len_ok 1 [.sl (List.map GTerm.c zp.gHead.gKids), aI zp.gBody.gKind, .str zp.gBody.gName, aI zp.gBody.gNum, .sl (List.map GTerm.c zp.gBody.gKids), .str zp.gFile]) (.cons (at_obl (c := GTerm.c) (GTerm.c_eq zy) GTerm.c_len h23) (.cons (len_ok 1 [aI zy.gNum, .sl (List.map GTerm.c zy.gKids)]) (.cons (at_obl (c := cI.i64) rfl cI.i64_len h24) (.cons (len_ok 1 [aI vt]) (.cons h25 .nil))))))))) ?_
              rcases oif h19 with ⟨h26, h19⟩ | ⟨h26, h19⟩
              · refine Wc.cT h26 ?_
                apply Wc.seq
                refine Wc.r0 ⟨[tB 2 false], [], []⟩ ?_
                refine Wc.ret ?_
                obtain rfl := Option.some.inj h19
                obtain rfl := Option.some.inj h
                exact ⟨.inl rfl, by kernel_rfl, by kernel_rfl⟩
              · refine Wc.cF h26 ?_
                refine Wc.fx [] ⟨[(4, (.v (.sl (List.map cI.i64 vm)), [(0, .app 3)])), tI 5 (wr.i64 (1 + (Int.tmod u5 5))), tB 9 zv.2, tP 10 10, tP 11 11, (12, (.v (.sl (List.map GClause.c zz)), [(0, .app 43)])), tI 13 uc], [bC 10 (GLoaded.q zj), bC 11 (GLoaded.q u0s)], []⟩ ?_
                refine Wc.skip ?_
                refine Wc.r0 ⟨[(4, (.v (.sl (List.map cI.i64 vm)), [(0, .app 3)])), tI 5 (wr.i64 (1 + (Int.tmod u5 5))), tB 9 zv.2, tP 10 10, tP 11 11, (12, (.v (.sl (List.map GClause.c zz)), [(0, .app 43)])), tI 13 (wr.i64 (uc + 1))], [bC 10 (GLoaded.q zj), bC 11 (GLoaded.q u0s)], []⟩ ?_
                exact ⟨_, Nat.lt_succ_self _, _, rfl, h19⟩
          · refine Wc.cF h20 ?_
            refine Wc.fx [] ⟨[tI 5 (wr.i64 (1 + (Int.tmod u5 5))), tB 9 zv.2, tP 10 10, tP 11 11], [bC 10 (GLoaded.q zj), bC 11 (GLoaded.q u0s)], []⟩ ?_
            refine Wc.exit ?_
            obtain rfl := Option.some.inj h19
            exact ⟨rfl, rfl⟩
      · rintro st ⟨rfl, rfl⟩
        apply Wc.seq
        rcases oif h with ⟨h27, h⟩ | ⟨h27, h⟩
        · obtain ⟨z8, h28, h⟩ := obind h
          rcases oif h with ⟨h29, h⟩ | ⟨h29, h⟩
          · rcases oif h with ⟨h30, h⟩ | ⟨h30, h⟩
            · rcases oif h with ⟨h31, h⟩ | ⟨h31, h⟩
              · rcases oif h with ⟨h32, h⟩ | ⟨h32, h⟩
                · obtain ⟨u3i, h33, h⟩ := obind h
                  refine Wc.r2 [{}, { re := some (.bool true) }, {}, {}, {}, {}, { r := some (.v (.bool z8) []) }, {}, { re := some (.bool true) }, {}, {}, {}, {}, { re := some (.bool true) }, {}, {}, {}, {}, { re := some (.bool true) }, {}, {}, {}, { v := some (aI (zj.gDb.gClauses.length : Int)) }, {}, {}, {}, { re := some (.bool true) }, {}, {}, {}, { v := some (.vptr (GClause.q u3i)) }] ⟨[tB 2 (sEq u3i.gFile (bs [102, 97, 99, 116, 115]))], [], []⟩ (.cons (congrArg AV.bool h27) (.cons (claws_sameDb h28) (.cons (congrArg AV.bool h29) (.cons (congrArg AV.bool h30) (.cons (congrArg AV.bool h31) (.cons (len_obl GClause.c zj.gDb.gClauses) (.cons (congrArg AV.bool h32) (.cons (at_obl (c := GClause.c) (GClause.c_eq u3i) GClause.c_len h33) (.cons (len_ok 1 [.str u3i.gFile]) .nil))))))))) ?_
                  obtain rfl := Option.some.inj h; exact Wc.ret dn
                · refine Wc.r2 [{}, { re := some (.bool true) }, {}, {}, {}, {}, { r := some (.v (.bool z8) []) }, {}, { re := some (.bool true) }, {}, {}, {}, {}, { re := some (.bool true) }, {}, {}, {}, {}, { re := some (.bool true) }, {}, {}, {}, { v := some (aI (zj.gDb.gClauses.length : Int)) }, {}, {}, {}, { re := some (.bool false) }] ⟨[tB 2 false], [], []⟩ (.cons (congrArg AV.bool h27) (.cons (claws_sameDb h28) (.cons (congrArg AV.bool h29) (.cons (congrArg AV.bool h30) (.cons (congrArg AV.bool h31) (.cons (len_obl GClause.c zj.gDb.gClauses) (.cons (congrArg AV.bool h32) .nil))))))) ?_
                  obtain rfl := Option.some.inj h; exact Wc.ret dn
              · refine Wc.r2 [{}, { re := some (.bool true) }, {}, {}, {}, {}, { r := some (.v (.bool z8) []) }, {}, { re := some (.bool true) }, {}, {}, {}, {}, { re := some (.bool true) }, {}, {}, {}, {}, { re := some (.bool false) }] ⟨[tB 2 false], [], []⟩ (.cons (congrArg AV.bool h27) (.cons (claws_sameDb h28) (.cons (congrArg AV.bool h29) (.cons (congrArg AV.bool h30) (.cons (congrArg AV.bool h31) .nil))))) ?_
                obtain rfl := Option.some.inj h; exact Wc.ret dn
            · refine Wc.r2 [{}, { re := some (.bool true) }, {}, {}, {}, {}, { r := some (.v (.bool z8) []) }, {}, { re := some (.bool true) }, {}, {}, {}, {}, { re := some (.bool false) }] ⟨[tB 2 false], [], []⟩ (.cons (congrArg AV.bool h27) (.cons (claws_sameDb h28) (.cons (congrArg AV.bool h29) (.cons (congrArg AV.bool h30) .nil)))) ?_
              obtain rfl := Option.some.inj h; exact Wc.ret dn
          · refine Wc.r2 [{}, { re := some (.bool true) }, {}, {}, {}, {}, { r := some (.v (.bool z8) []) }, {}, { re := some (.bool false) }] ⟨[tB 2 false], [], []⟩ (.cons (congrArg AV.bool h27) (.cons (claws_sameDb h28) (.cons (congrArg AV.bool h29) .nil))) ?_
            obtain rfl := Option.some.inj h; exact Wc.ret dn
        · refine Wc.r2 [{}, { re := some (.bool false) }] ⟨[tB 2 false], [], []⟩ (.cons (congrArg AV.bool h27) .nil) ?_
          obtain rfl := Option.some.inj h; exact Wc.ret dn
end Go.Proofs.YtbchncaolapbhaaGreatDoor
